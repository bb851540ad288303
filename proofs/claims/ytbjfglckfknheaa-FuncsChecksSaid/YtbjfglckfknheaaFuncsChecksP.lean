/- For any functions funcs.Check returns the specified results: FuncsChecks returns true and changes nothing; no conditions. -/
import Derived.Test.YtbjfglckfknheaaRows
import Derived.WalkKit
import Derived.ProofKit
import Derived.OpenShut
import Derived.ShutString
import Derived.ChangeOld
import Derived.Below
import Derived.Test.YtbjfglckfknheaaFuncsChecksM
set_option linter.all false
set_option maxRecDepth 100000
namespace Go.Proofs.Ytbjfglckfknheaa.funcsChecks
open Go Go.Sl

theorem within_eq (a b c : Int) : ref_Within a b c = some (decide (a ≤ b ∧ b ≤ c)) := by
  unfold ref_Within
  rw [Bool.decide_and]

theorem inside1 (n v : Int) : ref_Inside n [v] = some (decide (0 ≤ v ∧ v < n)) := by
  unfold ref_Inside
  rw [forL_ex (p := fun v => decide (v < 0) || decide (v ≥ n)) (y := Esc.ret false) (fun i a _ => by unfold ref_Inside_b1; cases (decide (a < 0) || decide (a ≥ n)) <;> rfl)]
  by_cases h : 0 ≤ v ∧ v < n
  · have : (decide (v < 0) || decide (v ≥ n)) = false := by simp only [Bool.or_eq_false_iff, decide_eq_false_iff_not]; omega
    simp [this, h]
  · have : (decide (v < 0) || decide (v ≥ n)) = true := by simp only [Bool.or_eq_true, decide_eq_true_eq]; omega
    simp [this, h]

abbrev FN := Int × (Int × (Int × (Int × (Int × List Int))))
def inN (n : Nat) (j : Int) : Bool := decide (0 ≤ j ∧ j < (n : Int))
def argOf (l : List FN) (j : Int) : Int := ((l[j.toNat]?).map (·.2.1)).getD 0
def fcT (l : List FN) (n : Nat) (j args : Int) : Int := bif inN n j then (bif argOf l j != args then 3 else 0) else 2
theorem fc_idx {l : List FN} {n : Nat} (hn : n ≤ l.length) {j : Int} (h : inN n j = true) : ∃ f : FN, idx l j = some f ∧ f.2.1 = argOf l j := by
  unfold inN at h
  have h := of_decide_eq_true h
  obtain ⟨f, h1, h2⟩ := idx_get (xs := l) h.1 (by omega)
  exact ⟨f, h1, by unfold argOf; rw [h2]; rfl⟩
theorem fc_there {l : List FN} {n : Nat} (hn : n ≤ l.length) (j args : Int) : funcs_wrong_1 j args (n : Int) l = some (fcT l n j args) := by
  unfold funcs_wrong_1 fcT
  have e : ((decide (j < (0 : Int))) || (decide (j ≥ (n : Int)))) = !inN n j := by
    unfold inN; rw [or_dec, not_dec]; exact decide_eq_decide.2 (by omega)
  rw [e]
  cases h : inN n j with
  | false => rfl
  | true =>
    obtain ⟨f, h1, h2⟩ := fc_idx hn h
    rw [h1, ← h2]
    simp only [Bool.not_true, cond_false, cond_true, bind_some']
    cases (f.2.1 != args) <;> rfl
def fcAsk (l : List Int) : Int := bif l.any (2 == ·) then 2 else bif l.any (3 == ·) then 3 else 0
def fcArgs (v : FN) : Bool := !decide ((bif v.1 == 2 || v.1 == 5 then (1 : Int) else 0) ≤ v.2.1 ∧ v.2.1 ≤ 4) || (v.1 == 2 && decide (v.2.1 > 1)) || (v.1 == 4 && decide ((v.2.2.2.2.2.length : Int) > 4))
def fcL (l : List FN) (n : Nat) (v : FN) : List Int :=
  bif v.1 == 4 then fcT l n v.2.2.2.1 v.2.2.2.2.2.length :: v.2.2.2.2.2.map (fcT l n · v.2.1) else bif v.1 == 5 then [fcT l n v.2.2.2.1 (v.2.1 - 1), fcT l n v.2.2.2.2.1 (v.2.1 + 1)] else []
def fcz (l : List FN) (n : Nat) (v : FN) : Int :=
  bif !decide (1 ≤ v.1 ∧ v.1 ≤ 5) then 6 else bif fcArgs v then 1 else bif v.1 == 3 && !decide (0 ≤ v.2.2.1 ∧ v.2.2.1 < v.2.1) then 4 else fcAsk (fcL l n v)
theorem fc_has (x : Int) (l : List Int) : slices_Contains_LapiErrnoapiErrno x l = some (l.any (x == ·)) := by
  unfold slices_Contains_LapiErrnoapiErrno slices_Index_LapiErrnoapiErrno
  rcases forL_at (body := slices_Index_LapiErrnoapiErrno_b1 x) (fin := fun _ => (Esc.brk () : Esc Int Unit)) (p := (x == ·)) (g := fun j => Esc.ret j) (l := l)
    (fun i a _ => by unfold slices_Index_LapiErrnoapiErrno_b1; cases (x == a) <;> rfl) (i := 0) with ⟨h1, h2⟩ | ⟨h1, j, h2, h3, h4⟩
  · rw [h2, h1]; rfl
  · rw [h4, h1]; simp [h2]
theorem fc_ask (l : List Int) : forI (0 : Int) (2 : Int) (funcs_wrong_b16 l) (fun x187 => (Esc.brk () : Esc Int Unit)) () = some (bif fcAsk l != 0 then Esc.ret (fcAsk l) else Esc.brk ()) := by
  unfold forI
  rw [if_pos ⟨by omega, by omega⟩]
  show loopI (funcs_wrong_b16 l) (fun x187 => (Esc.brk () : Esc Int Unit)) 2 0 () = _
  have h0 : funcs_wrong_b16 l 0 () = some (bif l.any (2 == ·) then .done (.ret 2) else .next ()) := by
    unfold funcs_wrong_b16
    have : idx [(2 : Int), (3 : Int)] 0 = some 2 := rfl
    rw [this, bind_some', fc_has, bind_some']
    cases l.any (2 == ·) <;> rfl
  have h1 : funcs_wrong_b16 l (0 + 1) () = some (bif l.any (3 == ·) then .done (.ret 3) else .next ()) := by
    unfold funcs_wrong_b16
    have : idx [(2 : Int), (3 : Int)] (0 + 1) = some 3 := rfl
    rw [this, bind_some', fc_has, bind_some']
    cases l.any (3 == ·) <;> rfl
  unfold fcAsk
  simp only [loopI, h0]
  cases l.any (2 == ·) with
  | true => rfl
  | false =>
    simp only [cond_false, h1]
    cases l.any (3 == ·) <;> rfl
theorem fc_g4 (v : FN) : funcs_wrong_g4 v (bif v.1 == 2 || v.1 == 5 then (1 : Int) else 0) = some (fcArgs v) := by
  unfold funcs_wrong_g4 fcArgs
  generalize (bif v.1 == 2 || v.1 == 5 then (1 : Int) else 0) = q
  by_cases h1 : v.2.1 < q
  · have : ¬ (q ≤ v.2.1 ∧ v.2.1 ≤ 4) := by omega
    rw [decide_eq_true h1, decide_eq_false this]; rfl
  · by_cases h2 : v.2.1 > 4
    · have : ¬ (q ≤ v.2.1 ∧ v.2.1 ≤ 4) := by omega
      rw [decide_eq_false h1, decide_eq_true h2, decide_eq_false this]; rfl
    · have : q ≤ v.2.1 ∧ v.2.1 ≤ 4 := by omega
      rw [decide_eq_false h1, decide_eq_false h2, decide_eq_true this]
      cases (v.1 == 2) <;> cases (decide (v.2.1 > 1)) <;> cases (v.1 == 4) <;> rfl
theorem fc_least (v : FN) : ((bif v.1 == (2 : Int) then (some true) else (some (v.1 == (5 : Int)))).bind fun v18 => bif v18 then (some (1 : Int)) else (some (0 : Int))) = some (bif v.1 == 2 || v.1 == 5 then (1 : Int) else 0) := by
  cases (v.1 == 2) <;> cases (v.1 == 5) <;> rfl
theorem fc_args {v : FN} (h : fcArgs v = false) : (v.1 == 5) = true → 1 ≤ v.2.1 ∧ v.2.1 ≤ 4 := by
  intro h5
  unfold fcArgs at h
  rw [h5] at h
  simp only [Bool.or_true, cond_true, Bool.or_eq_false_iff, Bool.not_eq_false', decide_eq_true_eq] at h
  exact h.1.1
theorem fc_into {v : FN} (h : fcArgs v = false) : (v.1 == 4) = true → v.2.2.2.2.2.length ≤ 4 := by
  intro h4
  unfold fcArgs at h
  rw [h4] at h
  simp only [Bool.true_and, Bool.or_eq_false_iff, decide_eq_false_iff_not] at h
  omega
theorem fc_prog {l : List FN} {n : Nat} {v : FN} (hv : l[n]? = some v) : funcs_wrong l (n : Int) = some (fcz l n v) := by
  have hn : n ≤ l.length := Nat.le_of_lt (List.getElem?_eq_some_iff.1 hv).1
  unfold funcs_wrong fcz
  rw [idx_nat, hv, bind_some', fc_least, bind_some']
  have e1 : (bif decide (v.1 < (1 : Int)) then (some true) else (some (decide (v.1 > (5 : Int))))) = some (!decide (1 ≤ v.1 ∧ v.1 ≤ 5)) := by
    rw [bif_some]; congr 1
    by_cases h : v.1 < 1
    · have : ¬ (1 ≤ v.1 ∧ v.1 ≤ 5) := by omega
      simp [h, this]
    · rw [decide_eq_false h, cond_false, not_dec]; exact decide_eq_decide.2 (by omega)
  have e2 : (bif v.1 == (3 : Int) then (bif decide (v.2.2.1 < (0 : Int)) then (some true) else (some (decide (v.2.2.1 ≥ v.2.1)))) else (some false)) = some (v.1 == 3 && !decide (0 ≤ v.2.2.1 ∧ v.2.2.1 < v.2.1)) := by
    cases (v.1 == 3) with
    | false => rfl
    | true =>
      rw [cond_true, bif_some, Bool.true_and]; congr 1
      by_cases h : v.2.2.1 < 0
      · have : ¬ (0 ≤ v.2.2.1 ∧ v.2.2.1 < v.2.1) := by omega
        simp [h, this]
      · rw [decide_eq_false h, cond_false, not_dec]; exact decide_eq_decide.2 (by omega)
  rw [e1, bind_some', fc_g4, bind_some', e2, bind_some']
  cases decide (1 ≤ v.1 ∧ v.1 ≤ 5) with
  | false => rfl
  | true =>
    cases ha : fcArgs v with
    | true => rfl
    | false =>
      cases (v.1 == 3 && !decide (0 ≤ v.2.2.1 ∧ v.2.2.1 < v.2.1)) with
      | true => rfl
      | false =>
        have hL : ((funcs_wrong_g14 l (n : Int) v).bind fun v152 => (funcs_wrong_g15 l (n : Int) v v152)) = some (fcL l n v) := by
          unfold funcs_wrong_g14 funcs_wrong_g15 fcL
          cases h4 : (v.1 == 4) with
          | true =>
            have h5 : (v.1 == 5) = false := by
              have : v.1 = 4 := by simpa using h4
              rw [this]; rfl
            have hi := fc_into ha h4
            rw [h5]
            simp only [cond_true, cond_false]
            rw [fc_there hn, bind_some']
            obtain ⟨y, p1, p2⟩ := forL_inv (body := funcs_wrong_b11 l (n : Int) v) (fin := fun x => x) (l := v.2.2.2.2.2) (x := [fcT l n v.2.2.2.1 (v.2.2.2.2.2.length : Int)]) (fun k x => k ≤ 4 ∧ x = fcT l n v.2.2.2.1 (v.2.2.2.2.2.length : Int) :: (v.2.2.2.2.2.take k).map (fcT l n · v.2.1)) (fun y => y = fcT l n v.2.2.2.1 (v.2.2.2.2.2.length : Int) :: v.2.2.2.2.2.map (fcT l n · v.2.1)) ⟨by omega, by simp⟩
              (fun k a x hk hx => by
                have hkl := (List.getElem?_eq_some_iff.1 hk).1
                obtain ⟨hk4, rfl⟩ := hx
                have hck : ck ((List.length (fcT l n v.2.2.2.1 (v.2.2.2.2.2.length : Int) :: (v.2.2.2.2.2.take k).map (fcT l n · v.2.1)) : Int) + 1 ≤ 4294967296) = some () := ck_ok (by simp; omega)
                unfold funcs_wrong_b11
                rw [fc_there hn, bind_some', hck, bind_some']
                refine ⟨_, rfl, by omega, ?_⟩
                rw [List.take_add_one, hk]; simp)
              (fun x hx => by rw [hx.2, List.take_length])
            rw [p1, bind_some', bind_some', p2]
          | false =>
            cases h5 : (v.1 == 5) with
            | true =>
              have hr := fc_args ha h5
              simp only [cond_true, cond_false, bind_some']
              rw [w64_id (by omega) (by omega), w64_id (by omega) (by omega), fc_there hn, bind_some', fc_there hn, bind_some', ck_ok (by simp), bind_some']; rfl
            | false => rfl
        have hL2 : ∀ {β : Type} (k : List Int → Option β), ((funcs_wrong_g14 l (n : Int) v).bind fun v152 => (funcs_wrong_g15 l (n : Int) v v152).bind k) = k (fcL l n v) := by
          intro β k
          rw [← Option.bind_assoc, hL]; rfl
        simp only [Bool.not_true, cond_false]
        rw [hL2, fc_ask, bind_some']
        cases hz : (fcAsk (fcL l n v) != 0) with
        | true => rfl
        | false => have : fcAsk (fcL l n v) = 0 := by simpa using hz
                   rw [this]; rfl
theorem fc_two (l : List FN) (n : Nat) (j a : Int) : ((2 : Int) == fcT l n j a) = !inN n j := by
  unfold fcT
  cases inN n j <;> cases (argOf l j != a) <;> rfl
theorem fc_three (l : List FN) (n : Nat) (j a : Int) : ((3 : Int) == fcT l n j a) = (inN n j && (argOf l j != a)) := by
  unfold fcT
  cases inN n j <;> cases (argOf l j != a) <;> rfl
theorem fc_insides (n : Nat) (l : List Int) : ref_Inside (n : Int) l = some (!l.any fun j => !inN n j) := by
  unfold ref_Inside
  rw [forL_ex (p := fun j => !inN n j) (y := Esc.ret false) (fun i a _ => by
    unfold ref_Inside_b1
    have e : ((decide (a < (0 : Int))) || (decide (a ≥ (n : Int)))) = !inN n a := by
      unfold inN; rw [or_dec, not_dec]; exact decide_eq_decide.2 (by omega)
    rw [e]; cases inN n a <;> rfl)]
  cases (l.any fun j => !inN n j) <;> rfl
theorem fc_ref {l : List FN} {n : Nat} {v : FN} (hv : l[n]? = some v) : ref_FuncsCheck_b218 l (n : Int) v () = some (bif fcz l n v != 0 then .done (.ret (fcz l n v)) else .next ()) := by
  have hn : n ≤ l.length := Nat.le_of_lt (List.getElem?_eq_some_iff.1 hv).1
  unfold ref_FuncsCheck_b218 ref_FuncsCheck_g215 fcz
  rw [within_eq, bind_some', fc_least, bind_some']
  have e1 : ref_FuncsCheck_g193 v (bif v.1 == 2 || v.1 == 5 then (1 : Int) else 0) = some (fcArgs v) := by
    unfold ref_FuncsCheck_g193 fcArgs
    rw [within_eq, bind_some']
    cases h2 : (v.1 == 2) with
    | true =>
      have h4 : (v.1 == 4) = false := by
        have : v.1 = 2 := by simpa using h2
        rw [this]; rfl
      rw [h4]
      simp only [Bool.true_or, cond_true, Bool.true_and, Bool.false_and, Bool.or_false]
      by_cases h : (1 : Int) ≤ v.2.1 ∧ v.2.1 ≤ 4
      · rw [decide_eq_true h]
        have : (v.2.1 != 1) = decide (v.2.1 > 1) := by rw [bne_dec]; exact decide_eq_decide.2 (by omega)
        rw [this]
        cases decide (v.2.1 > 1) <;> rfl
      · rw [decide_eq_false h]; rfl
    | false =>
      generalize (bif false || v.1 == 5 then (1 : Int) else 0) = q
      cases decide (q ≤ v.2.1 ∧ v.2.1 ≤ 4) <;> cases (v.1 == 4) <;> simp
  rw [e1, bind_some']
  have e2 : (bif v.1 == (3 : Int) then ((ref_Inside v.2.1 [v.2.2.1]).bind fun r2040 => some (!r2040)) else (some false)) = some (v.1 == 3 && !decide (0 ≤ v.2.2.1 ∧ v.2.2.1 < v.2.1)) := by
    rw [inside1]
    cases (v.1 == 3) <;> rfl
  rw [e2, bind_some']
  cases decide (1 ≤ v.1 ∧ v.1 ≤ 5) with
  | false => rfl
  | true =>
    cases ha : fcArgs v with
    | true => rfl
    | false =>
      cases (v.1 == 3 && !decide (0 ≤ v.2.2.1 ∧ v.2.2.1 < v.2.1)) with
      | true => rfl
      | false =>
        simp only [Bool.not_true, cond_false]
        unfold ref_FuncsCheck_g207 ref_FuncsCheck_g208 fcL fcAsk
        cases h4 : (v.1 == 4) with
        | true =>
          have h5 : (v.1 == 5) = false := by
            have : v.1 = 4 := by simpa using h4
            rw [this]; rfl
          rw [h5]
          simp only [cond_true, cond_false, List.any_cons, List.any_map, Function.comp_def, fc_two, fc_three, fc_insides, bind_some', List.any_nil, Bool.or_false, Bool.not_not]
          cases hA : inN n v.2.2.2.1 with
          | false => rfl
          | true =>
            cases hI : (v.2.2.2.2.2.any fun j => !inN n j) with
            | true => rfl
            | false =>
              obtain ⟨f, f1, f2⟩ := fc_idx hn hA
              have hall : ∀ j ∈ v.2.2.2.2.2, inN n j = true := fun j hj => by simpa using List.any_eq_false.1 hI j hj
              have hany : (v.2.2.2.2.2.any fun x => inN n x && argOf l x != v.2.1) = v.2.2.2.2.2.any fun x => argOf l x != v.2.1 := by
                rw [Bool.eq_iff_iff, List.any_eq_true, List.any_eq_true]
                constructor
                · rintro ⟨x, hx, h⟩; rw [hall x hx, Bool.true_and] at h; exact ⟨x, hx, h⟩
                · rintro ⟨x, hx, h⟩; exact ⟨x, hx, by rw [hall x hx, Bool.true_and]; exact h⟩
              rw [f1, hany]
              rw [forL_ex (p := fun j => argOf l j != v.2.1) (y := Esc.ret 3) (fun i j hj => by
                obtain ⟨g, g1, g2⟩ := fc_idx hn (hall j hj)
                unfold ref_FuncsCheck_b202
                rw [g1, bind_some', g2]
                cases (argOf l j != v.2.1) <;> rfl)]
              simp only [Bool.not_true, Bool.not_false, Bool.true_and, Bool.false_or, Bool.or_false, bind_some', cond_false, f2]
              cases (argOf l v.2.2.2.1 != (v.2.2.2.2.2.length : Int)) <;> cases (v.2.2.2.2.2.any fun j => argOf l j != v.2.1) <;> rfl
        | false =>
          cases h5 : (v.1 == 5) with
          | true =>
            have hr := fc_args ha h5
            simp only [cond_true, cond_false, List.any_cons, fc_two, fc_three, fc_insides, bind_some', List.any_nil, Bool.or_false, Bool.not_not]
            rw [w64_id (by omega) (by omega), w64_id (by omega) (by omega)]
            cases hA : inN n v.2.2.2.1 with
            | false => rfl
            | true =>
              cases hB : inN n v.2.2.2.2.1 with
              | false => rfl
              | true =>
                obtain ⟨f, f1, f2⟩ := fc_idx hn hA
                obtain ⟨g, g1, g2⟩ := fc_idx hn hB
                rw [f1, g1]
                simp only [Bool.not_true, Bool.true_and, Bool.false_or, Bool.or_false, bind_some', cond_false, f2, g2]
                cases (argOf l v.2.2.2.1 != (v.2.1 - 1)) <;> cases (argOf l v.2.2.2.2.1 != (v.2.1 + 1)) <;> rfl
          | false => rfl
theorem FuncsChecks_true (a0 : List (Int × (Int × (Int × (Int × (Int × List Int)))))) (f0 : Fits (.slice (.pair (.int .i64) (.pair (.int .i64) (.pair (.int .i64) (.pair (.int .i64) (.pair (.int .i64) (.slice (.int .i64)))))))) a0) : law_FuncsChecks a0 = some true := by
  have key : ∃ z, funcs_Check a0 = some z ∧ ref_FuncsCheck a0 = some z := by
    unfold funcs_Check ref_FuncsCheck
    have e : ((decide ((List.length a0 : Int) < (1 : Int))) || (decide ((List.length a0 : Int) > (12 : Int)))) = !decide (1 ≤ (a0.length : Int) ∧ (a0.length : Int) ≤ 12) := by
      rw [or_dec, not_dec]; exact decide_eq_decide.2 (by omega)
    rw [within_eq, bind_some', e]
    cases decide (1 ≤ (a0.length : Int) ∧ (a0.length : Int) ≤ 12) with
    | false => exact ⟨1, rfl, rfl⟩
    | true =>
      obtain ⟨y, h1, h2, _⟩ := forL_eq (body := funcs_Check_b1 a0) (body' := ref_FuncsCheck_b218 a0) (fin := fun _ => (Esc.brk () : Esc Int Unit)) (l := a0) (x := ()) (Inv := fun _ _ => True) (Post := fun _ => True) trivial
        (fun n v x hv _ => by
          refine ⟨bif fcz a0 n v != 0 then .done (.ret (fcz a0 n v)) else .next (), ?_, fc_ref hv, by cases (fcz a0 n v != 0) <;> trivial⟩
          unfold funcs_Check_b1
          rw [fc_prog hv, bind_some']
          cases (fcz a0 n v != 0) <;> rfl) (fun _ _ => trivial)
      simp only [Bool.not_true, cond_false]
      rw [h1, h2]
      cases y with
      | ret z => exact ⟨z, rfl, rfl⟩
      | brk z => exact ⟨0, rfl, rfl⟩
  obtain ⟨z, h1, h2⟩ := key
  unfold law_FuncsChecks
  rw [h1, h2]
  simp

end Go.Proofs.Ytbjfglckfknheaa.funcsChecks
namespace Go.Proofs.Ytbjfglckfknheaa.funcsChecks
open Go.ChangeShapes Go.WideShapes Go.ChangeAt Go.RowKit
open Go.ChangeMaps (open_string shut_string)
theorem own : ownKnob Try.prog.godebug = none := by kernel_rfl
theorem laidOut : laidOutB Try.prog = true := by kernel_rfl
theorem lifted (os : Os) (started : os.Started) (H : Type) (enc : TypeId × Value → H) :
    ReturnsInHanded {} Try.checked os 9 .any (Rows.funcsChecksSpec.pre6 enc Try.prog Try.f9 Rows.funcsChecksRow.domain false) (Rows.funcsChecksSpec.post enc Try.prog Try.f9 false true false false) := by
  refine returnsInHanded_of_change (C := Try.checked) own started (by kernel_rfl) Try.func9
    (ChangeSpec.witness6 (enc := enc) (C := Try.checked) false ⟨#[], #[.slice none 0 0], []⟩ 8 (by kernel_rfl) (by kernel_rfl) (by kernel_rfl) (by kernel_rfl)) ?_
  intro W base args ds gs before hval0 hW hcnd _
  have hval : ∀ (j : Nat) t v, Try.f9.params[j]? = some t → args[j]? = some v → Value.okWide Try.prog W .any base t v := hval0
  have hW' := hW
  obtain ⟨p, q, hA0, hV, rfl, hfz, hnd⟩ := hW
  have hA : DataW.TrodAll enc Try.prog W 0 (fun _ => true) true Try.f9.params.toList args.toList ds p := hA0
  rw [Try.params9] at hA hval
  obtain ⟨v0, vs0, d0, ds0, p0, q0, hargs, rfl, rfl, h0, r0⟩ := trodAll_cons hA
  obtain ⟨rfl, rfl, rfl⟩ := trodAll_nil r0
  obtain rfl : args = #[v0] := by cases args; simp_all
  obtain ⟨rfl, rfl⟩ := trodVars_none hV
  obtain ⟨x0, f0, k0⟩ := Go.Sl.read_arg (u := (.slice (.pair (.int .i64) (.pair (.int .i64) (.pair (.int .i64) (.pair (.int .i64) (.pair (.int .i64) (.slice (.int .i64))))))))) (by kernel_rfl) (by kernel_rfl) (hval 0 59 v0 rfl rfl) h0
  have lt0 : ∀ x ∈ p0, x.block < W.heap.size := by obtain ⟨m, hm⟩ := h0; exact DataW.trod_lt m _ _ _ hm
  clear hA0 hval0
  have hm := FuncsChecks_true x0 f0
  refine (Go.Sl.law_of (vs := [v0]) (law_FuncsChecks_ok hm) rfl (.cons (k0 _ _) .nil)).mono fun e W' ⟨he, bel⟩ => ?_
  subst he
  exact ⟨_, rfl, _, _, _, [], _, [], hW', trodAll_mk1 (shut_bool Try.underlying4 _), (trodAll_cons_mk (Below.trod laidOut (by kernel_rfl) (of_decide_eq_true (by kernel_rfl)) h0 bel lt0) trodAll_mk0), rfl, bel.frame _, fun h => by cases h⟩
theorem proved : Rows.FuncsChecksSaid :=
  OpenClaim.holds_of_wide 9 Try.f9 rfl rfl rfl rfl rfl rfl rfl ⟨rfl, rfl, rfl, rfl, rfl⟩ rfl rfl rfl rfl rfl (by kernel_rfl) Try.func9 (by kernel_rfl)
    (of_decide_eq_true (by kernel_rfl)) (by unfold Func.isWrapper; first | (rw [if_pos (by decide +kernel)]; kernel_rfl) | (rw [if_neg (by decide +kernel)]; exact ⟨rfl, rfl⟩))
    (fun os started H enc _ => lifted os started H enc)
#print axioms proved
end Go.Proofs.Ytbjfglckfknheaa.funcsChecks
