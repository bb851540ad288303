/- For any functions and any arguments funcs.Value returns the specified results: FuncsValues returns true and changes nothing; no conditions. -/
import Derived.Test.YtbjfglckfknheaaRows
import Derived.WalkKit
import Derived.ProofKit
import Derived.OpenShut
import Derived.ShutString
import Derived.ChangeOld
import Derived.Below
import Derived.Test.YtbjfglckfknheaaFuncsValuesM2
set_option linter.all false
set_option maxRecDepth 100000
namespace Go.Proofs.Ytbjfglckfknheaa.funcsValues
open Go Go.Sl

theorem within_eq (a b c : Int) : ref_Within a b c = some (decide (a ≤ b ∧ b ≤ c)) := by
  unfold ref_Within
  rw [Bool.decide_and]

theorem inside1 (n v : Int) : ref_Inside n [v] = some (decide (0 ≤ v ∧ v < n)) := by
  unfold ref_Inside
  rw [forL_ex (p := fun v => decide (v < 0) || decide (v ≥ n)) (y := Esc.ret false) (fun i a _ => by unfold ref_Inside_b1; cases (decide (a < 0) || decide (a ≥ n)) <;> rfl)]
  by_cases h : 0 ≤ v ∧ v < n
  · have : (decide (v < 0) || decide (v ≥ n)) = false := by simp only [Bool.or_eq_false_iff, decide_eq_false_iff_not]; omega
    simp [this, h]
  · have : (decide (v < 0) || decide (v ≥ n)) = true := by simp only [Bool.or_eq_true, decide_eq_true_eq]; omega
    simp [this, h]

abbrev FN := Int × (Int × (Int × (Int × (Int × List Int))))
def inN (n : Nat) (j : Int) : Bool := decide (0 ≤ j ∧ j < (n : Int))
def argOf (l : List FN) (j : Int) : Int := ((l[j.toNat]?).map (·.2.1)).getD 0
def fcT (l : List FN) (n : Nat) (j args : Int) : Int := bif inN n j then (bif argOf l j != args then 3 else 0) else 2
theorem fc_idx {l : List FN} {n : Nat} (hn : n ≤ l.length) {j : Int} (h : inN n j = true) : ∃ f : FN, idx l j = some f ∧ f.2.1 = argOf l j := by
  unfold inN at h
  have h := of_decide_eq_true h
  obtain ⟨f, h1, h2⟩ := idx_get (xs := l) h.1 (by omega)
  exact ⟨f, h1, by unfold argOf; rw [h2]; rfl⟩
theorem fc_there {l : List FN} {n : Nat} (hn : n ≤ l.length) (j args : Int) : funcs_wrong_1 j args (n : Int) l = some (fcT l n j args) := by
  unfold funcs_wrong_1 fcT
  have e : ((decide (j < (0 : Int))) || (decide (j ≥ (n : Int)))) = !inN n j := by
    unfold inN; rw [or_dec, not_dec]; exact decide_eq_decide.2 (by omega)
  rw [e]
  cases h : inN n j with
  | false => rfl
  | true =>
    obtain ⟨f, h1, h2⟩ := fc_idx hn h
    rw [h1, ← h2]
    simp only [Bool.not_true, cond_false, cond_true, bind_some']
    cases (f.2.1 != args) <;> rfl
def fcAsk (l : List Int) : Int := bif l.any (2 == ·) then 2 else bif l.any (3 == ·) then 3 else 0
def fcArgs (v : FN) : Bool := !decide ((bif v.1 == 2 || v.1 == 5 then (1 : Int) else 0) ≤ v.2.1 ∧ v.2.1 ≤ 4) || (v.1 == 2 && decide (v.2.1 > 1)) || (v.1 == 4 && decide ((v.2.2.2.2.2.length : Int) > 4))
def fcL (l : List FN) (n : Nat) (v : FN) : List Int :=
  bif v.1 == 4 then fcT l n v.2.2.2.1 v.2.2.2.2.2.length :: v.2.2.2.2.2.map (fcT l n · v.2.1) else bif v.1 == 5 then [fcT l n v.2.2.2.1 (v.2.1 - 1), fcT l n v.2.2.2.2.1 (v.2.1 + 1)] else []
def fcz (l : List FN) (n : Nat) (v : FN) : Int :=
  bif !decide (1 ≤ v.1 ∧ v.1 ≤ 5) then 6 else bif fcArgs v then 1 else bif v.1 == 3 && !decide (0 ≤ v.2.2.1 ∧ v.2.2.1 < v.2.1) then 4 else fcAsk (fcL l n v)
theorem fc_has (x : Int) (l : List Int) : slices_Contains_LapiErrnoapiErrno x l = some (l.any (x == ·)) := by
  unfold slices_Contains_LapiErrnoapiErrno slices_Index_LapiErrnoapiErrno
  rcases forL_at (body := slices_Index_LapiErrnoapiErrno_b1 x) (fin := fun _ => (Esc.brk () : Esc Int Unit)) (p := (x == ·)) (g := fun j => Esc.ret j) (l := l)
    (fun i a _ => by unfold slices_Index_LapiErrnoapiErrno_b1; cases (x == a) <;> rfl) (i := 0) with ⟨h1, h2⟩ | ⟨h1, j, h2, h3, h4⟩
  · rw [h2, h1]; rfl
  · rw [h4, h1]; simp [h2]
theorem fc_ask (l : List Int) : forI (0 : Int) (2 : Int) (funcs_wrong_b16 l) (fun x187 => (Esc.brk () : Esc Int Unit)) () = some (bif fcAsk l != 0 then Esc.ret (fcAsk l) else Esc.brk ()) := by
  unfold forI
  rw [if_pos ⟨by omega, by omega⟩]
  show loopI (funcs_wrong_b16 l) (fun x187 => (Esc.brk () : Esc Int Unit)) 2 0 () = _
  have h0 : funcs_wrong_b16 l 0 () = some (bif l.any (2 == ·) then .done (.ret 2) else .next ()) := by
    unfold funcs_wrong_b16
    have : idx [(2 : Int), (3 : Int)] 0 = some 2 := rfl
    rw [this, bind_some', fc_has, bind_some']
    cases l.any (2 == ·) <;> rfl
  have h1 : funcs_wrong_b16 l (0 + 1) () = some (bif l.any (3 == ·) then .done (.ret 3) else .next ()) := by
    unfold funcs_wrong_b16
    have : idx [(2 : Int), (3 : Int)] (0 + 1) = some 3 := rfl
    rw [this, bind_some', fc_has, bind_some']
    cases l.any (3 == ·) <;> rfl
  unfold fcAsk
  simp only [loopI, h0]
  cases l.any (2 == ·) with
  | true => rfl
  | false =>
    simp only [cond_false, h1]
    cases l.any (3 == ·) <;> rfl
theorem fc_g4 (v : FN) : funcs_wrong_g4 v (bif v.1 == 2 || v.1 == 5 then (1 : Int) else 0) = some (fcArgs v) := by
  unfold funcs_wrong_g4 fcArgs
  generalize (bif v.1 == 2 || v.1 == 5 then (1 : Int) else 0) = q
  by_cases h1 : v.2.1 < q
  · have : ¬ (q ≤ v.2.1 ∧ v.2.1 ≤ 4) := by omega
    rw [decide_eq_true h1, decide_eq_false this]; rfl
  · by_cases h2 : v.2.1 > 4
    · have : ¬ (q ≤ v.2.1 ∧ v.2.1 ≤ 4) := by omega
      rw [decide_eq_false h1, decide_eq_true h2, decide_eq_false this]; rfl
    · have : q ≤ v.2.1 ∧ v.2.1 ≤ 4 := by omega
      rw [decide_eq_false h1, decide_eq_false h2, decide_eq_true this]
      cases (v.1 == 2) <;> cases (decide (v.2.1 > 1)) <;> cases (v.1 == 4) <;> rfl
theorem fc_least (v : FN) : ((bif v.1 == (2 : Int) then (some true) else (some (v.1 == (5 : Int)))).bind fun v18 => bif v18 then (some (1 : Int)) else (some (0 : Int))) = some (bif v.1 == 2 || v.1 == 5 then (1 : Int) else 0) := by
  cases (v.1 == 2) <;> cases (v.1 == 5) <;> rfl
theorem fc_args {v : FN} (h : fcArgs v = false) : (v.1 == 5) = true → 1 ≤ v.2.1 ∧ v.2.1 ≤ 4 := by
  intro h5
  unfold fcArgs at h
  rw [h5] at h
  simp only [Bool.or_true, cond_true, Bool.or_eq_false_iff, Bool.not_eq_false', decide_eq_true_eq] at h
  exact h.1.1
theorem fc_into {v : FN} (h : fcArgs v = false) : (v.1 == 4) = true → v.2.2.2.2.2.length ≤ 4 := by
  intro h4
  unfold fcArgs at h
  rw [h4] at h
  simp only [Bool.true_and, Bool.or_eq_false_iff, decide_eq_false_iff_not] at h
  omega
theorem fc_prog {l : List FN} {n : Nat} {v : FN} (hv : l[n]? = some v) : funcs_wrong l (n : Int) = some (fcz l n v) := by
  have hn : n ≤ l.length := Nat.le_of_lt (List.getElem?_eq_some_iff.1 hv).1
  unfold funcs_wrong fcz
  rw [idx_nat, hv, bind_some', fc_least, bind_some']
  have e1 : (bif decide (v.1 < (1 : Int)) then (some true) else (some (decide (v.1 > (5 : Int))))) = some (!decide (1 ≤ v.1 ∧ v.1 ≤ 5)) := by
    rw [bif_some]; congr 1
    by_cases h : v.1 < 1
    · have : ¬ (1 ≤ v.1 ∧ v.1 ≤ 5) := by omega
      simp [h, this]
    · rw [decide_eq_false h, cond_false, not_dec]; exact decide_eq_decide.2 (by omega)
  have e2 : (bif v.1 == (3 : Int) then (bif decide (v.2.2.1 < (0 : Int)) then (some true) else (some (decide (v.2.2.1 ≥ v.2.1)))) else (some false)) = some (v.1 == 3 && !decide (0 ≤ v.2.2.1 ∧ v.2.2.1 < v.2.1)) := by
    cases (v.1 == 3) with
    | false => rfl
    | true =>
      rw [cond_true, bif_some, Bool.true_and]; congr 1
      by_cases h : v.2.2.1 < 0
      · have : ¬ (0 ≤ v.2.2.1 ∧ v.2.2.1 < v.2.1) := by omega
        simp [h, this]
      · rw [decide_eq_false h, cond_false, not_dec]; exact decide_eq_decide.2 (by omega)
  rw [e1, bind_some', fc_g4, bind_some', e2, bind_some']
  cases decide (1 ≤ v.1 ∧ v.1 ≤ 5) with
  | false => rfl
  | true =>
    cases ha : fcArgs v with
    | true => rfl
    | false =>
      cases (v.1 == 3 && !decide (0 ≤ v.2.2.1 ∧ v.2.2.1 < v.2.1)) with
      | true => rfl
      | false =>
        have hL : ((funcs_wrong_g14 l (n : Int) v).bind fun v152 => (funcs_wrong_g15 l (n : Int) v v152)) = some (fcL l n v) := by
          unfold funcs_wrong_g14 funcs_wrong_g15 fcL
          cases h4 : (v.1 == 4) with
          | true =>
            have h5 : (v.1 == 5) = false := by
              have : v.1 = 4 := by simpa using h4
              rw [this]; rfl
            have hi := fc_into ha h4
            rw [h5]
            simp only [cond_true, cond_false]
            rw [fc_there hn, bind_some']
            obtain ⟨y, p1, p2⟩ := forL_inv (body := funcs_wrong_b11 l (n : Int) v) (fin := fun x => x) (l := v.2.2.2.2.2) (x := [fcT l n v.2.2.2.1 (v.2.2.2.2.2.length : Int)]) (fun k x => k ≤ 4 ∧ x = fcT l n v.2.2.2.1 (v.2.2.2.2.2.length : Int) :: (v.2.2.2.2.2.take k).map (fcT l n · v.2.1)) (fun y => y = fcT l n v.2.2.2.1 (v.2.2.2.2.2.length : Int) :: v.2.2.2.2.2.map (fcT l n · v.2.1)) ⟨by omega, by simp⟩
              (fun k a x hk hx => by
                have hkl := (List.getElem?_eq_some_iff.1 hk).1
                obtain ⟨hk4, rfl⟩ := hx
                have hck : ck ((List.length (fcT l n v.2.2.2.1 (v.2.2.2.2.2.length : Int) :: (v.2.2.2.2.2.take k).map (fcT l n · v.2.1)) : Int) + 1 ≤ 4294967296) = some () := ck_ok (by simp; omega)
                unfold funcs_wrong_b11
                rw [fc_there hn, bind_some', hck, bind_some']
                refine ⟨_, rfl, by omega, ?_⟩
                rw [List.take_add_one, hk]; simp)
              (fun x hx => by rw [hx.2, List.take_length])
            rw [p1, bind_some', bind_some', p2]
          | false =>
            cases h5 : (v.1 == 5) with
            | true =>
              have hr := fc_args ha h5
              simp only [cond_true, cond_false, bind_some']
              rw [w64_id (by omega) (by omega), w64_id (by omega) (by omega), fc_there hn, bind_some', fc_there hn, bind_some', ck_ok (by simp), bind_some']; rfl
            | false => rfl
        have hL2 : ∀ {β : Type} (k : List Int → Option β), ((funcs_wrong_g14 l (n : Int) v).bind fun v152 => (funcs_wrong_g15 l (n : Int) v v152).bind k) = k (fcL l n v) := by
          intro β k
          rw [← Option.bind_assoc, hL]; rfl
        simp only [Bool.not_true, cond_false]
        rw [hL2, fc_ask, bind_some']
        cases hz : (fcAsk (fcL l n v) != 0) with
        | true => rfl
        | false => have : fcAsk (fcL l n v) = 0 := by simpa using hz
                   rw [this]; rfl
theorem fc_two (l : List FN) (n : Nat) (j a : Int) : ((2 : Int) == fcT l n j a) = !inN n j := by
  unfold fcT
  cases inN n j <;> cases (argOf l j != a) <;> rfl
theorem fc_three (l : List FN) (n : Nat) (j a : Int) : ((3 : Int) == fcT l n j a) = (inN n j && (argOf l j != a)) := by
  unfold fcT
  cases inN n j <;> cases (argOf l j != a) <;> rfl
theorem fc_insides (n : Nat) (l : List Int) : ref_Inside (n : Int) l = some (!l.any fun j => !inN n j) := by
  unfold ref_Inside
  rw [forL_ex (p := fun j => !inN n j) (y := Esc.ret false) (fun i a _ => by
    unfold ref_Inside_b1
    have e : ((decide (a < (0 : Int))) || (decide (a ≥ (n : Int)))) = !inN n a := by
      unfold inN; rw [or_dec, not_dec]; exact decide_eq_decide.2 (by omega)
    rw [e]; cases inN n a <;> rfl)]
  cases (l.any fun j => !inN n j) <;> rfl
theorem fc_ref {l : List FN} {n : Nat} {v : FN} (hv : l[n]? = some v) : ref_FuncsCheck_b218 l (n : Int) v () = some (bif fcz l n v != 0 then .done (.ret (fcz l n v)) else .next ()) := by
  have hn : n ≤ l.length := Nat.le_of_lt (List.getElem?_eq_some_iff.1 hv).1
  unfold ref_FuncsCheck_b218 ref_FuncsCheck_g215 fcz
  rw [within_eq, bind_some', fc_least, bind_some']
  have e1 : ref_FuncsCheck_g193 v (bif v.1 == 2 || v.1 == 5 then (1 : Int) else 0) = some (fcArgs v) := by
    unfold ref_FuncsCheck_g193 fcArgs
    rw [within_eq, bind_some']
    cases h2 : (v.1 == 2) with
    | true =>
      have h4 : (v.1 == 4) = false := by
        have : v.1 = 2 := by simpa using h2
        rw [this]; rfl
      rw [h4]
      simp only [Bool.true_or, cond_true, Bool.true_and, Bool.false_and, Bool.or_false]
      by_cases h : (1 : Int) ≤ v.2.1 ∧ v.2.1 ≤ 4
      · rw [decide_eq_true h]
        have : (v.2.1 != 1) = decide (v.2.1 > 1) := by rw [bne_dec]; exact decide_eq_decide.2 (by omega)
        rw [this]
        cases decide (v.2.1 > 1) <;> rfl
      · rw [decide_eq_false h]; rfl
    | false =>
      generalize (bif false || v.1 == 5 then (1 : Int) else 0) = q
      cases decide (q ≤ v.2.1 ∧ v.2.1 ≤ 4) <;> cases (v.1 == 4) <;> simp
  rw [e1, bind_some']
  have e2 : (bif v.1 == (3 : Int) then ((ref_Inside v.2.1 [v.2.2.1]).bind fun r2040 => some (!r2040)) else (some false)) = some (v.1 == 3 && !decide (0 ≤ v.2.2.1 ∧ v.2.2.1 < v.2.1)) := by
    rw [inside1]
    cases (v.1 == 3) <;> rfl
  rw [e2, bind_some']
  cases decide (1 ≤ v.1 ∧ v.1 ≤ 5) with
  | false => rfl
  | true =>
    cases ha : fcArgs v with
    | true => rfl
    | false =>
      cases (v.1 == 3 && !decide (0 ≤ v.2.2.1 ∧ v.2.2.1 < v.2.1)) with
      | true => rfl
      | false =>
        simp only [Bool.not_true, cond_false]
        unfold ref_FuncsCheck_g207 ref_FuncsCheck_g208 fcL fcAsk
        cases h4 : (v.1 == 4) with
        | true =>
          have h5 : (v.1 == 5) = false := by
            have : v.1 = 4 := by simpa using h4
            rw [this]; rfl
          rw [h5]
          simp only [cond_true, cond_false, List.any_cons, List.any_map, Function.comp_def, fc_two, fc_three, fc_insides, bind_some', List.any_nil, Bool.or_false, Bool.not_not]
          cases hA : inN n v.2.2.2.1 with
          | false => rfl
          | true =>
            cases hI : (v.2.2.2.2.2.any fun j => !inN n j) with
            | true => rfl
            | false =>
              obtain ⟨f, f1, f2⟩ := fc_idx hn hA
              have hall : ∀ j ∈ v.2.2.2.2.2, inN n j = true := fun j hj => by simpa using List.any_eq_false.1 hI j hj
              have hany : (v.2.2.2.2.2.any fun x => inN n x && argOf l x != v.2.1) = v.2.2.2.2.2.any fun x => argOf l x != v.2.1 := by
                rw [Bool.eq_iff_iff, List.any_eq_true, List.any_eq_true]
                constructor
                · rintro ⟨x, hx, h⟩; rw [hall x hx, Bool.true_and] at h; exact ⟨x, hx, h⟩
                · rintro ⟨x, hx, h⟩; exact ⟨x, hx, by rw [hall x hx, Bool.true_and]; exact h⟩
              rw [f1, hany]
              rw [forL_ex (p := fun j => argOf l j != v.2.1) (y := Esc.ret 3) (fun i j hj => by
                obtain ⟨g, g1, g2⟩ := fc_idx hn (hall j hj)
                unfold ref_FuncsCheck_b202
                rw [g1, bind_some', g2]
                cases (argOf l j != v.2.1) <;> rfl)]
              simp only [Bool.not_true, Bool.not_false, Bool.true_and, Bool.false_or, Bool.or_false, bind_some', cond_false, f2]
              cases (argOf l v.2.2.2.1 != (v.2.2.2.2.2.length : Int)) <;> cases (v.2.2.2.2.2.any fun j => argOf l j != v.2.1) <;> rfl
        | false =>
          cases h5 : (v.1 == 5) with
          | true =>
            have hr := fc_args ha h5
            simp only [cond_true, cond_false, List.any_cons, fc_two, fc_three, fc_insides, bind_some', List.any_nil, Bool.or_false, Bool.not_not]
            rw [w64_id (by omega) (by omega), w64_id (by omega) (by omega)]
            cases hA : inN n v.2.2.2.1 with
            | false => rfl
            | true =>
              cases hB : inN n v.2.2.2.2.1 with
              | false => rfl
              | true =>
                obtain ⟨f, f1, f2⟩ := fc_idx hn hA
                obtain ⟨g, g1, g2⟩ := fc_idx hn hB
                rw [f1, g1]
                simp only [Bool.not_true, Bool.true_and, Bool.false_or, Bool.or_false, bind_some', cond_false, f2, g2]
                cases (argOf l v.2.2.2.1 != (v.2.1 - 1)) <;> cases (argOf l v.2.2.2.2.1 != (v.2.1 + 1)) <;> rfl
          | false => rfl

theorem fr_key (l : List FN) : ∃ z, funcs_Check l = some z ∧ ref_FuncsCheck l = some z ∧ (z = 0 → 1 ≤ l.length ∧ l.length ≤ 12 ∧ ∀ (n : Nat) (v : FN), l[n]? = some v → fcz l n v = 0) := by
  unfold funcs_Check ref_FuncsCheck
  have e : ((decide ((List.length l : Int) < (1 : Int))) || (decide ((List.length l : Int) > (12 : Int)))) = !decide (1 ≤ (l.length : Int) ∧ (l.length : Int) ≤ 12) := by
    rw [or_dec, not_dec]; exact decide_eq_decide.2 (by omega)
  rw [within_eq, bind_some', e]
  by_cases hl : 1 ≤ (l.length : Int) ∧ (l.length : Int) ≤ 12
  · rw [decide_eq_true hl]
    obtain ⟨y, h1, h2, h3⟩ := forL_eq (body := funcs_Check_b1 l) (body' := ref_FuncsCheck_b218 l) (fin := fun _ => (Esc.brk () : Esc Int Unit)) (l := l) (x := ()) (Inv := fun n _ => ∀ (j : Nat) (v : FN), j < n → l[j]? = some v → fcz l j v = 0)
      (Post := fun y => match y with | .ret z => z ≠ 0 | .brk _ => ∀ (j : Nat) (v : FN), l[j]? = some v → fcz l j v = 0) (fun j v hj => by omega)
      (fun n v x hv hI => by
        refine ⟨bif fcz l n v != 0 then .done (.ret (fcz l n v)) else .next (), ?_, fc_ref hv, ?_⟩
        · unfold funcs_Check_b1
          rw [fc_prog hv, bind_some']
          cases (fcz l n v != 0) <;> rfl
        · cases hz : (fcz l n v != 0) with
          | true => simpa using hz
          | false =>
            have hz : fcz l n v = 0 := by simpa using hz
            intro j w hj hw
            by_cases e : j = n
            · subst e; rw [hv] at hw; rw [← Option.some.inj hw]; exact hz
            · exact hI j w (by omega) hw) (fun _ hI j v hv => hI j v (List.getElem?_eq_some_iff.1 hv).1 hv)
    simp only [Bool.not_true, cond_false]
    rw [h1, h2]
    cases y with
    | ret z => exact ⟨z, rfl, rfl, fun e => (h3 e).elim⟩
    | brk z => exact ⟨0, rfl, rfl, fun _ => ⟨by omega, by omega, h3⟩⟩
  · rw [decide_eq_false hl]
    exact ⟨1, rfl, rfl, fun e => by cases e⟩
theorem fr_ask {l : List Int} (h : fcAsk l = 0) : l.any (2 == ·) = false := by
  unfold fcAsk at h
  cases h2 : l.any (2 == ·) with
  | false => rfl
  | true => rw [h2] at h; cases h
theorem fr_in {l : List FN} {n : Nat} {v : FN} (h : fcz l n v = 0) : ((v.1 == 4) = true → inN n v.2.2.2.1 = true ∧ ∀ a ∈ v.2.2.2.2.2, inN n a = true) ∧ ((v.1 == 5) = true → inN n v.2.2.2.1 = true ∧ inN n v.2.2.2.2.1 = true) := by
  unfold fcz at h
  cases h1 : decide (1 ≤ v.1 ∧ v.1 ≤ 5) with
  | false => rw [h1] at h; cases h
  | true =>
    rw [h1] at h
    cases h2 : fcArgs v with
    | true => rw [h2] at h; cases h
    | false =>
      rw [h2] at h
      cases h3 : (v.1 == 3 && !decide (0 ≤ v.2.2.1 ∧ v.2.2.1 < v.2.1)) with
      | true => rw [h3] at h; cases h
      | false =>
        rw [h3] at h
        have h4 : (fcL l n v).any (2 == ·) = false := fr_ask h
        unfold fcL at h4
        refine ⟨fun k => ?_, fun k => ?_⟩
        · rw [k, cond_true, List.any_cons, fc_two, Bool.or_eq_false_iff, List.any_eq_false] at h4
          refine ⟨by simpa using h4.1, fun a ha => ?_⟩
          have := h4.2 _ (List.mem_map.2 ⟨a, ha, rfl⟩)
          rw [fc_two] at this
          simpa using this
        · have k4 : (v.1 == 4) = false := by
            have : v.1 = 5 := by simpa using k
            rw [this]; rfl
          rw [k4, k, cond_false, cond_true] at h4
          simp only [List.any_cons, fc_two, List.any_nil, Bool.or_false, Bool.or_eq_false_iff] at h4
          exact ⟨by simpa using h4.1, by simpa using h4.2⟩

theorem fv_T {l : List FN} {n : Nat} {j a : Int} (h2 : (2 == fcT l n j a) = false) (h3 : (3 == fcT l n j a) = false) : inN n j = true ∧ argOf l j = a := by
  rw [fc_two] at h2
  rw [fc_three] at h3
  have h1 : inN n j = true := by simpa using h2
  rw [h1] at h3
  exact ⟨h1, by simpa using h3⟩
theorem fv_ask {l : List Int} (h : fcAsk l = 0) : l.any (2 == ·) = false ∧ l.any (3 == ·) = false := by
  unfold fcAsk at h
  cases h2 : l.any (2 == ·) with
  | true => rw [h2] at h; cases h
  | false =>
    cases h3 : l.any (3 == ·) with
    | true => rw [h2, h3] at h; cases h
    | false => exact ⟨rfl, rfl⟩
theorem fv_full {l : List FN} {n : Nat} {v : FN} (h : fcz l n v = 0) : (1 ≤ v.1 ∧ v.1 ≤ 5) ∧ fcArgs v = false ∧ ((v.1 == 3) = true → 0 ≤ v.2.2.1 ∧ v.2.2.1 < v.2.1) ∧
    ((v.1 == 4) = true → (inN n v.2.2.2.1 = true ∧ argOf l v.2.2.2.1 = v.2.2.2.2.2.length) ∧ ∀ a ∈ v.2.2.2.2.2, inN n a = true ∧ argOf l a = v.2.1) ∧
    ((v.1 == 5) = true → (inN n v.2.2.2.1 = true ∧ argOf l v.2.2.2.1 = v.2.1 - 1) ∧ inN n v.2.2.2.2.1 = true ∧ argOf l v.2.2.2.2.1 = v.2.1 + 1) := by
  unfold fcz at h
  cases h1 : decide (1 ≤ v.1 ∧ v.1 ≤ 5) with
  | false => rw [h1] at h; cases h
  | true =>
    rw [h1] at h
    cases h2 : fcArgs v with
    | true => rw [h2] at h; cases h
    | false =>
      rw [h2] at h
      cases h3 : (v.1 == 3 && !decide (0 ≤ v.2.2.1 ∧ v.2.2.1 < v.2.1)) with
      | true => rw [h3] at h; cases h
      | false =>
        rw [h3] at h
        obtain ⟨h4, h5⟩ := fv_ask (show fcAsk (fcL l n v) = 0 from h)
        unfold fcL at h4 h5
        refine ⟨of_decide_eq_true h1, rfl, fun k => ?_, fun k => ?_, fun k => ?_⟩
        · rw [k] at h3
          simpa using h3
        · rw [k, cond_true, List.any_cons, Bool.or_eq_false_iff, List.any_eq_false] at h4 h5
          refine ⟨fv_T h4.1 h5.1, fun a ha => ?_⟩
          have e4 := h4.2 _ (List.mem_map.2 ⟨a, ha, rfl⟩)
          have e5 := h5.2 _ (List.mem_map.2 ⟨a, ha, rfl⟩)
          exact fv_T (Bool.eq_false_iff.2 e4) (Bool.eq_false_iff.2 e5)
        · have k4 : (v.1 == 4) = false := by
            have : v.1 = 5 := by simpa using k
            rw [this]; rfl
          rw [k4, k, cond_false, cond_true] at h4 h5
          simp only [List.any_cons, List.any_nil, Bool.or_false, Bool.or_eq_false_iff] at h4 h5
          exact ⟨fv_T h4.1 h5.1, fv_T h4.2 h5.2⟩
def fvOK (l : List FN) (g : Nat) (j : Int) (args : List Int) (K : Int) : Prop :=
  ∃ x K', funcs_asker_ask g j args (l, K) = some (x, (l, K')) ∧ ((x = -1 ∧ ref_Func g l j args K = some (-1, 0)) ∨ (0 ≤ x ∧ x ≤ 1000 ∧ 0 ≤ K' ∧ K' ≤ 20000 ∧ ref_Func g l j args K = some (x, K')))
theorem fv_loop4 {l : List FN} {f : Nat} {args : List Int} {v : FN} (hr : ∀ j ∈ v.2.2.2.2.2, ∀ K, 0 ≤ K → K ≤ 20000 → fvOK l f j args K) (hs : v.2.2.2.2.2.length ≤ 4) {K : Int} (h0 : 0 ≤ K) (h1 : K ≤ 20000) :
    ∃ y y', forL (funcs_asker_ask_b1 args (funcs_asker_ask f)) (fun x28 => (Esc.brk (x28.1, x28.2) : Esc (Int × (List FN × Int)) ((List FN × Int) × List Int))) v.2.2.2.2.2 0 ((l, K), []) = some y ∧
      forL (ref_Func_b1 l args (ref_Func f)) (fun x43 => (Esc.brk (x43.1, x43.2) : Esc (Int × Int) (Int × List Int))) v.2.2.2.2.2 0 (K, []) = some y' ∧
      ((∃ K', y = .ret (-1, (l, K')) ∧ y' = .ret (-1, 0)) ∨ (∃ K' own, y = .brk ((l, K'), own) ∧ y' = .brk (K', own) ∧ 0 ≤ K' ∧ K' ≤ 20000 ∧ own.length = v.2.2.2.2.2.length ∧ ∀ a ∈ own, 0 ≤ a ∧ a ≤ 1000)) := by
  refine forL_rel (R := fun n x x' => ∃ K own, x = ((l, K), own) ∧ x' = (K, own) ∧ 0 ≤ K ∧ K ≤ 20000 ∧ own.length = n ∧ ∀ a ∈ own, 0 ≤ a ∧ a ≤ 1000)
    (S := fun (y : Esc (Int × (List FN × Int)) ((List FN × Int) × List Int)) (y' : Esc (Int × Int) (Int × List Int)) => (∃ K', y = .ret (-1, (l, K')) ∧ y' = .ret (-1, 0)) ∨ (∃ K' own, y = .brk ((l, K'), own) ∧ y' = .brk (K', own) ∧ 0 ≤ K' ∧ K' ≤ 20000 ∧ own.length = v.2.2.2.2.2.length ∧ ∀ a ∈ own, 0 ≤ a ∧ a ≤ 1000))
    rfl ⟨K, [], rfl, rfl, h0, h1, rfl, by simp⟩ ?_ ?_
  · rintro n a a' x x' ha ha' ⟨K, own, rfl, rfl, h0, h1, h2, h3⟩
    obtain rfl : a = a' := by rw [ha] at ha'; exact Option.some.inj ha'
    have hlt := (List.getElem?_eq_some_iff.1 ha).1
    have hck : ck ((List.length own : Int) + 1 ≤ 4294967296) = some () := ck_ok (by omega)
    obtain ⟨x, K', e1, e2⟩ := hr a (List.mem_of_getElem? ha) K h0 h1
    unfold funcs_asker_ask_b1 ref_Func_b1
    simp only [e1, bind_some']
    rcases e2 with ⟨rfl, e3⟩ | ⟨g1, g2, g3, g4, e3⟩
    · simp only [e3, bind_some']
      exact ⟨_, _, rfl, rfl, .inl ⟨_, rfl, rfl⟩⟩
    · simp only [e3, bind_some']
      rw [decide_eq_false (by omega : ¬ x < 0), cond_false, cond_false, hck, bind_some', bind_some']
      refine ⟨_, _, rfl, rfl, K', own ++ [x], rfl, rfl, g3, g4, by simp [h2], fun b hb => ?_⟩
      rcases List.mem_append.1 hb with hb | hb
      · exact h3 b hb
      · obtain rfl : b = x := by simpa using hb
        exact ⟨g1, g2⟩
  · rintro x x' ⟨K, own, rfl, rfl, h0, h1, h2, h3⟩
    exact .inr ⟨K, own, rfl, rfl, h0, h1, h2, h3⟩
theorem fv_iter {l : List FN} {f : Nat} {args : List Int} {v : FN} {last : Int} (hlast : idx args (w64 ((List.length args : Int) - (1 : Int))) = some last) (hlen : 1 ≤ args.length ∧ args.length ≤ 4) (hl0 : last ≤ 1000) (hargs : ∀ a ∈ args, 0 ≤ a ∧ a ≤ 1000)
    (hr : ∀ args' K, args'.length = args.length + 1 → (∀ a ∈ args', 0 ≤ a ∧ a ≤ 1000) → 0 ≤ K → K ≤ 20000 → fvOK l f v.2.2.2.2.1 args' K) :
    ∀ (m fuel : Nat) (n x K left : Int), (last - n).toNat = m → 0 ≤ n → m + 1 < fuel → ((x = -1 ∧ True) ∨ (0 ≤ x ∧ x ≤ 1000 ∧ 0 ≤ K ∧ K ≤ 20000 ∧ left = K)) →
      ∃ x' K' left', iter (funcs_asker_ask_b5 args v (funcs_asker_ask f)) fuel (x, n, (l, K)) = some (x', (l, K')) ∧ iter (ref_Func_b5 l args v (ref_Func f)) fuel (x, left, n) = some (x', left') ∧
        (x' = -1 ∨ (0 ≤ x' ∧ x' ≤ 1000 ∧ 0 ≤ K' ∧ K' ≤ 20000 ∧ left' = K'))
  | m, 0, n, x, K, left, hm, hn, hf, hx => by omega
  | m, fuel + 1, n, x, K, left, hm, hn, hf, hx => by
    by_cases hc : n < last ∧ 0 ≤ x
    · obtain ⟨hc1, hc2⟩ := hc
      have hx : 0 ≤ x ∧ x ≤ 1000 ∧ 0 ≤ K ∧ K ≤ 20000 ∧ left = K := by
        rcases hx with ⟨h, _⟩ | h
        · omega
        · exact h
      obtain ⟨h1, h2, h3, h4, rfl⟩ := hx
      have ec : ((decide (n < last)) && (decide (x ≥ (0 : Int)))) = true := by simp only [Bool.and_eq_true, decide_eq_true_eq]; omega
      have hsub : (sub args (0 : Int) (w64 ((List.length args : Int) - (1 : Int)))) = args.take (args.length - 1) := by
        rw [w64_id (by omega) (by omega)]
        unfold sub
        have : ((List.length args : Int) - 1).toNat - (0 : Int).toNat = args.length - 1 := by omega
        rw [this]; rfl
      have hsl : (args.take (args.length - 1)).length = args.length - 1 := by simp
      have hmem : ∀ a ∈ ([] ++ args.take (args.length - 1)) ++ [n, x], 0 ≤ a ∧ a ≤ 1000 := by
        intro a ha
        rcases List.mem_append.1 ha with ha | ha
        · exact hargs a (List.mem_of_mem_take (by simpa using ha))
        · simp only [List.mem_cons, List.not_mem_nil, or_false] at ha
          rcases ha with rfl | rfl <;> omega
      obtain ⟨y, K', e1, e2⟩ := hr (([] ++ args.take (args.length - 1)) ++ [n, x]) left (by simp; omega) hmem h3 h4
      have hck1 : ck ((0 : Int) + (List.length (args.take (args.length - 1)) : Int) ≤ 4294967296) = some () := ck_ok (by rw [hsl]; omega)
      have hck2 : ck ((List.length ([] ++ args.take (args.length - 1)) : Int) + 2 ≤ 4294967296) = some () := ck_ok (by rw [List.nil_append, hsl]; omega)
      have b1 : funcs_asker_ask_b5 args v (funcs_asker_ask f) (x, n, (l, left)) = some (.next (y, n + 1, (l, K'))) := by
        unfold funcs_asker_ask_b5
        simp only [hlast, bind_some', ec, cond_true, hsub]
        unfold slices_Clone_Lintint
        rw [hck1, bind_some', bind_some', hck2, bind_some', e1, bind_some', w64_id (by omega) (by omega)]
      have step : ∃ lf, ref_Func_b5 l args v (ref_Func f) (x, left, n) = some (.next (y, lf, n + 1)) ∧ ((y = -1 ∧ True) ∨ (0 ≤ y ∧ y ≤ 1000 ∧ 0 ≤ K' ∧ K' ≤ 20000 ∧ lf = K')) := by
        unfold ref_Func_b5
        simp only [hlast, bind_some', ec, cond_true, hsub]
        rw [hck1, bind_some', hck2, bind_some']
        rcases e2 with ⟨rfl, e3⟩ | ⟨g1, g2, g3, g4, e3⟩
        · rw [e3, bind_some', w64_id (by omega) (by omega)]
          exact ⟨0, rfl, .inl ⟨rfl, trivial⟩⟩
        · rw [e3, bind_some', w64_id (by omega) (by omega)]
          exact ⟨K', rfl, .inr ⟨g1, g2, g3, g4, rfl⟩⟩
      obtain ⟨lf, b2, hy⟩ := step
      obtain ⟨x', K'', left', q1, q2, q3⟩ := fv_iter hlast hlen hl0 hargs hr (m - 1) fuel (n + 1) y K' lf (by omega) (by omega) (by omega) hy
      refine ⟨x', K'', left', ?_, ?_, q3⟩
      · simp only [iter, b1]; exact q1
      · simp only [iter, b2]; exact q2
    · have ec : ((decide (n < last)) && (decide (x ≥ (0 : Int)))) = false := by simp only [Bool.and_eq_false_iff, decide_eq_false_iff_not]; omega
      have b1 : funcs_asker_ask_b5 args v (funcs_asker_ask f) (x, n, (l, K)) = some (.done (x, (l, K))) := by
        unfold funcs_asker_ask_b5
        simp only [hlast, bind_some', ec, cond_false]
      have b2 : ref_Func_b5 l args v (ref_Func f) (x, left, n) = some (.done (x, left)) := by
        unfold ref_Func_b5
        simp only [hlast, bind_some', ec, cond_false]
      refine ⟨x, K, left, ?_, ?_, ?_⟩
      · simp only [iter, b1]
      · simp only [iter, b2]
      · rcases hx with ⟨h, _⟩ | h
        · exact .inl h
        · exact .inr h
theorem fv_main {l : List FN} (hl : l.length ≤ 12) (hw : ∀ (n : Nat) (v : FN), l[n]? = some v → fcz l n v = 0) : ∀ (i : Nat) (v : FN) (g : Nat) (args : List Int) (K : Int), l[i]? = some v → i + 1010 ≤ g →
    (args.length : Int) = v.2.1 → (∀ a ∈ args, 0 ≤ a ∧ a ≤ 1000) → 0 ≤ K → K ≤ 20000 → fvOK l g i args K := by
  intro i
  induction i using Nat.strongRecOn with
  | ind i ih =>
    intro v g args K hv hg hlen hargs hK0 hK1
    obtain ⟨f, rfl⟩ : ∃ f, g = f + 1 := ⟨g - 1, by omega⟩
    obtain ⟨hk, hfa, h3, h4, h5⟩ := fv_full (hw i v hv)
    have hin : i < l.length := (List.getElem?_eq_some_iff.1 hv).1
    -- callees
    have sub1 : ∀ (j : Int), inN i j = true → ∀ (zs : List Int) (K : Int), (zs.length : Int) = argOf l j → (∀ a ∈ zs, 0 ≤ a ∧ a ≤ 1000) → 0 ≤ K → K ≤ 20000 → fvOK l f j zs K := by
      intro j hj zs K e1 e2 e3 e4
      have hj' : 0 ≤ j ∧ j < (i : Int) := by unfold inN at hj; exact of_decide_eq_true hj
      obtain ⟨w, w1, w2⟩ := idx_get (xs := l) hj'.1 (by omega)
      have : ((j.toNat : Nat) : Int) = j := by omega
      have ha : argOf l j = w.2.1 := by unfold argOf; rw [w2]; rfl
      have := ih j.toNat (by omega) w f zs K w2 (by omega) (by rw [e1, ha]) e2 e3 e4
      rwa [‹((j.toNat : Nat) : Int) = j›] at this
    show ∃ x K', funcs_asker_ask_step (funcs_asker_ask f) f i args (l, K) = some (x, (l, K')) ∧ ((x = -1 ∧ ref_Func_step (ref_Func f) f l i args K = some (-1, 0)) ∨ (0 ≤ x ∧ x ≤ 1000 ∧ 0 ≤ K' ∧ K' ≤ 20000 ∧ ref_Func_step (ref_Func f) f l i args K = some (x, K')))
    by_cases hz : K = 0
    · subst hz
      refine ⟨-1, _, rfl, .inl ⟨rfl, rfl⟩⟩
    have eK : w64 (K - 1) = K - 1 := w64_id (by omega) (by omega)
    have d1 : decide (K - 1 < 0) = false := decide_eq_false (by omega)
    have d2 : (K == 0) = false := by simp [hz]
    have hidx : idx l (i : Int) = some v := by rw [idx_nat, hv]
    unfold funcs_asker_ask_step ref_Func_step
    simp only [eK, d1, d2, cond_false, hidx, bind_some']
    have hk5 : v.1 = 1 ∨ v.1 = 2 ∨ v.1 = 3 ∨ v.1 = 4 ∨ v.1 = 5 := by omega
    rcases hk5 with k | k | k | k | k
    · simp only [k, show ((1 : Int) == 2) = false from rfl, show ((1 : Int) == 3) = false from rfl, show ((1 : Int) == 4) = false from rfl, show ((1 : Int) == 5) = false from rfl, cond_false, bind_some']
      exact ⟨0, K - 1, rfl, .inr ⟨by omega, by omega, by omega, by omega, rfl⟩⟩
    · have hl1 : 1 ≤ v.2.1 := by
        unfold fcArgs at hfa
        simp only [k, show ((2 : Int) == 2) = true from rfl, Bool.true_or, cond_true, Bool.or_eq_false_iff, Bool.not_eq_false', decide_eq_true_eq] at hfa
        exact hfa.1.1.1
      obtain ⟨c, c1, c2⟩ := idx_get (xs := args) (i := 0) (by omega) (by omega)
      have hc := hargs c (List.mem_of_getElem? c2)
      simp only [k, show ((2 : Int) == 2) = true from rfl, show ((2 : Int) == 3) = false from rfl, show ((2 : Int) == 4) = false from rfl, show ((2 : Int) == 5) = false from rfl, cond_false, cond_true, c1, bind_some']
      rw [w64_id (by omega) (by omega)]
      by_cases hb : c ≥ 1000
      · rw [decide_eq_true hb, decide_eq_true (by omega : c + 1 > 1000)]
        exact ⟨-1, K - 1, rfl, .inl ⟨rfl, rfl⟩⟩
      · rw [decide_eq_false hb, decide_eq_false (by omega : ¬ c + 1 > 1000)]
        exact ⟨c + 1, K - 1, rfl, .inr ⟨by omega, by omega, by omega, by omega, rfl⟩⟩
    · have hp := h3 (by rw [k]; rfl)
      obtain ⟨c, c1, c2⟩ := idx_get (xs := args) (i := v.2.2.1) (by omega) (by omega)
      have hc := hargs c (List.mem_of_getElem? c2)
      simp only [k, show ((3 : Int) == 2) = false from rfl, show ((3 : Int) == 3) = true from rfl, show ((3 : Int) == 4) = false from rfl, show ((3 : Int) == 5) = false from rfl, cond_false, cond_true, c1, bind_some']
      rw [decide_eq_false (by omega : ¬ c > 1000)]
      exact ⟨c, K - 1, rfl, .inr ⟨by omega, by omega, by omega, by omega, rfl⟩⟩
    · obtain ⟨⟨a1, a2⟩, a3⟩ := h4 (by rw [k]; rfl)
      have hs := fc_into hfa (by rw [k]; rfl)
      simp only [k, show ((4 : Int) == 2) = false from rfl, show ((4 : Int) == 3) = false from rfl, show ((4 : Int) == 4) = true from rfl, cond_false, cond_true, bind_some']
      obtain ⟨y, y', e1, e2, e3⟩ := fv_loop4 (l := l) (f := f) (args := args) (v := v) (fun j hj K k0 k1 => sub1 j (a3 j hj).1 args K (by rw [(a3 j hj).2, hlen]) hargs k0 k1) hs (K := K - 1) (by omega) (by omega)
      rw [e1, e2]
      rcases e3 with ⟨K', rfl, rfl⟩ | ⟨K', own, rfl, rfl, g1, g2, g3, g4⟩
      · exact ⟨-1, K', rfl, .inl ⟨rfl, rfl⟩⟩
      · obtain ⟨x, K'', q1, q2⟩ := sub1 v.2.2.2.1 a1 own K' (by rw [a2, g3]) g4 g1 g2
        simp only [bind_some', q1]
        rcases q2 with ⟨rfl, q3⟩ | ⟨r1, r2, r3, r4, q3⟩
        · exact ⟨-1, K'', rfl, .inl ⟨rfl, by rw [q3]; rfl⟩⟩
        · exact ⟨x, K'', rfl, .inr ⟨r1, r2, r3, r4, by rw [q3]; rfl⟩⟩
    · obtain ⟨⟨a1, a2⟩, b1, b2⟩ := h5 (by rw [k]; rfl)
      have hr := fc_args hfa (by rw [k]; rfl)
      have hsub : (sub args (0 : Int) ((List.length args : Int) - (1 : Int))) = args.take (args.length - 1) := by
        unfold sub
        have : ((List.length args : Int) - 1).toNat - (0 : Int).toNat = args.length - 1 := by omega
        rw [this]; rfl
      have hck : ck (0 ≤ (0 : Int) ∧ (0 : Int) ≤ (List.length args : Int) - (1 : Int) ∧ (List.length args : Int) - (1 : Int) ≤ (List.length args : Int)) = some () := ck_ok (by omega)
      obtain ⟨last, c1, c2⟩ := idx_get (xs := args) (i := w64 ((List.length args : Int) - (1 : Int))) (by rw [w64_id (by omega) (by omega)]; omega) (by rw [w64_id (by omega) (by omega)]; omega)
      have hlast := hargs last (List.mem_of_getElem? c2)
      simp only [k, show ((5 : Int) == 2) = false from rfl, show ((5 : Int) == 3) = false from rfl, show ((5 : Int) == 4) = false from rfl, show ((5 : Int) == 5) = true from rfl, cond_false, cond_true, bind_some']
      rw [w64_id (n := (List.length args : Int) - 1) (by omega) (by omega), hck, hsub, bind_some', bind_some']
      obtain ⟨x, K', q1, q2⟩ := sub1 v.2.2.2.1 a1 (args.take (args.length - 1)) (K - 1) (by rw [a2]; simp; omega) (fun a ha => hargs a (List.mem_of_mem_take ha)) (by omega) (by omega)
      rw [q1, bind_some']
      have hit : ∀ left, ((x = -1 ∧ True) ∨ (0 ≤ x ∧ x ≤ 1000 ∧ 0 ≤ K' ∧ K' ≤ 20000 ∧ left = K')) → _ := fun left hh =>
        fv_iter (l := l) (f := f) (v := v) c1 (by omega) (by omega) hargs (fun zs K e1 e2 e3 e4 => sub1 v.2.2.2.2.1 b1 zs K (by rw [b2, e1, ← hlen]; omega) e2 e3 e4) (last - 0).toNat f 0 x K' left rfl (by omega) (by omega) hh
      have fin : ∀ left, ref_Func f l v.2.2.2.1 (args.take (args.length - 1)) (K - 1) = some (x, left) → ((x = -1 ∧ True) ∨ (0 ≤ x ∧ x ≤ 1000 ∧ 0 ≤ K' ∧ K' ≤ 20000 ∧ left = K')) →
          ∃ x_1 K'_1, ((iter (funcs_asker_ask_b5 args v (funcs_asker_ask f)) f (x, 0, l, K')).bind fun v79 => some (v79.1, v79.2)) = some (x_1, l, K'_1) ∧ (x_1 = -1 ∧ ((ref_Func f l v.2.2.2.1 (args.take (args.length - 1)) (K - 1)).bind fun r64 =>
            (iter (ref_Func_b5 l args v (ref_Func f)) f (r64.1, r64.2, 0)).bind fun v89 => bif decide (v89.1 < 0) then some (-1, 0) else some (v89.1, v89.2)) = some (-1, 0) ∨ 0 ≤ x_1 ∧ x_1 ≤ 1000 ∧ 0 ≤ K'_1 ∧ K'_1 ≤ 20000 ∧ ((ref_Func f l v.2.2.2.1 (args.take (args.length - 1)) (K - 1)).bind fun r64 =>
            (iter (ref_Func_b5 l args v (ref_Func f)) f (r64.1, r64.2, 0)).bind fun v89 => bif decide (v89.1 < 0) then some (-1, 0) else some (v89.1, v89.2)) = some (x_1, K'_1)) := by
        intro left e hh
        obtain ⟨x', K'', left', i1, i2, i3⟩ := hit left hh
        rw [e]
        simp only [bind_some', i1, i2]
        rcases i3 with rfl | ⟨r1, r2, r3, r4, rfl⟩
        · exact ⟨-1, K'', rfl, .inl ⟨rfl, rfl⟩⟩
        · refine ⟨x', left', rfl, .inr ⟨r1, r2, r3, r4, ?_⟩⟩
          rw [decide_eq_false (by omega : ¬ x' < 0)]; rfl
      rcases q2 with ⟨rfl, q3⟩ | ⟨r1, r2, r3, r4, q3⟩
      · exact fin 0 q3 (.inl ⟨rfl, trivial⟩)
      · exact fin K' q3 (.inr ⟨r1, r2, r3, r4, rfl⟩)
def fvBad (a : Int) : Bool := !decide (0 ≤ a ∧ a ≤ 20)
theorem fv_bad (l : List Int) : slices_ContainsFunc_Lintint_with_funcs_Value_1 l = some (l.any fvBad) := by
  unfold slices_ContainsFunc_Lintint_with_funcs_Value_1 slices_IndexFunc_Lintint_with_funcs_Value_1
  rcases forL_at (body := slices_IndexFunc_Lintint_with_funcs_Value_1_b1) (fin := fun _ => (Esc.brk () : Esc Int Unit)) (p := fvBad) (g := fun j => Esc.ret j) (l := l)
    (fun i a _ => by
      unfold slices_IndexFunc_Lintint_with_funcs_Value_1_b1 funcs_Value_1
      have e : ((decide (a < (0 : Int))) || (decide (a > (20 : Int)))) = fvBad a := by
        unfold fvBad; rw [or_dec, not_dec]; exact decide_eq_decide.2 (by omega)
      rw [e, bind_some']
      cases fvBad a <;> rfl) (i := 0) with ⟨h1, h2⟩ | ⟨h1, j, h2, h3, h4⟩
  · rw [h2, h1]; rfl
  · rw [h4, h1]; simp [h2]
theorem fv_law : ∀ (l : List Int) (i x : Int), forL law_FuncsValues_b20 (fun x136 => x136) l i x = some (bif x == 0 then (bif l.any fvBad then 4 else 0) else x)
  | [], i, x => by
    simp only [forL, List.any_nil, cond_false]
    cases h : (x == 0) with
    | true => have : x = 0 := by simpa using h
              rw [this]; rfl
    | false => rfl
  | a :: l, i, x => by
    have hb : law_FuncsValues_b20 i a x = some (.next (bif x == 0 then (bif fvBad a then 4 else x) else x)) := by
      unfold law_FuncsValues_b20 law_FuncsValues_g18
      rw [within_eq]
      unfold fvBad
      cases (x == 0) <;> cases decide (0 ≤ a ∧ a ≤ 20) <;> rfl
    simp only [forL, hb]
    rw [fv_law l, List.any_cons]
    cases h : (x == 0) with
    | true =>
      have h0 : x = 0 := by simpa using h
      subst h0
      cases fvBad a <;> rfl
    | false => simp [h]
theorem FuncsValues_true (a0 : List FN) (a1 : List Int) (f0 : Fits (.slice (.pair (.int .i64) (.pair (.int .i64) (.pair (.int .i64) (.pair (.int .i64) (.pair (.int .i64) (.slice (.int .i64)))))))) a0) (f1 : Fits (.slice (.int .i64)) a1) : ∃ fuel, law_FuncsValues fuel a0 a1 = some true := by
  refine ⟨1100, ?_⟩
  obtain ⟨z, hz1, hz2, hz3⟩ := fr_key a0
  unfold law_FuncsValues funcs_Value law_FuncsValues_g4
  rw [hz1, hz2]
  simp only [bind_some']
  by_cases hz : z = 0
  · subst hz
    obtain ⟨l1, l2, hw⟩ := hz3 rfl
    obtain ⟨m, hm⟩ : ∃ m, a0.length = m + 1 := ⟨a0.length - 1, by omega⟩
    have ew : w64 ((List.length a0 : Int) - 1) = (m : Int) := by rw [w64_id (by omega) (by omega)]; omega
    obtain ⟨v, hv⟩ : ∃ v, a0[m]? = some v := ⟨a0[m], List.getElem?_eq_getElem (by omega)⟩
    have hidx : idx a0 (m : Int) = some v := by rw [idx_nat, hv]
    simp only [ew, show ((0 : Int) != 0) = false from rfl, show ((0 : Int) == 0) = true from rfl, cond_false, cond_true, hidx, bind_some']
    cases hl : ((List.length a1 : Int) != v.2.1) with
    | true =>
      simp only [cond_true, bind_some']
      rw [fv_law]; rfl
    | false =>
      simp only [cond_false, bind_some']
      rw [fv_law, fv_bad]
      cases hb : a1.any fvBad with
      | true => rfl
      | false =>
        have hr : ∀ a ∈ a1, 0 ≤ a ∧ a ≤ 1000 := by
          intro a ha
          have := List.any_eq_false.1 hb a ha
          unfold fvBad at this
          simp only [Bool.not_eq_true', decide_eq_false_iff_not, Classical.not_not] at this
          omega
        have hlen : (a1.length : Int) = v.2.1 := by simpa using hl
        obtain ⟨x, K', e1, e2⟩ := fv_main (l := a0) l2 hw m v 1100 a1 20000 hv (by omega) hlen hr (by omega) (by omega)
        simp only [bind_some', cond_false, cond_true, show ((0 : Int) == 0) = true from rfl, show ((0 : Int) != 0) = false from rfl, e1]
        rcases e2 with ⟨rfl, e3⟩ | ⟨r1, r2, r3, r4, e3⟩
        · rw [e3]; rfl
        · rw [e3]
          simp only [bind_some']
          rw [decide_eq_false (by omega : ¬ x < 0)]
          simp
  · have e1 : (z != 0) = true := by simp [hz]
    have e2 : (z == 0) = false := by simp [hz]
    simp only [e1, e2, cond_true, cond_false, bind_some']
    rw [fv_law, e2]
    simp [e1]

end Go.Proofs.Ytbjfglckfknheaa.funcsValues
namespace Go.Proofs.Ytbjfglckfknheaa.funcsValues
open Go.ChangeShapes Go.WideShapes Go.ChangeAt Go.RowKit
open Go.ChangeMaps (open_string shut_string)
theorem own : ownKnob Try.prog.godebug = none := by kernel_rfl
theorem laidOut : laidOutB Try.prog = true := by kernel_rfl
theorem lifted (os : Os) (started : os.Started) (H : Type) (enc : TypeId × Value → H) :
    ReturnsInHanded {} Try.checked os 11 .any (Rows.funcsValuesSpec.pre6 enc Try.prog Try.f11 Rows.funcsValuesRow.domain false) (Rows.funcsValuesSpec.post enc Try.prog Try.f11 false true false false) := by
  refine returnsInHanded_of_change (C := Try.checked) own started (by kernel_rfl) Try.func11
    (ChangeSpec.witness6 (enc := enc) (C := Try.checked) false ⟨#[], #[.slice none 0 0, .slice none 0 0], []⟩ 8 (by kernel_rfl) (by kernel_rfl) (by kernel_rfl) (by kernel_rfl)) ?_
  intro W base args ds gs before hval0 hW hcnd _
  have hval : ∀ (j : Nat) t v, Try.f11.params[j]? = some t → args[j]? = some v → Value.okWide Try.prog W .any base t v := hval0
  have hW' := hW
  obtain ⟨p, q, hA0, hV, rfl, hfz, hnd⟩ := hW
  have hA : DataW.TrodAll enc Try.prog W 0 (fun _ => true) true Try.f11.params.toList args.toList ds p := hA0
  rw [Try.params11] at hA hval
  obtain ⟨v0, vs0, d0, ds0, p0, q0, hargs, rfl, rfl, h0, r0⟩ := trodAll_cons hA
  obtain ⟨v1, vs1, d1, ds1, p1, q1, rfl, rfl, rfl, h1, r1⟩ := trodAll_cons r0
  obtain ⟨rfl, rfl, rfl⟩ := trodAll_nil r1
  obtain rfl : args = #[v0, v1] := by cases args; simp_all
  obtain ⟨rfl, rfl⟩ := trodVars_none hV
  obtain ⟨x0, f0, k0⟩ := Go.Sl.read_arg (u := (.slice (.pair (.int .i64) (.pair (.int .i64) (.pair (.int .i64) (.pair (.int .i64) (.pair (.int .i64) (.slice (.int .i64))))))))) (by kernel_rfl) (by kernel_rfl) (hval 0 59 v0 rfl rfl) h0
  have lt0 : ∀ x ∈ p0, x.block < W.heap.size := by obtain ⟨m, hm⟩ := h0; exact DataW.trod_lt m _ _ _ hm
  obtain ⟨x1, f1, k1⟩ := Go.Sl.read_arg (u := (.slice (.int .i64))) (by kernel_rfl) (by kernel_rfl) (hval 1 22 v1 rfl rfl) h1
  have lt1 : ∀ x ∈ p1, x.block < W.heap.size := by obtain ⟨m, hm⟩ := h1; exact DataW.trod_lt m _ _ _ hm
  clear hA0 hval0
  obtain ⟨fuel, hm⟩ := FuncsValues_true x0 x1 f0 f1
  refine (Go.Sl.law_of (vs := [v0, v1]) (law_FuncsValues_ok hm) rfl (.cons (k0 _ _) (.cons (k1 _ _) .nil))).mono fun e W' ⟨he, bel⟩ => ?_
  subst he
  exact ⟨_, rfl, _, _, _, [], _, [], hW', trodAll_mk1 (shut_bool Try.underlying4 _), (trodAll_cons_mk (Below.trod laidOut (by kernel_rfl) (of_decide_eq_true (by kernel_rfl)) h0 bel lt0) (trodAll_cons_mk (Below.trod laidOut (by kernel_rfl) (of_decide_eq_true (by kernel_rfl)) h1 bel lt1) trodAll_mk0)), rfl, bel.frame _, fun h => by cases h⟩
theorem proved : Rows.FuncsValuesSaid :=
  OpenClaim.holds_of_wide 11 Try.f11 rfl rfl rfl rfl rfl rfl rfl ⟨rfl, rfl, rfl, rfl, rfl⟩ rfl rfl rfl rfl rfl (by kernel_rfl) Try.func11 (by kernel_rfl)
    (of_decide_eq_true (by kernel_rfl)) (by unfold Func.isWrapper; first | (rw [if_pos (by decide +kernel)]; kernel_rfl) | (rw [if_neg (by decide +kernel)]; exact ⟨rfl, rfl⟩))
    (fun os started H enc _ => lifted os started H enc)
#print axioms proved
end Go.Proofs.Ytbjfglckfknheaa.funcsValues
