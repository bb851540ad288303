/- For any functions funcs.Rank returns the specified results: FuncsRanks returns true and changes nothing; no conditions. -/
import Derived.Test.YtbjfglckfknheaaRows
import Derived.WalkKit
import Derived.ProofKit
import Derived.OpenShut
import Derived.ShutString
import Derived.ChangeOld
import Derived.Below
import Derived.Test.YtbjfglckfknheaaFuncsRanksM2
set_option linter.all false
set_option maxRecDepth 100000
namespace Go.Proofs.Ytbjfglckfknheaa.funcsRanks
open Go Go.Sl

theorem within_eq (a b c : Int) : ref_Within a b c = some (decide (a ≤ b ∧ b ≤ c)) := by
  unfold ref_Within
  rw [Bool.decide_and]

theorem inside1 (n v : Int) : ref_Inside n [v] = some (decide (0 ≤ v ∧ v < n)) := by
  unfold ref_Inside
  rw [forL_ex (p := fun v => decide (v < 0) || decide (v ≥ n)) (y := Esc.ret false) (fun i a _ => by unfold ref_Inside_b1; cases (decide (a < 0) || decide (a ≥ n)) <;> rfl)]
  by_cases h : 0 ≤ v ∧ v < n
  · have : (decide (v < 0) || decide (v ≥ n)) = false := by simp only [Bool.or_eq_false_iff, decide_eq_false_iff_not]; omega
    simp [this, h]
  · have : (decide (v < 0) || decide (v ≥ n)) = true := by simp only [Bool.or_eq_true, decide_eq_true_eq]; omega
    simp [this, h]

abbrev FN := Int × (Int × (Int × (Int × (Int × List Int))))
def inN (n : Nat) (j : Int) : Bool := decide (0 ≤ j ∧ j < (n : Int))
def argOf (l : List FN) (j : Int) : Int := ((l[j.toNat]?).map (·.2.1)).getD 0
def fcT (l : List FN) (n : Nat) (j args : Int) : Int := bif inN n j then (bif argOf l j != args then 3 else 0) else 2
theorem fc_idx {l : List FN} {n : Nat} (hn : n ≤ l.length) {j : Int} (h : inN n j = true) : ∃ f : FN, idx l j = some f ∧ f.2.1 = argOf l j := by
  unfold inN at h
  have h := of_decide_eq_true h
  obtain ⟨f, h1, h2⟩ := idx_get (xs := l) h.1 (by omega)
  exact ⟨f, h1, by unfold argOf; rw [h2]; rfl⟩
theorem fc_there {l : List FN} {n : Nat} (hn : n ≤ l.length) (j args : Int) : funcs_wrong_1 j args (n : Int) l = some (fcT l n j args) := by
  unfold funcs_wrong_1 fcT
  have e : ((decide (j < (0 : Int))) || (decide (j ≥ (n : Int)))) = !inN n j := by
    unfold inN; rw [or_dec, not_dec]; exact decide_eq_decide.2 (by omega)
  rw [e]
  cases h : inN n j with
  | false => rfl
  | true =>
    obtain ⟨f, h1, h2⟩ := fc_idx hn h
    rw [h1, ← h2]
    simp only [Bool.not_true, cond_false, cond_true, bind_some']
    cases (f.2.1 != args) <;> rfl
def fcAsk (l : List Int) : Int := bif l.any (2 == ·) then 2 else bif l.any (3 == ·) then 3 else 0
def fcArgs (v : FN) : Bool := !decide ((bif v.1 == 2 || v.1 == 5 then (1 : Int) else 0) ≤ v.2.1 ∧ v.2.1 ≤ 4) || (v.1 == 2 && decide (v.2.1 > 1)) || (v.1 == 4 && decide ((v.2.2.2.2.2.length : Int) > 4))
def fcL (l : List FN) (n : Nat) (v : FN) : List Int :=
  bif v.1 == 4 then fcT l n v.2.2.2.1 v.2.2.2.2.2.length :: v.2.2.2.2.2.map (fcT l n · v.2.1) else bif v.1 == 5 then [fcT l n v.2.2.2.1 (v.2.1 - 1), fcT l n v.2.2.2.2.1 (v.2.1 + 1)] else []
def fcz (l : List FN) (n : Nat) (v : FN) : Int :=
  bif !decide (1 ≤ v.1 ∧ v.1 ≤ 5) then 6 else bif fcArgs v then 1 else bif v.1 == 3 && !decide (0 ≤ v.2.2.1 ∧ v.2.2.1 < v.2.1) then 4 else fcAsk (fcL l n v)
theorem fc_has (x : Int) (l : List Int) : slices_Contains_LapiErrnoapiErrno x l = some (l.any (x == ·)) := by
  unfold slices_Contains_LapiErrnoapiErrno slices_Index_LapiErrnoapiErrno
  rcases forL_at (body := slices_Index_LapiErrnoapiErrno_b1 x) (fin := fun _ => (Esc.brk () : Esc Int Unit)) (p := (x == ·)) (g := fun j => Esc.ret j) (l := l)
    (fun i a _ => by unfold slices_Index_LapiErrnoapiErrno_b1; cases (x == a) <;> rfl) (i := 0) with ⟨h1, h2⟩ | ⟨h1, j, h2, h3, h4⟩
  · rw [h2, h1]; rfl
  · rw [h4, h1]; simp [h2]
theorem fc_ask (l : List Int) : forI (0 : Int) (2 : Int) (funcs_wrong_b16 l) (fun x187 => (Esc.brk () : Esc Int Unit)) () = some (bif fcAsk l != 0 then Esc.ret (fcAsk l) else Esc.brk ()) := by
  unfold forI
  rw [if_pos ⟨by omega, by omega⟩]
  show loopI (funcs_wrong_b16 l) (fun x187 => (Esc.brk () : Esc Int Unit)) 2 0 () = _
  have h0 : funcs_wrong_b16 l 0 () = some (bif l.any (2 == ·) then .done (.ret 2) else .next ()) := by
    unfold funcs_wrong_b16
    have : idx [(2 : Int), (3 : Int)] 0 = some 2 := rfl
    rw [this, bind_some', fc_has, bind_some']
    cases l.any (2 == ·) <;> rfl
  have h1 : funcs_wrong_b16 l (0 + 1) () = some (bif l.any (3 == ·) then .done (.ret 3) else .next ()) := by
    unfold funcs_wrong_b16
    have : idx [(2 : Int), (3 : Int)] (0 + 1) = some 3 := rfl
    rw [this, bind_some', fc_has, bind_some']
    cases l.any (3 == ·) <;> rfl
  unfold fcAsk
  simp only [loopI, h0]
  cases l.any (2 == ·) with
  | true => rfl
  | false =>
    simp only [cond_false, h1]
    cases l.any (3 == ·) <;> rfl
theorem fc_g4 (v : FN) : funcs_wrong_g4 v (bif v.1 == 2 || v.1 == 5 then (1 : Int) else 0) = some (fcArgs v) := by
  unfold funcs_wrong_g4 fcArgs
  generalize (bif v.1 == 2 || v.1 == 5 then (1 : Int) else 0) = q
  by_cases h1 : v.2.1 < q
  · have : ¬ (q ≤ v.2.1 ∧ v.2.1 ≤ 4) := by omega
    rw [decide_eq_true h1, decide_eq_false this]; rfl
  · by_cases h2 : v.2.1 > 4
    · have : ¬ (q ≤ v.2.1 ∧ v.2.1 ≤ 4) := by omega
      rw [decide_eq_false h1, decide_eq_true h2, decide_eq_false this]; rfl
    · have : q ≤ v.2.1 ∧ v.2.1 ≤ 4 := by omega
      rw [decide_eq_false h1, decide_eq_false h2, decide_eq_true this]
      cases (v.1 == 2) <;> cases (decide (v.2.1 > 1)) <;> cases (v.1 == 4) <;> rfl
theorem fc_least (v : FN) : ((bif v.1 == (2 : Int) then (some true) else (some (v.1 == (5 : Int)))).bind fun v18 => bif v18 then (some (1 : Int)) else (some (0 : Int))) = some (bif v.1 == 2 || v.1 == 5 then (1 : Int) else 0) := by
  cases (v.1 == 2) <;> cases (v.1 == 5) <;> rfl
theorem fc_args {v : FN} (h : fcArgs v = false) : (v.1 == 5) = true → 1 ≤ v.2.1 ∧ v.2.1 ≤ 4 := by
  intro h5
  unfold fcArgs at h
  rw [h5] at h
  simp only [Bool.or_true, cond_true, Bool.or_eq_false_iff, Bool.not_eq_false', decide_eq_true_eq] at h
  exact h.1.1
theorem fc_into {v : FN} (h : fcArgs v = false) : (v.1 == 4) = true → v.2.2.2.2.2.length ≤ 4 := by
  intro h4
  unfold fcArgs at h
  rw [h4] at h
  simp only [Bool.true_and, Bool.or_eq_false_iff, decide_eq_false_iff_not] at h
  omega
theorem fc_prog {l : List FN} {n : Nat} {v : FN} (hv : l[n]? = some v) : funcs_wrong l (n : Int) = some (fcz l n v) := by
  have hn : n ≤ l.length := Nat.le_of_lt (List.getElem?_eq_some_iff.1 hv).1
  unfold funcs_wrong fcz
  rw [idx_nat, hv, bind_some', fc_least, bind_some']
  have e1 : (bif decide (v.1 < (1 : Int)) then (some true) else (some (decide (v.1 > (5 : Int))))) = some (!decide (1 ≤ v.1 ∧ v.1 ≤ 5)) := by
    rw [bif_some]; congr 1
    by_cases h : v.1 < 1
    · have : ¬ (1 ≤ v.1 ∧ v.1 ≤ 5) := by omega
      simp [h, this]
    · rw [decide_eq_false h, cond_false, not_dec]; exact decide_eq_decide.2 (by omega)
  have e2 : (bif v.1 == (3 : Int) then (bif decide (v.2.2.1 < (0 : Int)) then (some true) else (some (decide (v.2.2.1 ≥ v.2.1)))) else (some false)) = some (v.1 == 3 && !decide (0 ≤ v.2.2.1 ∧ v.2.2.1 < v.2.1)) := by
    cases (v.1 == 3) with
    | false => rfl
    | true =>
      rw [cond_true, bif_some, Bool.true_and]; congr 1
      by_cases h : v.2.2.1 < 0
      · have : ¬ (0 ≤ v.2.2.1 ∧ v.2.2.1 < v.2.1) := by omega
        simp [h, this]
      · rw [decide_eq_false h, cond_false, not_dec]; exact decide_eq_decide.2 (by omega)
  rw [e1, bind_some', fc_g4, bind_some', e2, bind_some']
  cases decide (1 ≤ v.1 ∧ v.1 ≤ 5) with
  | false => rfl
  | true =>
    cases ha : fcArgs v with
    | true => rfl
    | false =>
      cases (v.1 == 3 && !decide (0 ≤ v.2.2.1 ∧ v.2.2.1 < v.2.1)) with
      | true => rfl
      | false =>
        have hL : ((funcs_wrong_g14 l (n : Int) v).bind fun v152 => (funcs_wrong_g15 l (n : Int) v v152)) = some (fcL l n v) := by
          unfold funcs_wrong_g14 funcs_wrong_g15 fcL
          cases h4 : (v.1 == 4) with
          | true =>
            have h5 : (v.1 == 5) = false := by
              have : v.1 = 4 := by simpa using h4
              rw [this]; rfl
            have hi := fc_into ha h4
            rw [h5]
            simp only [cond_true, cond_false]
            rw [fc_there hn, bind_some']
            obtain ⟨y, p1, p2⟩ := forL_inv (body := funcs_wrong_b11 l (n : Int) v) (fin := fun x => x) (l := v.2.2.2.2.2) (x := [fcT l n v.2.2.2.1 (v.2.2.2.2.2.length : Int)]) (fun k x => k ≤ 4 ∧ x = fcT l n v.2.2.2.1 (v.2.2.2.2.2.length : Int) :: (v.2.2.2.2.2.take k).map (fcT l n · v.2.1)) (fun y => y = fcT l n v.2.2.2.1 (v.2.2.2.2.2.length : Int) :: v.2.2.2.2.2.map (fcT l n · v.2.1)) ⟨by omega, by simp⟩
              (fun k a x hk hx => by
                have hkl := (List.getElem?_eq_some_iff.1 hk).1
                obtain ⟨hk4, rfl⟩ := hx
                have hck : ck ((List.length (fcT l n v.2.2.2.1 (v.2.2.2.2.2.length : Int) :: (v.2.2.2.2.2.take k).map (fcT l n · v.2.1)) : Int) + 1 ≤ 4294967296) = some () := ck_ok (by simp; omega)
                unfold funcs_wrong_b11
                rw [fc_there hn, bind_some', hck, bind_some']
                refine ⟨_, rfl, by omega, ?_⟩
                rw [List.take_add_one, hk]; simp)
              (fun x hx => by rw [hx.2, List.take_length])
            rw [p1, bind_some', bind_some', p2]
          | false =>
            cases h5 : (v.1 == 5) with
            | true =>
              have hr := fc_args ha h5
              simp only [cond_true, cond_false, bind_some']
              rw [w64_id (by omega) (by omega), w64_id (by omega) (by omega), fc_there hn, bind_some', fc_there hn, bind_some', ck_ok (by simp), bind_some']; rfl
            | false => rfl
        have hL2 : ∀ {β : Type} (k : List Int → Option β), ((funcs_wrong_g14 l (n : Int) v).bind fun v152 => (funcs_wrong_g15 l (n : Int) v v152).bind k) = k (fcL l n v) := by
          intro β k
          rw [← Option.bind_assoc, hL]; rfl
        simp only [Bool.not_true, cond_false]
        rw [hL2, fc_ask, bind_some']
        cases hz : (fcAsk (fcL l n v) != 0) with
        | true => rfl
        | false => have : fcAsk (fcL l n v) = 0 := by simpa using hz
                   rw [this]; rfl
theorem fc_two (l : List FN) (n : Nat) (j a : Int) : ((2 : Int) == fcT l n j a) = !inN n j := by
  unfold fcT
  cases inN n j <;> cases (argOf l j != a) <;> rfl
theorem fc_three (l : List FN) (n : Nat) (j a : Int) : ((3 : Int) == fcT l n j a) = (inN n j && (argOf l j != a)) := by
  unfold fcT
  cases inN n j <;> cases (argOf l j != a) <;> rfl
theorem fc_insides (n : Nat) (l : List Int) : ref_Inside (n : Int) l = some (!l.any fun j => !inN n j) := by
  unfold ref_Inside
  rw [forL_ex (p := fun j => !inN n j) (y := Esc.ret false) (fun i a _ => by
    unfold ref_Inside_b1
    have e : ((decide (a < (0 : Int))) || (decide (a ≥ (n : Int)))) = !inN n a := by
      unfold inN; rw [or_dec, not_dec]; exact decide_eq_decide.2 (by omega)
    rw [e]; cases inN n a <;> rfl)]
  cases (l.any fun j => !inN n j) <;> rfl
theorem fc_ref {l : List FN} {n : Nat} {v : FN} (hv : l[n]? = some v) : ref_FuncsCheck_b218 l (n : Int) v () = some (bif fcz l n v != 0 then .done (.ret (fcz l n v)) else .next ()) := by
  have hn : n ≤ l.length := Nat.le_of_lt (List.getElem?_eq_some_iff.1 hv).1
  unfold ref_FuncsCheck_b218 ref_FuncsCheck_g215 fcz
  rw [within_eq, bind_some', fc_least, bind_some']
  have e1 : ref_FuncsCheck_g193 v (bif v.1 == 2 || v.1 == 5 then (1 : Int) else 0) = some (fcArgs v) := by
    unfold ref_FuncsCheck_g193 fcArgs
    rw [within_eq, bind_some']
    cases h2 : (v.1 == 2) with
    | true =>
      have h4 : (v.1 == 4) = false := by
        have : v.1 = 2 := by simpa using h2
        rw [this]; rfl
      rw [h4]
      simp only [Bool.true_or, cond_true, Bool.true_and, Bool.false_and, Bool.or_false]
      by_cases h : (1 : Int) ≤ v.2.1 ∧ v.2.1 ≤ 4
      · rw [decide_eq_true h]
        have : (v.2.1 != 1) = decide (v.2.1 > 1) := by rw [bne_dec]; exact decide_eq_decide.2 (by omega)
        rw [this]
        cases decide (v.2.1 > 1) <;> rfl
      · rw [decide_eq_false h]; rfl
    | false =>
      generalize (bif false || v.1 == 5 then (1 : Int) else 0) = q
      cases decide (q ≤ v.2.1 ∧ v.2.1 ≤ 4) <;> cases (v.1 == 4) <;> simp
  rw [e1, bind_some']
  have e2 : (bif v.1 == (3 : Int) then ((ref_Inside v.2.1 [v.2.2.1]).bind fun r2040 => some (!r2040)) else (some false)) = some (v.1 == 3 && !decide (0 ≤ v.2.2.1 ∧ v.2.2.1 < v.2.1)) := by
    rw [inside1]
    cases (v.1 == 3) <;> rfl
  rw [e2, bind_some']
  cases decide (1 ≤ v.1 ∧ v.1 ≤ 5) with
  | false => rfl
  | true =>
    cases ha : fcArgs v with
    | true => rfl
    | false =>
      cases (v.1 == 3 && !decide (0 ≤ v.2.2.1 ∧ v.2.2.1 < v.2.1)) with
      | true => rfl
      | false =>
        simp only [Bool.not_true, cond_false]
        unfold ref_FuncsCheck_g207 ref_FuncsCheck_g208 fcL fcAsk
        cases h4 : (v.1 == 4) with
        | true =>
          have h5 : (v.1 == 5) = false := by
            have : v.1 = 4 := by simpa using h4
            rw [this]; rfl
          rw [h5]
          simp only [cond_true, cond_false, List.any_cons, List.any_map, Function.comp_def, fc_two, fc_three, fc_insides, bind_some', List.any_nil, Bool.or_false, Bool.not_not]
          cases hA : inN n v.2.2.2.1 with
          | false => rfl
          | true =>
            cases hI : (v.2.2.2.2.2.any fun j => !inN n j) with
            | true => rfl
            | false =>
              obtain ⟨f, f1, f2⟩ := fc_idx hn hA
              have hall : ∀ j ∈ v.2.2.2.2.2, inN n j = true := fun j hj => by simpa using List.any_eq_false.1 hI j hj
              have hany : (v.2.2.2.2.2.any fun x => inN n x && argOf l x != v.2.1) = v.2.2.2.2.2.any fun x => argOf l x != v.2.1 := by
                rw [Bool.eq_iff_iff, List.any_eq_true, List.any_eq_true]
                constructor
                · rintro ⟨x, hx, h⟩; rw [hall x hx, Bool.true_and] at h; exact ⟨x, hx, h⟩
                · rintro ⟨x, hx, h⟩; exact ⟨x, hx, by rw [hall x hx, Bool.true_and]; exact h⟩
              rw [f1, hany]
              rw [forL_ex (p := fun j => argOf l j != v.2.1) (y := Esc.ret 3) (fun i j hj => by
                obtain ⟨g, g1, g2⟩ := fc_idx hn (hall j hj)
                unfold ref_FuncsCheck_b202
                rw [g1, bind_some', g2]
                cases (argOf l j != v.2.1) <;> rfl)]
              simp only [Bool.not_true, Bool.not_false, Bool.true_and, Bool.false_or, Bool.or_false, bind_some', cond_false, f2]
              cases (argOf l v.2.2.2.1 != (v.2.2.2.2.2.length : Int)) <;> cases (v.2.2.2.2.2.any fun j => argOf l j != v.2.1) <;> rfl
        | false =>
          cases h5 : (v.1 == 5) with
          | true =>
            have hr := fc_args ha h5
            simp only [cond_true, cond_false, List.any_cons, fc_two, fc_three, fc_insides, bind_some', List.any_nil, Bool.or_false, Bool.not_not]
            rw [w64_id (by omega) (by omega), w64_id (by omega) (by omega)]
            cases hA : inN n v.2.2.2.1 with
            | false => rfl
            | true =>
              cases hB : inN n v.2.2.2.2.1 with
              | false => rfl
              | true =>
                obtain ⟨f, f1, f2⟩ := fc_idx hn hA
                obtain ⟨g, g1, g2⟩ := fc_idx hn hB
                rw [f1, g1]
                simp only [Bool.not_true, Bool.true_and, Bool.false_or, Bool.or_false, bind_some', cond_false, f2, g2]
                cases (argOf l v.2.2.2.1 != (v.2.1 - 1)) <;> cases (argOf l v.2.2.2.2.1 != (v.2.1 + 1)) <;> rfl
          | false => rfl

theorem fr_key (l : List FN) : ∃ z, funcs_Check l = some z ∧ ref_FuncsCheck l = some z ∧ (z = 0 → 1 ≤ l.length ∧ l.length ≤ 12 ∧ ∀ (n : Nat) (v : FN), l[n]? = some v → fcz l n v = 0) := by
  unfold funcs_Check ref_FuncsCheck
  have e : ((decide ((List.length l : Int) < (1 : Int))) || (decide ((List.length l : Int) > (12 : Int)))) = !decide (1 ≤ (l.length : Int) ∧ (l.length : Int) ≤ 12) := by
    rw [or_dec, not_dec]; exact decide_eq_decide.2 (by omega)
  rw [within_eq, bind_some', e]
  by_cases hl : 1 ≤ (l.length : Int) ∧ (l.length : Int) ≤ 12
  · rw [decide_eq_true hl]
    obtain ⟨y, h1, h2, h3⟩ := forL_eq (body := funcs_Check_b1 l) (body' := ref_FuncsCheck_b218 l) (fin := fun _ => (Esc.brk () : Esc Int Unit)) (l := l) (x := ()) (Inv := fun n _ => ∀ (j : Nat) (v : FN), j < n → l[j]? = some v → fcz l j v = 0)
      (Post := fun y => match y with | .ret z => z ≠ 0 | .brk _ => ∀ (j : Nat) (v : FN), l[j]? = some v → fcz l j v = 0) (fun j v hj => by omega)
      (fun n v x hv hI => by
        refine ⟨bif fcz l n v != 0 then .done (.ret (fcz l n v)) else .next (), ?_, fc_ref hv, ?_⟩
        · unfold funcs_Check_b1
          rw [fc_prog hv, bind_some']
          cases (fcz l n v != 0) <;> rfl
        · cases hz : (fcz l n v != 0) with
          | true => simpa using hz
          | false =>
            have hz : fcz l n v = 0 := by simpa using hz
            intro j w hj hw
            by_cases e : j = n
            · subst e; rw [hv] at hw; rw [← Option.some.inj hw]; exact hz
            · exact hI j w (by omega) hw) (fun _ hI j v hv => hI j v (List.getElem?_eq_some_iff.1 hv).1 hv)
    simp only [Bool.not_true, cond_false]
    rw [h1, h2]
    cases y with
    | ret z => exact ⟨z, rfl, rfl, fun e => (h3 e).elim⟩
    | brk z => exact ⟨0, rfl, rfl, fun _ => ⟨by omega, by omega, h3⟩⟩
  · rw [decide_eq_false hl]
    exact ⟨1, rfl, rfl, fun e => by cases e⟩
theorem fr_ask {l : List Int} (h : fcAsk l = 0) : l.any (2 == ·) = false := by
  unfold fcAsk at h
  cases h2 : l.any (2 == ·) with
  | false => rfl
  | true => rw [h2] at h; cases h
theorem fr_in {l : List FN} {n : Nat} {v : FN} (h : fcz l n v = 0) : ((v.1 == 4) = true → inN n v.2.2.2.1 = true ∧ ∀ a ∈ v.2.2.2.2.2, inN n a = true) ∧ ((v.1 == 5) = true → inN n v.2.2.2.1 = true ∧ inN n v.2.2.2.2.1 = true) := by
  unfold fcz at h
  cases h1 : decide (1 ≤ v.1 ∧ v.1 ≤ 5) with
  | false => rw [h1] at h; cases h
  | true =>
    rw [h1] at h
    cases h2 : fcArgs v with
    | true => rw [h2] at h; cases h
    | false =>
      rw [h2] at h
      cases h3 : (v.1 == 3 && !decide (0 ≤ v.2.2.1 ∧ v.2.2.1 < v.2.1)) with
      | true => rw [h3] at h; cases h
      | false =>
        rw [h3] at h
        have h4 : (fcL l n v).any (2 == ·) = false := fr_ask h
        unfold fcL at h4
        refine ⟨fun k => ?_, fun k => ?_⟩
        · rw [k, cond_true, List.any_cons, fc_two, Bool.or_eq_false_iff, List.any_eq_false] at h4
          refine ⟨by simpa using h4.1, fun a ha => ?_⟩
          have := h4.2 _ (List.mem_map.2 ⟨a, ha, rfl⟩)
          rw [fc_two] at this
          simpa using this
        · have k4 : (v.1 == 4) = false := by
            have : v.1 = 5 := by simpa using k
            rw [this]; rfl
          rw [k4, k, cond_false, cond_true] at h4
          simp only [List.any_cons, fc_two, List.any_nil, Bool.or_false, Bool.or_eq_false_iff] at h4
          exact ⟨by simpa using h4.1, by simpa using h4.2⟩
theorem fr_get {x : List Int} {n : Nat} (hx : x.length = n) {j : Int} (h : inN n j = true) : idx x j = some (x.getD j.toNat 0) ∧ x.getD j.toNat 0 ∈ x := by
  unfold inN at h
  have h := of_decide_eq_true h
  obtain ⟨c, h1, h2⟩ := idx_get (xs := x) h.1 (by omega)
  have e : x.getD j.toNat 0 = c := by rw [List.getD_eq_getElem?_getD, h2]; rfl
  rw [e]
  exact ⟨h1, List.mem_of_getElem? h2⟩
theorem fr_fold {x : List Int} {B : Int} (hB : B ≤ 1000) : ∀ (ws : List Int) (y : Int), (∀ a ∈ ws, 1 ≤ x.getD a.toNat 0 ∧ x.getD a.toNat 0 ≤ B) → 0 ≤ y → y ≤ B →
    ws.foldl (fun y a => imax y (w64 (x.getD a.toNat 0 + 2))) (y + 2) = ws.foldl (fun y a => if x.getD a.toNat 0 > y then x.getD a.toNat 0 else y) y + 2 ∧ y ≤ ws.foldl (fun y a => if x.getD a.toNat 0 > y then x.getD a.toNat 0 else y) y ∧ ws.foldl (fun y a => if x.getD a.toNat 0 > y then x.getD a.toNat 0 else y) y ≤ B
  | [], y, _, _, h => ⟨rfl, Int.le_refl _, h⟩
  | a :: ws, y, h, h0, h1 => by
    have ha := h a (by simp)
    rw [List.foldl_cons, List.foldl_cons, w64_id (by omega) (by omega)]
    unfold imax
    by_cases hc : x.getD a.toNat 0 > y
    · rw [if_pos (by omega), if_pos hc]
      obtain ⟨p1, p2, p3⟩ := fr_fold hB ws (x.getD a.toNat 0) (fun b hb => h b (by simp [hb])) (by omega) ha.2
      unfold imax at p1
      exact ⟨p1, by omega, p3⟩
    · rw [if_neg (by omega), if_neg hc]
      have := fr_fold hB ws y (fun b hb => h b (by simp [hb])) h0 h1
      unfold imax at this
      exact this
theorem fr_step {l : List FN} {n : Nat} (hn : n ≤ 12) {v : FN} (hz : fcz l n v = 0) {x : List Int} (hx : x.length = n) (hr : ∀ r ∈ x, 1 ≤ r ∧ r ≤ 3 * n) (hsz : v.2.2.2.2.2.length ≤ 4 ∨ (v.1 == 4) = false) (i : Int) :
    ∃ z : Int, funcs_Rank_b45 i v x = some (.next (x ++ [z])) ∧ ref_Rank_b49 i v x = some (.next (x ++ [z])) ∧ 1 ≤ z ∧ z ≤ 3 * (n + 1) := by
  have hck : ck ((List.length x : Int) + 1 ≤ 4294967296) = some () := ck_ok (by omega)
  have hi := fr_in hz
  have hget : ∀ j : Int, inN n j = true → 1 ≤ x.getD j.toNat 0 ∧ x.getD j.toNat 0 ≤ 3 * n := fun j hj => hr _ (fr_get hx hj).2
  have hrf : ∀ (ws : List Int) (i : Int) (y : Int), (∀ a ∈ ws, inN n a = true) → forL (ref_Rank_b44 x) (fun x352 => x352) ws i y = some (ws.foldl (fun y a => if x.getD a.toNat 0 > y then x.getD a.toNat 0 else y) y) := fun ws i y ha =>
    forL_fold (g := fun (y a : Int) => if x.getD a.toNat 0 > y then x.getD a.toNat 0 else y) (fun i a y hm => by
      unfold ref_Rank_b44
      rw [(fr_get hx (ha a hm)).1, bind_some', bif_some, bind_some', bif_ite])
  unfold funcs_Rank_b45 ref_Rank_b49 funcs_Rank_g43 ref_Rank_g40
  rw [hck]
  cases h4 : (v.1 == 4) with
  | true =>
    have h5 : (v.1 == 5) = false := by
      have : v.1 = 4 := by simpa using h4
      rw [this]; rfl
    obtain ⟨i1, i2⟩ := hi.1 h4
    have hle : v.2.2.2.2.2.length ≤ 4 := by
      rcases hsz with h | h
      · exact h
      · rw [h4] at h; cases h
    have hck2 : ck ((1 : Int) + (List.length v.2.2.2.2.2 : Int) ≤ 4294967296) = some () := ck_ok (by omega)
    have g1 := hget _ i1
    rw [cond_true, (fr_get hx i1).1, bind_some', w64_id (by omega) (by omega)]
    rw [forL_fold (g := fun (y a : Int) => imax y (w64 (x.getD a.toNat 0 + 2))) (fun i a y hm => by
      unfold funcs_Rank_b40
      rw [(fr_get hx (i2 a hm)).1, bind_some'])]
    obtain ⟨p1, p2, p3⟩ := fr_fold (x := x) (B := 3 * (n : Int)) (by omega) v.2.2.2.2.2 (x.getD v.2.2.2.1.toNat 0) (fun a ha => hget a (i2 a ha)) (by omega) g1.2
    have hrr := hrf ([v.2.2.2.1] ++ v.2.2.2.2.2) 0 0 (fun a ha => by
      rcases List.mem_append.1 ha with ha | ha
      · obtain rfl : a = v.2.2.2.1 := by simpa using ha
        exact i1
      · exact i2 a ha)
    rw [List.singleton_append, List.foldl_cons, if_pos (by omega)] at hrr
    rw [hck2, h5]
    simp only [bind_some', cond_true, cond_false, List.singleton_append, p1, hrr]
    rw [w64_id (by omega) (by omega)]
    exact ⟨_, rfl, rfl, by omega, by omega⟩
  | false =>
    cases h5 : (v.1 == 5) with
    | true =>
      obtain ⟨i1, i2⟩ := hi.2 h5
      have g1 := hget _ i1
      have g2 := hget _ i2
      have hrr := hrf [v.2.2.2.1, v.2.2.2.2.1] 0 0 (fun a ha => by
        simp only [List.mem_cons, List.not_mem_nil, or_false] at ha
        rcases ha with rfl | rfl
        · exact i1
        · exact i2)
      simp only [List.foldl_cons, List.foldl_nil] at hrr
      rw [if_pos (show x.getD v.2.2.2.1.toNat 0 > 0 by omega)] at hrr
      simp only [cond_false, cond_true, bind_some', hrr, (fr_get hx i1).1, (fr_get hx i2).1]
      unfold imax
      by_cases hc : x.getD v.2.2.2.2.1.toNat 0 > x.getD v.2.2.2.1.toNat 0
      · rw [if_pos hc, w64_id (by omega) (by omega)]
        exact ⟨_, rfl, rfl, by omega, by omega⟩
      · rw [if_neg hc, w64_id (by omega) (by omega)]
        exact ⟨_, rfl, rfl, by omega, by omega⟩
    | false =>
      refine ⟨1, rfl, ?_, by omega, by omega⟩
      simp only [cond_false, bind_some', forL]
      rfl
theorem FuncsRanks_true (a0 : List FN) (f0 : Fits (.slice (.pair (.int .i64) (.pair (.int .i64) (.pair (.int .i64) (.pair (.int .i64) (.pair (.int .i64) (.slice (.int .i64)))))))) a0) : ∃ fuel, law_FuncsRanks fuel a0 = some true := by
  refine ⟨10, ?_⟩
  obtain ⟨z, h1, h2, h3⟩ := fr_key a0
  unfold law_FuncsRanks funcs_Rank
  rw [h1, h2, bind_some']
  by_cases hz : z = 0
  · subst hz
    obtain ⟨l1, l2, l3⟩ := h3 rfl
    obtain ⟨y, y', q1, q2, rfl, q3⟩ := forL_rel (body := funcs_Rank_b45) (body' := ref_Rank_b49) (fin := fun x => x) (fin' := fun x => x) (l := a0) (l' := a0) (x := ([] : List Int)) (x' := ([] : List Int))
      (fun n x x' => x = x' ∧ x.length = n ∧ ∀ r ∈ x, 1 ≤ r ∧ r ≤ 3 * (n : Int)) (fun y y' => y = y' ∧ y.length = a0.length) rfl ⟨rfl, rfl, by simp⟩
      (by
        rintro n a a' x x' hn hn' ⟨rfl, hx, hr⟩
        rw [hn] at hn'
        obtain rfl := Option.some.inj hn'
        have hlt := (List.getElem?_eq_some_iff.1 hn).1
        have hz := l3 n a hn
        have hsz : a.2.2.2.2.2.length ≤ 4 ∨ (a.1 == 4) = false := by
          cases h4 : (a.1 == 4) with
          | false => exact .inr rfl
          | true =>
            left
            unfold fcz at hz
            cases hA : fcArgs a with
            | true =>
              rw [hA] at hz
              cases hk : decide (1 ≤ a.1 ∧ a.1 ≤ 5) with
              | true => rw [hk] at hz; cases hz
              | false => rw [hk] at hz; cases hz
            | false => exact fc_into hA h4
        obtain ⟨z, e1, e2, e3, e4⟩ := fr_step (by omega) hz hx hr hsz (n : Int)
        refine ⟨_, _, e1, e2, rfl, by simp [hx], fun r hm => ?_⟩
        rcases List.mem_append.1 hm with hm | hm
        · have := hr r hm; omega
        · obtain rfl : r = z := by simpa using hm
          exact ⟨e3, by omega⟩)
      (by rintro x x' ⟨rfl, hx, _⟩; exact ⟨rfl, hx⟩)
    obtain ⟨m, hm⟩ : ∃ m, a0.length = m + 1 := ⟨a0.length - 1, by omega⟩
    obtain ⟨c, hc, _⟩ := idx_get (xs := y) (i := (m : Int)) (by omega) (by omega)
    have hw : w64 ((List.length y : Int) - 1) = (m : Int) := by rw [w64_id (by omega) (by omega)]; omega
    have hR : ref_Rank 10 a0 = some c := by
      unfold ref_Rank
      rw [q2, bind_some', hw, hc]; rfl
    simp only [show ((0 : Int) != 0) = false from rfl, cond_false, q1, bind_some', hw, hc, hR]
    simp
  · have e1 : (z != 0) = true := by simp [hz]
    rw [e1, cond_true, bind_some', bind_some', e1, cond_true]
    simp

end Go.Proofs.Ytbjfglckfknheaa.funcsRanks
namespace Go.Proofs.Ytbjfglckfknheaa.funcsRanks
open Go.ChangeShapes Go.WideShapes Go.ChangeAt Go.RowKit
open Go.ChangeMaps (open_string shut_string)
theorem own : ownKnob Try.prog.godebug = none := by kernel_rfl
theorem laidOut : laidOutB Try.prog = true := by kernel_rfl
theorem lifted (os : Os) (started : os.Started) (H : Type) (enc : TypeId × Value → H) :
    ReturnsInHanded {} Try.checked os 10 .any (Rows.funcsRanksSpec.pre6 enc Try.prog Try.f10 Rows.funcsRanksRow.domain false) (Rows.funcsRanksSpec.post enc Try.prog Try.f10 false true false false) := by
  refine returnsInHanded_of_change (C := Try.checked) own started (by kernel_rfl) Try.func10
    (ChangeSpec.witness6 (enc := enc) (C := Try.checked) false ⟨#[], #[.slice none 0 0], []⟩ 8 (by kernel_rfl) (by kernel_rfl) (by kernel_rfl) (by kernel_rfl)) ?_
  intro W base args ds gs before hval0 hW hcnd _
  have hval : ∀ (j : Nat) t v, Try.f10.params[j]? = some t → args[j]? = some v → Value.okWide Try.prog W .any base t v := hval0
  have hW' := hW
  obtain ⟨p, q, hA0, hV, rfl, hfz, hnd⟩ := hW
  have hA : DataW.TrodAll enc Try.prog W 0 (fun _ => true) true Try.f10.params.toList args.toList ds p := hA0
  rw [Try.params10] at hA hval
  obtain ⟨v0, vs0, d0, ds0, p0, q0, hargs, rfl, rfl, h0, r0⟩ := trodAll_cons hA
  obtain ⟨rfl, rfl, rfl⟩ := trodAll_nil r0
  obtain rfl : args = #[v0] := by cases args; simp_all
  obtain ⟨rfl, rfl⟩ := trodVars_none hV
  obtain ⟨x0, f0, k0⟩ := Go.Sl.read_arg (u := (.slice (.pair (.int .i64) (.pair (.int .i64) (.pair (.int .i64) (.pair (.int .i64) (.pair (.int .i64) (.slice (.int .i64))))))))) (by kernel_rfl) (by kernel_rfl) (hval 0 59 v0 rfl rfl) h0
  have lt0 : ∀ x ∈ p0, x.block < W.heap.size := by obtain ⟨m, hm⟩ := h0; exact DataW.trod_lt m _ _ _ hm
  clear hA0 hval0
  obtain ⟨fuel, hm⟩ := FuncsRanks_true x0 f0
  refine (Go.Sl.law_of (vs := [v0]) (law_FuncsRanks_ok hm) rfl (.cons (k0 _ _) .nil)).mono fun e W' ⟨he, bel⟩ => ?_
  subst he
  exact ⟨_, rfl, _, _, _, [], _, [], hW', trodAll_mk1 (shut_bool Try.underlying4 _), (trodAll_cons_mk (Below.trod laidOut (by kernel_rfl) (of_decide_eq_true (by kernel_rfl)) h0 bel lt0) trodAll_mk0), rfl, bel.frame _, fun h => by cases h⟩
theorem proved : Rows.FuncsRanksSaid :=
  OpenClaim.holds_of_wide 10 Try.f10 rfl rfl rfl rfl rfl rfl rfl ⟨rfl, rfl, rfl, rfl, rfl⟩ rfl rfl rfl rfl rfl (by kernel_rfl) Try.func10 (by kernel_rfl)
    (of_decide_eq_true (by kernel_rfl)) (by unfold Func.isWrapper; first | (rw [if_pos (by decide +kernel)]; kernel_rfl) | (rw [if_neg (by decide +kernel)]; exact ⟨rfl, rfl⟩))
    (fun os started H enc _ => lifted os started H enc)
#print axioms proved
end Go.Proofs.Ytbjfglckfknheaa.funcsRanks
