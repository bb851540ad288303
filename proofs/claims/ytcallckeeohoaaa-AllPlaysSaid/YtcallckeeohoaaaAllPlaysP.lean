/- For any question, plan and other one all.Play returns the specified results: AllPlays returns true and changes nothing; no conditions. -/
import Derived.Test.YtcallckeeohoaaaRows
import Derived.WalkKit
import Derived.ProofKit
import Derived.OpenShut
import Derived.ShutString
import Derived.ChangeOld
import Derived.Below
import Derived.Test.YtcallckeeohoaaaAllPlaysM
set_option linter.all false
set_option maxRecDepth 100000
namespace Go.Proofs.Ytcallckeeohoaaa.allPlays
open Go Go.Sl

theorem within_eq (a b c : Int) : ref_Within a b c = some (decide (a ≤ b ∧ b ≤ c)) := by
  unfold ref_Within
  rw [Bool.decide_and]

def badv (n : Int) (v : Int) : Bool := decide (v < 0) || decide (v ≥ n)
theorem nm_inside (n : Int) (l : List Int) : ref_Inside n l = some (!l.any (badv n)) := by
  unfold ref_Inside
  rw [forL_ex (p := badv n) (y := Esc.ret false) (fun i a _ => by unfold ref_Inside_b1 badv; cases (decide (a < 0) || decide (a ≥ n)) <;> rfl)]
  cases (l.any (badv n)) <;> rfl
theorem nm_bad (l : List Int) (n : Int) : slices_ContainsFunc_Lintint_with_name_wrong_1 l n = some (l.any (badv n)) := by
  unfold slices_ContainsFunc_Lintint_with_name_wrong_1 slices_IndexFunc_Lintint_with_name_wrong_1
  rcases forL_at (body := slices_IndexFunc_Lintint_with_name_wrong_1_b1 n) (fin := fun _ => (Esc.brk () : Esc Int Unit)) (p := badv n) (g := fun j => Esc.ret j) (l := l)
    (fun i a _ => by unfold slices_IndexFunc_Lintint_with_name_wrong_1_b1 name_wrong_1 badv; cases (decide (a < 0) || decide (a ≥ n)) <;> rfl) (i := 0) with ⟨h1, h2⟩ | ⟨h1, j, h2, h3, h4⟩
  · rw [h2, h1]; rfl
  · rw [h4, h1]
    simp [h2]
def ncl (n : Int) (v : List Int × List Int) : Option Int :=
  bif decide ((v.1.length : Int) > 8) || decide ((v.2.length : Int) > 8) then some 1 else bif v.1.any (badv n) || v.2.any (badv n) then some 2 else none
def ncAll (n m : Int) (l : List (List Int × List Int)) : Int :=
  bif !decide (0 ≤ n ∧ n ≤ m) || decide ((l.length : Int) > 200) then 1 else (l.findSome? (ncl n)).getD 0
theorem nm_body (n i : Int) (v : List Int × List Int) : name_wrong_b10 n i v () = some (said Esc.ret (ncl n v)) := by
  unfold name_wrong_b10 name_wrong_g7 ncl
  rw [nm_bad, nm_bad]
  cases decide ((v.1.length : Int) > 8) <;> cases decide ((v.2.length : Int) > 8) <;> cases v.1.any (badv n) <;> cases v.2.any (badv n) <;> rfl
theorem nm_rbody (n i : Int) (v : List Int × List Int) : ref_ClausesCheck_b7 n i v () = some (said Esc.ret (ncl n v)) := by
  unfold ref_ClausesCheck_b7 ncl
  rw [nm_inside, nm_inside]
  cases decide ((v.1.length : Int) > 8) <;> cases decide ((v.2.length : Int) > 8) <;> cases v.1.any (badv n) <;> cases v.2.any (badv n) <;> rfl
theorem nm_check (n m : Int) (l : List (List Int × List Int)) : ref_ClausesCheck n m l = some (ncAll n m l) := by
  unfold ref_ClausesCheck ncAll
  rw [within_eq]
  simp only [Option.bind_some]
  rw [forL_find (f := ncl n) (g := Esc.ret) (fun i a _ => nm_rbody n i a)]
  cases (!decide (0 ≤ n ∧ n ≤ m)) || decide ((l.length : Int) > 200)
  · cases l.findSome? (ncl n) <;> rfl
  · rfl
theorem nm_wrong (n m : Int) (l : List (List Int × List Int)) : name_wrong n m l = some (ncAll n m l) := by
  unfold name_wrong ncAll
  rw [forL_find (f := ncl n) (g := Esc.ret) (fun i a _ => nm_body n i a)]
  have : ((decide (n < (0 : Int))) || (decide (n > m))) = !decide (0 ≤ n ∧ n ≤ m) := by
    rw [or_dec, not_dec]; exact decide_eq_decide.2 (by omega)
  rw [this]
  cases (!decide (0 ≤ n ∧ n ≤ m)) || decide ((l.length : Int) > 200)
  · cases l.findSome? (ncl n) <;> rfl
  · rfl
theorem nm_ok {n m : Int} {l : List (List Int × List Int)} (h : ncAll n m l = 0) : (0 ≤ n ∧ n ≤ m) ∧ l.length ≤ 200 ∧ ∀ v ∈ l, (∀ x ∈ v.1, 0 ≤ x ∧ x < n) ∧ (∀ x ∈ v.2, 0 ≤ x ∧ x < n) := by
  unfold ncAll at h
  cases hc : (!decide (0 ≤ n ∧ n ≤ m)) || decide ((l.length : Int) > 200) with
  | true => rw [hc] at h; cases h
  | false =>
    rw [hc] at h
    simp only [Bool.or_eq_false_iff, Bool.not_eq_false', decide_eq_true_eq, decide_eq_false_iff_not] at hc
    have hn : l.findSome? (ncl n) = none := by
      cases hf : l.findSome? (ncl n) with
      | none => rfl
      | some e =>
        rw [hf] at h
        obtain ⟨v, _, hv⟩ := List.exists_of_findSome?_eq_some hf
        unfold ncl at hv
        have : e = 0 := h
        subst this
        cases hb : (decide ((v.1.length : Int) > 8) || decide ((v.2.length : Int) > 8)) <;> rw [hb] at hv
        · cases hb2 : (v.1.any (badv n) || v.2.any (badv n)) <;> rw [hb2] at hv <;> simp at hv
        · simp at hv
    have good : ∀ k : List Int, k.any (badv n) = false → ∀ x ∈ k, 0 ≤ x ∧ x < n := by
      intro k hk x hx
      have := List.any_eq_false.1 hk x hx
      unfold badv at this
      simp only [Bool.or_eq_true, decide_eq_true_eq, not_or] at this
      omega
    refine ⟨hc.1, by omega, fun v hv => ?_⟩
    have := List.findSome?_eq_none_iff.1 hn v hv
    unfold ncl at this
    obtain ⟨_, h2⟩ := bif_none this
    obtain ⟨h2, _⟩ := bif_none h2
    rw [Bool.or_eq_false_iff] at h2
    exact ⟨good _ h2.1, good _ h2.2⟩
theorem nm_idx {x : List Bool} {i : Int} (h0 : 0 ≤ i) (h : i < (x.length : Int)) : idx x i = some (x.getD i.toNat false) := by
  obtain ⟨b, h1, h2⟩ := idx_get h0 h
  rw [h1, List.getD_eq_getElem?_getD, h2]; rfl
def clT (b : List Bool) (v : List Int × List Int) : Bool := v.1.any (fun x => b.getD x.toNat false) || v.2.any (fun x => !b.getD x.toNat false)
theorem nm_is1 {l : List Int} {b : List Bool} (h : ∀ x ∈ l, 0 ≤ x ∧ x < (b.length : Int)) : slices_ContainsFunc_Lintint_with_name_is_1 l b = some (l.any fun x => b.getD x.toNat false) := by
  unfold slices_ContainsFunc_Lintint_with_name_is_1 slices_IndexFunc_Lintint_with_name_is_1
  rcases forL_at (body := slices_IndexFunc_Lintint_with_name_is_1_b1 b) (fin := fun _ => (Esc.brk () : Esc Int Unit)) (p := fun x => b.getD x.toNat false) (g := fun j => Esc.ret j) (l := l)
    (fun i a ha => by unfold slices_IndexFunc_Lintint_with_name_is_1_b1 name_is_1; rw [nm_idx (h a ha).1 (h a ha).2]; simp only [Option.bind_some]; cases b.getD a.toNat false <;> rfl) (i := 0) with ⟨h1, h2⟩ | ⟨h1, j, h2, h3, h4⟩
  · rw [h2, h1]; rfl
  · rw [h4, h1]
    simp [h2]
theorem nm_is2 {l : List Int} {b : List Bool} (h : ∀ x ∈ l, 0 ≤ x ∧ x < (b.length : Int)) : slices_ContainsFunc_Lintint_with_name_is_2 l b = some (l.any fun x => !b.getD x.toNat false) := by
  unfold slices_ContainsFunc_Lintint_with_name_is_2 slices_IndexFunc_Lintint_with_name_is_2
  rcases forL_at (body := slices_IndexFunc_Lintint_with_name_is_2_b1 b) (fin := fun _ => (Esc.brk () : Esc Int Unit)) (p := fun x => !b.getD x.toNat false) (g := fun j => Esc.ret j) (l := l)
    (fun i a ha => by unfold slices_IndexFunc_Lintint_with_name_is_2_b1 name_is_2; rw [nm_idx (h a ha).1 (h a ha).2]; simp only [Option.bind_some]; cases b.getD a.toNat false <;> rfl) (i := 0) with ⟨h1, h2⟩ | ⟨h1, j, h2, h3, h4⟩
  · rw [h2, h1]; rfl
  · rw [h4, h1]
    simp [h2]
theorem nm_istrue {l : List (List Int × List Int)} {b : List Bool} (h : ∀ v ∈ l, (∀ x ∈ v.1, 0 ≤ x ∧ x < (b.length : Int)) ∧ (∀ x ∈ v.2, 0 ≤ x ∧ x < (b.length : Int))) : name_is l b = some (!l.any fun v => !clT b v) := by
  unfold name_is
  rw [forL_ex (p := fun v => !clT b v) (y := Esc.ret false) (fun i a ha => by
    unfold name_is_b1 clT
    rw [nm_is1 (h a ha).1, nm_is2 (h a ha).2]
    simp only [Option.bind_some]
    cases (a.1.any fun x => b.getD x.toNat false) <;> cases (a.2.any fun x => !b.getD x.toNat false) <;> rfl)]
  cases (l.any fun v => !clT b v) <;> rfl
theorem nm_clause {v : List Int × List Int} {b : List Bool} (h : (∀ x ∈ v.1, 0 ≤ x ∧ x < (b.length : Int)) ∧ (∀ x ∈ v.2, 0 ≤ x ∧ x < (b.length : Int))) : ref_ClauseTrue v b = some (clT b v) := by
  unfold ref_ClauseTrue clT
  rw [forL_ex (p := fun x => b.getD x.toNat false) (y := Esc.ret true) (fun i a ha => by
    unfold ref_ClauseTrue_b1; rw [nm_idx (h.1 a ha).1 (h.1 a ha).2]; simp only [Option.bind_some]; cases b.getD a.toNat false <;> rfl)]
  rw [forL_ex (p := fun x => !b.getD x.toNat false) (y := Esc.ret true) (fun i a ha => by
    unfold ref_ClauseTrue_b5; rw [nm_idx (h.2 a ha).1 (h.2 a ha).2]; simp only [Option.bind_some]; cases b.getD a.toNat false <;> rfl)]
  cases (v.1.any fun x => b.getD x.toNat false) <;> cases (v.2.any fun x => !b.getD x.toNat false) <;> rfl
theorem nm_true {l : List (List Int × List Int)} {b : List Bool} (h : ∀ v ∈ l, (∀ x ∈ v.1, 0 ≤ x ∧ x < (b.length : Int)) ∧ (∀ x ∈ v.2, 0 ≤ x ∧ x < (b.length : Int))) : ref_True l b = some (!l.any fun v => !clT b v) := by
  unfold ref_True
  rw [forL_ex (p := fun v => !clT b v) (y := Esc.ret false) (fun i a ha => by
    unfold ref_True_b1
    rw [nm_clause (h a ha)]
    simp only [Option.bind_some]
    cases clT b a <;> rfl)]
  cases (l.any fun v => !clT b v) <;> rfl

def alAll (k : List Bool) (l : List (List Int × List Int)) : Int :=
  bif decide ((k.length : Int) > 8) || decide ((l.length : Int) > 12) then 1 else ncAll (k.length : Int) 8 l
theorem al_nc {n : Int} (h0 : 0 ≤ n) (h : n ≤ 8) (l : List (List Int × List Int)) : ncAll n 200 l = ncAll n 8 l := by
  unfold ncAll
  rw [decide_eq_true (show 0 ≤ n ∧ n ≤ 200 by omega), decide_eq_true (show 0 ≤ n ∧ n ≤ 8 by omega)]
theorem al_true {k h : List Bool} {l : List (List Int × List Int)} (hk : alAll k l = 0) (hl : h.length = k.length) :
    name_True (h.length : Int) l h = some (!l.any fun v => !clT h v, 0) ∧ ref_True l h = some (!l.any fun v => !clT h v) := by
  unfold alAll at hk
  cases hc : (decide ((k.length : Int) > 8) || decide ((l.length : Int) > 12)) with
  | true => rw [hc] at hk; cases hk
  | false =>
    rw [hc] at hk
    simp only [Bool.or_eq_false_iff, decide_eq_false_iff_not] at hc
    simp only [cond_false] at hk
    have h8 : ncAll (h.length : Int) 200 l = 0 := by rw [hl, al_nc (by omega) (by omega)]; exact hk
    obtain ⟨_, _, h3⟩ := nm_ok h8
    refine ⟨?_, nm_true h3⟩
    unfold name_True
    rw [nm_wrong, h8, nm_istrue h3]
    simp
theorem al_check (k : List Bool) (l : List (List Int × List Int)) : ref_AllCheck k l = some (alAll k l) := by
  unfold ref_AllCheck alAll
  rw [nm_check]
  cases (decide ((k.length : Int) > 8) || decide ((l.length : Int) > 12)) <;> rfl
theorem al_wrong (k : List Bool) (l : List (List Int × List Int)) : all_wrong k l = some (alAll k l) := by
  unfold all_wrong
  cases hc : (decide ((k.length : Int) > 8) || decide ((l.length : Int) > 12)) with
  | true => unfold alAll; rw [hc]; rfl
  | false =>
    have hh := hc
    simp only [Bool.or_eq_false_iff, decide_eq_false_iff_not] at hh
    rw [ck_ok (by omega)]
    simp only [cond_false, bind_some', Int.toNat_natCast]
    by_cases hz : alAll k l = 0
    · have := (al_true hz (h := List.replicate k.length false) (by simp)).1
      rw [List.length_replicate] at this
      rw [this, hz]; rfl
    · have e : alAll k l = ncAll (k.length : Int) 8 l := by unfold alAll; rw [hc]; rfl
      have h8 : ncAll (k.length : Int) 200 l = alAll k l := by rw [al_nc (by omega) (by omega), e]
      unfold name_True
      rw [nm_wrong, h8]
      have e1 : (alAll k l != 0) = true := by simp [hz]
      simp only [bind_some', e1, cond_true]
theorem al_small {k : List Bool} {l : List (List Int × List Int)} (hk : alAll k l = 0) : k.length ≤ 8 := by
  unfold alAll at hk
  cases hc : (decide ((k.length : Int) > 8) || decide ((l.length : Int) > 12)) with
  | true => rw [hc] at hk; cases hk
  | false => simp only [Bool.or_eq_false_iff, decide_eq_false_iff_not] at hc; omega

theorem word_loop : ∀ (l : List Bool) (i : Nat) (x : Nat), i + l.length ≤ 60 → x < 2 ^ i → forL ref_Word_b5 (fun x => x) l (i : Int) (x : Int) = some ((x + 2 ^ i * wd l : Nat) : Int)
  | [], i, x, hi, hx => by simp [forL, wd]
  | b :: l, i, x, hi, hx => by
    simp only [List.length_cons] at hi
    have hp : 2 ^ i ≤ 2 ^ 60 := Nat.pow_le_pow_right (by omega) (by omega)
    have hs : ref_Word_b5 (i : Int) b (x : Int) = some (.next ((x + 2 ^ i * b.toNat : Nat) : Int)) := by
      unfold ref_Word_b5
      have e : IntKind.wrap .u64 (i : Int) = (i : Int) := wrap_u64 (by omega) (by omega)
      rw [e, ck_ok (by omega), bShl_one (by omega)]
      cases b with
      | true =>
        have : w64 ((x : Int) + ((2 ^ i : Nat) : Int)) = ((x + 2 ^ i * 1 : Nat) : Int) := by
          generalize 2 ^ i = p at *
          rw [w64_id (by omega) (by omega)]; omega
        simp only [cond_true, Option.bind_some, this]; rfl
      | false => simp
    have hb : b.toNat ≤ 1 := Bool.toNat_le b
    have hlt : x + 2 ^ i * b.toNat < 2 ^ (i + 1) := by
      have : 2 ^ i * b.toNat ≤ 2 ^ i * 1 := Nat.mul_le_mul_left _ hb
      rw [Nat.pow_succ]; omega
    simp only [forL, hs]
    have := word_loop l (i + 1) (x + 2 ^ i * b.toNat) (by omega) hlt
    rw [Int.natCast_add, Int.natCast_one] at this
    rw [this]
    congr 2
    simp only [wd]
    rw [Nat.mul_add, Nat.pow_succ, Nat.mul_assoc]
    omega
theorem word_eq (l : List Bool) (h : l.length ≤ 60) : ref_Word l = some ((wd l : Nat) : Int) := by
  unfold ref_Word
  have := word_loop l 0 0 (by omega) (by simp)
  simp only [Int.natCast_zero, Nat.pow_zero, Nat.one_mul, Nat.zero_add] at this
  rw [this]; rfl

theorem ap_i2 (l : List Bool) : ref_Word_i2 l = ref_Word l := rfl
theorem wd_snoc : ∀ (l : List Bool) (b : Bool), wd (l ++ [b]) = wd l + 2 ^ l.length * b.toNat
  | [], b => by cases b <;> rfl
  | a :: l, b => by
    simp only [List.cons_append, wd, wd_snoc l b, List.length_cons]
    rw [Nat.mul_add, Nat.pow_succ, Nat.mul_comm (2 ^ l.length) 2, Nat.mul_assoc]; omega
theorem ap_pow {n : Nat} (h : n ≤ 8) : 2 ^ n ≤ 256 := by
  have := Nat.pow_le_pow_right (n := 2) (by omega) h
  simpa using this
/-- how much of the plan, and of the other one's values, the first kinds take -/
def apP (k : List Bool) (n : Nat) : Nat := wd (k.take n)
def apO (k : List Bool) (n : Nat) : Nat := (k.take n).countP (!·)
theorem ap_take {k : List Bool} {n : Nat} {v : Bool} (h : k[n]? = some v) : k.take (n + 1) = k.take n ++ [v] := by rw [List.take_add_one, h]; rfl
theorem apP_succ {k : List Bool} {n : Nat} {v : Bool} (h : k[n]? = some v) : apP k (n + 1) = apP k n + 2 ^ n * v.toNat := by
  have := (List.getElem?_eq_some_iff.1 h).1
  unfold apP
  rw [ap_take h, wd_snoc, List.length_take, Nat.min_eq_left (by omega)]
theorem apO_succ {k : List Bool} {n : Nat} {v : Bool} (h : k[n]? = some v) : apO k (n + 1) = apO k n + (!v).toNat := by
  unfold apO
  rw [ap_take h, List.countP_append]
  cases v <;> rfl
theorem apP_mono {k : List Bool} : ∀ {n m : Nat}, n ≤ m → m ≤ k.length → apP k n ≤ apP k m := by
  intro n m h hm
  induction m with
  | zero => have : n = 0 := by omega
            rw [this]; exact Nat.le_refl _
  | succ m ih =>
    by_cases he : n = m + 1
    · rw [he]; exact Nat.le_refl _
    · have := ih (by omega) (by omega)
      rw [apP_succ (List.getElem?_eq_getElem (show m < k.length by omega))]; omega
theorem apO_mono {k : List Bool} : ∀ {n m : Nat}, n ≤ m → m ≤ k.length → apO k n ≤ apO k m := by
  intro n m h hm
  induction m with
  | zero => have : n = 0 := by omega
            rw [this]; exact Nat.le_refl _
  | succ m ih =>
    by_cases he : n = m + 1
    · rw [he]; exact Nat.le_refl _
    · have := ih (by omega) (by omega)
      rw [apO_succ (List.getElem?_eq_getElem (show m < k.length by omega))]; omega
theorem apP_lt (k : List Bool) (n : Nat) (h : n ≤ k.length) (h8 : k.length ≤ 8) : apP k n < 256 := by
  have := wd_lt (k.take n)
  have h2 := ap_pow (n := (k.take n).length) (by simp; omega)
  unfold apP; omega
theorem apO_le (k : List Bool) (n : Nat) (h8 : k.length ≤ 8) : apO k n ≤ 8 := by
  unfold apO
  have := List.countP_le_length (p := (!·)) (l := k.take n)
  simp at this; omega
theorem ap_count {k : List Bool} (h8 : k.length ≤ 8) : forL all_Play_b5 (fun x34 => (x34.1, x34.2)) k 0 ((0 : Int), (0 : Int)) = some (((apP k k.length : Nat) : Int), ((apO k k.length : Nat) : Int)) := by
  obtain ⟨y, h1, h2⟩ := forL_inv (body := all_Play_b5) (fin := fun x34 => (x34.1, x34.2)) (l := k) (x := ((0 : Int), (0 : Int))) (Inv := fun n x => x = (((apP k n : Nat) : Int), ((apO k n : Nat) : Int))) (Post := fun y => y = (((apP k k.length : Nat) : Int), ((apO k k.length : Nat) : Int)))
    (by simp [apP, apO, wd]) (by
      rintro n v x hv rfl
      have hn := (List.getElem?_eq_some_iff.1 hv).1
      have hp := ap_pow (n := n) (by omega)
      have hP := apP_lt k n (by omega) h8
      have hO := apO_le k n h8
      unfold all_Play_b5
      rw [ck_ok (by omega), bShl_one (by omega)]
      cases v with
      | true =>
        have e : w64 (((apP k n : Nat) : Int) + ((2 ^ n : Nat) : Int)) = ((apP k (n + 1) : Nat) : Int) := by
          rw [apP_succ hv]
          generalize 2 ^ n = p at *
          rw [w64_id (by omega) (by omega)]; simp
        simp only [cond_true, bind_some', e]
        exact ⟨_, rfl, by rw [apO_succ hv]; simp⟩
      | false =>
        have e : w64 (((apO k n : Nat) : Int) + 1) = ((apO k (n + 1) : Nat) : Int) := by
          rw [apO_succ hv, w64_id (by omega) (by omega)]; simp
        simp only [cond_false, bind_some', e]
        exact ⟨_, rfl, by rw [apP_succ hv]; simp⟩) (by rintro x rfl; rfl)
  rw [h1, h2]
theorem ap_rcount {k : List Bool} (h8 : k.length ≤ 8) : ref_Plans k = some (((apP k k.length : Nat) : Int), ((apO k k.length : Nat) : Int)) := by
  obtain ⟨y, h1, h2⟩ := forL_inv (body := ref_Plans_b6) (fin := fun x34 => (x34.1, x34.2)) (l := k) (x := ((0 : Int), (0 : Int))) (Inv := fun n x => x = (((apP k n : Nat) : Int), ((apO k n : Nat) : Int))) (Post := fun y => y = (((apP k k.length : Nat) : Int), ((apO k k.length : Nat) : Int)))
    (by simp [apP, apO, wd]) (by
      rintro n v x hv rfl
      have hn := (List.getElem?_eq_some_iff.1 hv).1
      have hp := ap_pow (n := n) (by omega)
      have hP := apP_lt k n (by omega) h8
      have hO := apO_le k n h8
      have ew : IntKind.wrap .u64 (n : Int) = (n : Int) := wrap_u64 (by omega) (by omega)
      unfold ref_Plans_b6 ref_Plans_g4
      rw [ew, ck_ok (by omega), bShl_one (by omega)]
      cases v with
      | true =>
        have e : w64 (((apP k n : Nat) : Int) + ((2 ^ n : Nat) : Int)) = ((apP k (n + 1) : Nat) : Int) := by
          rw [apP_succ hv]
          generalize 2 ^ n = p at *
          rw [w64_id (by omega) (by omega)]; simp
        simp only [cond_true, bind_some', e]
        exact ⟨_, rfl, by rw [apO_succ hv]; simp⟩
      | false =>
        have e : w64 (((apO k n : Nat) : Int) + 1) = ((apO k (n + 1) : Nat) : Int) := by
          rw [apO_succ hv, w64_id (by omega) (by omega)]; simp
        simp only [cond_false, bind_some', e]
        exact ⟨_, rfl, by rw [apP_succ hv]; simp⟩) (by rintro x rfl; rfl)
  unfold ref_Plans
  rw [h1, h2]; rfl
theorem ap_sub {xs : List Bool} {a : Nat} (h : a ≤ xs.length) : sub xs (a : Int) (xs.length : Int) = xs.drop a := by
  unfold sub
  simp only [Int.toNat_natCast]
  rw [List.take_of_length_le (by simp)]
theorem ap_play {k p o : List Bool} (h8 : k.length ≤ 8) (hp : p.length = apP k k.length) (ho : o.length = apO k k.length) :
    ∃ y y', forL all_Play_b26 (fun x193 => x193.2.2.2) k 0 (p, o, (0 : Int), []) = some y ∧ forL (ref_Played_b7 p o) (fun x73 => x73.2.2) k 0 ((0 : Int), (0 : Int), []) = some y' ∧ (y = y' ∧ y.length = k.length) := by
  refine forL_rel (R := fun n x x' => ∃ hv : List Bool, hv.length = n ∧ x = (p.drop (apP k n), o.drop (apO k n), ((wd hv : Nat) : Int), hv) ∧ x' = (((apP k n : Nat) : Int), ((apO k n : Nat) : Int), hv)) (S := fun (y y' : List Bool) => y = y' ∧ y.length = k.length) rfl ⟨[], rfl, rfl, rfl⟩ ?_ ?_
  · rintro n v v' x x' hv hv' ⟨h, hl, rfl, rfl⟩
    obtain rfl := Option.some.inj (hv.symm.trans hv')
    have hn := (List.getElem?_eq_some_iff.1 hv).1
    have hpw := ap_pow (n := n) (by omega)
    have hP := apP_lt k n (by omega) h8
    have hO := apO_le k n h8
    have hPm := apP_mono (k := k) (show n + 1 ≤ k.length by omega) (Nat.le_refl _)
    have hOm := apO_mono (k := k) (show n + 1 ≤ k.length by omega) (Nat.le_refl _)
    have hPs := apP_succ hv
    have hOs := apO_succ hv
    have hw := wd_lt h
    rw [hl] at hw
    have ew : IntKind.wrap .u64 (n : Int) = (n : Int) := wrap_u64 (by omega) (by omega)
    -- what becomes of the word
    have hor : ∀ b : Bool, (bif b then ((ck (0 ≤ (n : Int))).bind fun _ => some (bOr .i64 ((wd h : Nat) : Int) (bShl .i64 (1 : Int) (n : Int)))) else (some ((wd h : Nat) : Int))) = some ((wd (h ++ [b]) : Nat) : Int) := by
      intro b
      rw [ck_ok (by omega), bShl_one (by omega), bOr_nat (by omega) (by omega), wd_snoc, hl]
      cases b with
      | false => simp
      | true =>
        have : wd h ||| 2 ^ n = wd h + 2 ^ n := by
          have := Nat.two_pow_add_eq_or_of_lt hw 1
          rw [Nat.mul_one] at this
          rw [Nat.or_comm, ← this]; omega
        simp [this]
    unfold all_Play_b26 all_Play_g23 ref_Played_b7 ref_Played_g5
    dsimp only
    generalize hq : ck ((List.length h : Int) + 1 ≤ 4294967296) = q
    obtain rfl : q = some () := by rw [← hq]; exact ck_ok (by omega)
    clear hq
    simp only [ew]
    cases v with
    | true =>
      simp only [Bool.toNat_true, Nat.mul_one] at hPs
      simp only [Bool.not_true, Bool.toNat_false, Nat.add_zero] at hOs
      have hlt : apP k n + wd h < p.length := by omega
      have e1 : idx (p.drop (apP k n)) ((wd h : Nat) : Int) = some p[apP k n + wd h] := by
        rw [idx_nat, List.getElem?_drop, List.getElem?_eq_getElem hlt]
      have e2 : idx p (w64 (((apP k n : Nat) : Int) + ((wd h : Nat) : Int))) = some p[apP k n + wd h] := by
        rw [w64_id (by omega) (by omega), ← Int.natCast_add, idx_nat, List.getElem?_eq_getElem hlt]
      have e3 : w64 (((apP k n : Nat) : Int) + ((2 ^ n : Nat) : Int)) = ((apP k (n + 1) : Nat) : Int) := by
        rw [hPs]
        generalize 2 ^ n = q at *
        rw [w64_id (by omega) (by omega)]; simp
      have hdl : (p.drop (apP k n)).length = p.length - apP k n := by simp
      simp only [cond_true, e1, bind_some', ap_i2, word_eq h (by omega), e2]
      rw [ck_ok (by omega), bShl_one (by omega), ck_ok (by rw [hdl]; generalize 2 ^ n = q at *; omega)]
      simp only [bind_some', e3]
      rw [ap_sub (by rw [hdl]; generalize 2 ^ n = q at *; omega), List.drop_drop]
      rw [show apP k n + 2 ^ n = apP k (n + 1) by omega]
      generalize p[apP k n + wd h] = b
      have := hor b
      rw [ck_ok (by omega), bShl_one (by omega), bind_some'] at this
      rw [this]
      refine ⟨_, _, rfl, rfl, h ++ [b], by simp [hl], ?_, ?_⟩
      · rw [hOs]
      · rw [hOs]
    | false =>
      simp only [Bool.toNat_false, Nat.mul_zero, Nat.add_zero] at hPs
      simp only [Bool.not_false, Bool.toNat_true] at hOs
      have hlt : apO k n < o.length := by omega
      have e1 : idx (o.drop (apO k n)) 0 = some o[apO k n] := by
        show idx (o.drop (apO k n)) ((0 : Nat) : Int) = _
        rw [idx_nat, List.getElem?_drop, Nat.add_zero, List.getElem?_eq_getElem hlt]
      have e2 : idx o ((apO k n : Nat) : Int) = some o[apO k n] := by rw [idx_nat, List.getElem?_eq_getElem hlt]
      have e3 : w64 (((apO k n : Nat) : Int) + 1) = ((apO k (n + 1) : Nat) : Int) := by
        rw [hOs, w64_id (by omega) (by omega)]; simp
      have hdl : (o.drop (apO k n)).length = o.length - apO k n := by simp
      simp only [cond_false, e1, bind_some', e2]
      rw [ck_ok (show (0 : Int) ≤ 1 ∧ (1 : Int) ≤ ((o.drop (apO k n)).length : Int) ∧ ((o.drop (apO k n)).length : Int) ≤ ((o.drop (apO k n)).length : Int) by rw [hdl]; omega)]
      simp only [bind_some', e3]
      have hsub := ap_sub (xs := o.drop (apO k n)) (a := 1) (by rw [hdl]; omega)
      rw [show ((1 : Nat) : Int) = 1 from rfl] at hsub
      rw [hsub, List.drop_drop, show apO k n + 1 = apO k (n + 1) by omega]
      generalize o[apO k n] = b
      rw [hor b]
      refine ⟨_, _, rfl, rfl, h ++ [b], by simp [hl], ?_, ?_⟩
      · rw [hPs]
      · rw [hPs]
  · rintro x x' ⟨h, hl, rfl, rfl⟩
    exact ⟨rfl, hl⟩
theorem AllPlays_true (a0 : List Bool) (a1 : List (List Int × List Int)) (a2 : List Bool) (a3 : List Bool) (f0 : Fits (.slice .bool) a0) (f1 : Fits (.slice (.pair (.slice (.int .i64)) (.slice (.int .i64)))) a1) (f2 : Fits (.slice .bool) a2) (f3 : Fits (.slice .bool) a3) : law_AllPlays a0 a1 a2 a3 = some true := by
  unfold law_AllPlays all_Play law_AllPlays_g1
  rw [al_wrong, al_check]
  simp only [bind_some']
  by_cases hz : alAll a0 a1 = 0
  · have h8 := al_small hz
    rw [hz, ap_count h8, ap_rcount h8]
    simp only [bind_some', bne_self_eq_false, cond_false, BEq.rfl, cond_true]
    by_cases hl : (a2.length = apP a0 a0.length) ∧ (a3.length = apO a0 a0.length)
    · have e : (((List.length a2 : Int) != ((apP a0 a0.length : Nat) : Int)) || ((List.length a3 : Int) != ((apO a0 a0.length : Nat) : Int))) = false := by simp [hl.1, hl.2]
      obtain ⟨y, y', h1, h2, rfl, h3⟩ := ap_play h8 hl.1 hl.2
      have ht := al_true hz h3
      unfold ref_Played
      rw [e, h1, h2]
      simp only [cond_false, bind_some', ht.1, ht.2]
      simp
    · have e : (((List.length a2 : Int) != ((apP a0 a0.length : Nat) : Int)) || ((List.length a3 : Int) != ((apO a0 a0.length : Nat) : Int))) = true := by
        simp only [Bool.or_eq_true, bne_iff_ne, ne_eq]
        rcases Classical.not_and_iff_not_or_not.1 hl with h | h
        · exact .inl (by omega)
        · exact .inr (by omega)
      rw [e]; rfl
  · have e : (alAll a0 a1 != 0) = true := by simp [hz]
    have e2 : (alAll a0 a1 == 0) = false := by simp [hz]
    rw [e, e2]
    simp [e]

end Go.Proofs.Ytcallckeeohoaaa.allPlays
namespace Go.Proofs.Ytcallckeeohoaaa.allPlays
open Go.ChangeShapes Go.WideShapes Go.ChangeAt Go.RowKit
open Go.ChangeMaps (open_string shut_string)
theorem own : ownKnob Try.prog.godebug = none := by kernel_rfl
theorem laidOut : laidOutB Try.prog = true := by kernel_rfl
theorem lifted (os : Os) (started : os.Started) (H : Type) (enc : TypeId × Value → H) :
    ReturnsInHanded {} Try.checked os 5 .any (Rows.allPlaysSpec.pre6 enc Try.prog Try.f5 Rows.allPlaysRow.domain false) (Rows.allPlaysSpec.post enc Try.prog Try.f5 false true false false) := by
  refine returnsInHanded_of_change (C := Try.checked) own started (by kernel_rfl) Try.func5
    (ChangeSpec.witness6 (enc := enc) (C := Try.checked) false ⟨#[], #[.slice none 0 0, .slice none 0 0, .slice none 0 0, .slice none 0 0], []⟩ 8 (by kernel_rfl) (by kernel_rfl) (by kernel_rfl) (by kernel_rfl)) ?_
  intro W base args ds gs before hval0 hW hcnd _
  have hval : ∀ (j : Nat) t v, Try.f5.params[j]? = some t → args[j]? = some v → Value.okWide Try.prog W .any base t v := hval0
  have hW' := hW
  obtain ⟨p, q, hA0, hV, rfl, hfz, hnd⟩ := hW
  have hA : DataW.TrodAll enc Try.prog W 0 (fun _ => true) true Try.f5.params.toList args.toList ds p := hA0
  rw [Try.params5] at hA hval
  obtain ⟨v0, vs0, d0, ds0, p0, q0, hargs, rfl, rfl, h0, r0⟩ := trodAll_cons hA
  obtain ⟨v1, vs1, d1, ds1, p1, q1, rfl, rfl, rfl, h1, r1⟩ := trodAll_cons r0
  obtain ⟨v2, vs2, d2, ds2, p2, q2, rfl, rfl, rfl, h2, r2⟩ := trodAll_cons r1
  obtain ⟨v3, vs3, d3, ds3, p3, q3, rfl, rfl, rfl, h3, r3⟩ := trodAll_cons r2
  obtain ⟨rfl, rfl, rfl⟩ := trodAll_nil r3
  obtain rfl : args = #[v0, v1, v2, v3] := by cases args; simp_all
  obtain ⟨rfl, rfl⟩ := trodVars_none hV
  obtain ⟨x0, f0, k0⟩ := Go.Sl.read_arg (u := (.slice .bool)) (by kernel_rfl) (by kernel_rfl) (hval 0 34 v0 rfl rfl) h0
  have lt0 : ∀ x ∈ p0, x.block < W.heap.size := by obtain ⟨m, hm⟩ := h0; exact DataW.trod_lt m _ _ _ hm
  obtain ⟨x1, f1, k1⟩ := Go.Sl.read_arg (u := (.slice (.pair (.slice (.int .i64)) (.slice (.int .i64))))) (by kernel_rfl) (by kernel_rfl) (hval 1 23 v1 rfl rfl) h1
  have lt1 : ∀ x ∈ p1, x.block < W.heap.size := by obtain ⟨m, hm⟩ := h1; exact DataW.trod_lt m _ _ _ hm
  obtain ⟨x2, f2, k2⟩ := Go.Sl.read_arg (u := (.slice .bool)) (by kernel_rfl) (by kernel_rfl) (hval 2 34 v2 rfl rfl) h2
  have lt2 : ∀ x ∈ p2, x.block < W.heap.size := by obtain ⟨m, hm⟩ := h2; exact DataW.trod_lt m _ _ _ hm
  obtain ⟨x3, f3, k3⟩ := Go.Sl.read_arg (u := (.slice .bool)) (by kernel_rfl) (by kernel_rfl) (hval 3 34 v3 rfl rfl) h3
  have lt3 : ∀ x ∈ p3, x.block < W.heap.size := by obtain ⟨m, hm⟩ := h3; exact DataW.trod_lt m _ _ _ hm
  clear hA0 hval0
  have hm := AllPlays_true x0 x1 x2 x3 f0 f1 f2 f3
  refine (Go.Sl.law_of (vs := [v0, v1, v2, v3]) (law_AllPlays_ok hm) rfl (.cons (k0 _ _) (.cons (k1 _ _) (.cons (k2 _ _) (.cons (k3 _ _) .nil))))).mono fun e W' ⟨he, bel⟩ => ?_
  subst he
  exact ⟨_, rfl, _, _, _, [], _, [], hW', trodAll_mk1 (shut_bool Try.underlying4 _), (trodAll_cons_mk (Below.trod laidOut (by kernel_rfl) (of_decide_eq_true (by kernel_rfl)) h0 bel lt0) (trodAll_cons_mk (Below.trod laidOut (by kernel_rfl) (of_decide_eq_true (by kernel_rfl)) h1 bel lt1) (trodAll_cons_mk (Below.trod laidOut (by kernel_rfl) (of_decide_eq_true (by kernel_rfl)) h2 bel lt2) (trodAll_cons_mk (Below.trod laidOut (by kernel_rfl) (of_decide_eq_true (by kernel_rfl)) h3 bel lt3) trodAll_mk0)))), rfl, bel.frame _, fun h => by cases h⟩
theorem proved : Rows.AllPlaysSaid :=
  OpenClaim.holds_of_wide 5 Try.f5 rfl rfl rfl rfl rfl rfl rfl ⟨rfl, rfl, rfl, rfl, rfl⟩ rfl rfl rfl rfl rfl (by kernel_rfl) Try.func5 (by kernel_rfl)
    (of_decide_eq_true (by kernel_rfl)) (by unfold Func.isWrapper; first | (rw [if_pos (by decide +kernel)]; kernel_rfl) | (rw [if_neg (by decide +kernel)]; exact ⟨rfl, rfl⟩))
    (fun os started H enc _ => lifted os started H enc)
#print axioms proved
end Go.Proofs.Ytcallckeeohoaaa.allPlays
