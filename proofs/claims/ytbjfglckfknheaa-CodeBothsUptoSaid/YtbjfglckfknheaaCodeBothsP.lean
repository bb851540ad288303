/- For any counters, digits and have of bulk at most the given bound code.Both returns the specified results: CodeBoths returns true and changes nothing; condition: the bound. -/
import Derived.JoinedCond
import Derived.Test.YtbjfglckfknheaaRows
import Derived.WalkKit
import Derived.ProofKit
import Derived.OpenShut
import Derived.ShutString
import Derived.ChangeOld
import Derived.Below
import Derived.Test.YtbjfglckfknheaaCodeBothsM
set_option linter.all false
set_option maxRecDepth 100000
namespace Go.Proofs.Ytbjfglckfknheaa.codeBoths
open Go Go.Sl

--#upto
theorem ref_Ints_eq (a b : List Int) : ref_Ints a b = some (decide (a = b)) := by
  unfold ref_Ints
  rw [len_ne]
  by_cases h : a.length = b.length
  · rw [forL_eqs (q := b) (fun n a c hc => by
      unfold ref_Ints_b1
      rw [idx_nat, hc]
      by_cases h : a = c <;> simp [h, bne_dec]) h]
    by_cases h2 : a = b <;> simp [h2, h]
  · have : ¬ a = b := fun e => h (by rw [e])
    simp [h, this]

def oc (a0 n : Int) (v : Int × Int × Int × Int) : Option Int :=
  if v.1 ≠ 1 ∧ v.1 ≠ 2 then some 6 else if ¬ (0 ≤ v.2.1 ∧ v.2.1 < a0) then some 2
  else if ¬ (0 ≤ v.2.2.1 ∧ v.2.2.1 < n) ∨ v.1 = 2 ∧ ¬ (0 ≤ v.2.2.2 ∧ v.2.2.2 < n) then some 3 else none
theorem oc_inside (n v : Int) : ref_Inside n [v] = some (decide (0 ≤ v ∧ v < n)) := by
  unfold ref_Inside
  rw [forL_ex (p := fun v => decide (v < 0) || decide (v ≥ n)) (y := Esc.ret false) (fun i a _ => by unfold ref_Inside_b1; cases (decide (a < 0) || decide (a ≥ n)) <;> rfl)]
  by_cases h : 0 ≤ v ∧ v < n
  · have : (decide (v < 0) || decide (v ≥ n)) = false := by simp only [Bool.or_eq_false_iff, decide_eq_false_iff_not]; omega
    simp [this, h]
  · have : (decide (v < 0) || decide (v ≥ n)) = true := by simp only [Bool.or_eq_true, decide_eq_true_eq]; omega
    simp [this, h]
theorem oc_ref_body (a0 : Int) (l : List (Int × Int × Int × Int)) (h : l.length ≤ 1000000) (i : Int) (v : Int × Int × Int × Int) :
    ref_OrdersCheck_b10 a0 l i v () = some (said Esc.ret (oc a0 (l.length + 1) v)) := by
  have hw : w64 ((l.length : Int) + 1) = (l.length : Int) + 1 := w64_id (by omega) (by omega)
  unfold ref_OrdersCheck_b10 ref_OrdersCheck_g7 oc said
  rw [hw, oc_inside, oc_inside, oc_inside]
  by_cases h1 : v.1 = 1
  · by_cases h2 : 0 ≤ v.2.1 ∧ v.2.1 < a0 <;> by_cases h3 : 0 ≤ v.2.2.1 ∧ v.2.2.1 < (l.length : Int) + 1 <;> simp [h1, h2, h3]
  · by_cases h4 : v.1 = 2
    · by_cases h2 : 0 ≤ v.2.1 ∧ v.2.1 < a0 <;> by_cases h3 : 0 ≤ v.2.2.1 ∧ v.2.2.1 < (l.length : Int) + 1 <;> by_cases h5 : 0 ≤ v.2.2.2 ∧ v.2.2.2 < (l.length : Int) + 1 <;> simp [h2, h3, h4, h5]
    · simp [h1, h4, bne_dec]
theorem oc_ref (a0 : Int) (l : List (Int × Int × Int × Int)) (h : l.length ≤ 1000000) : ref_OrdersCheck a0 l = some ((l.findSome? (oc a0 (l.length + 1))).getD 0) := by
  unfold ref_OrdersCheck
  rw [forL_find (f := oc a0 (l.length + 1)) (g := Esc.ret) (fun i a _ => oc_ref_body a0 l h i a)]
  cases l.findSome? (oc a0 (l.length + 1)) <;> rfl
theorem oc_ok {a0 : Int} {l : List (Int × Int × Int × Int)} (h : (l.findSome? (oc a0 (l.length + 1))).getD 0 = 0) : ∀ v ∈ l, (v.1 = 1 ∨ v.1 = 2) ∧ (0 ≤ v.2.1 ∧ v.2.1 < a0) ∧ (0 ≤ v.2.2.1 ∧ v.2.2.1 ≤ l.length) ∧ (v.1 = 2 → 0 ≤ v.2.2.2 ∧ v.2.2.2 ≤ l.length) := by
  cases hf : l.findSome? (oc a0 (l.length + 1)) with
  | some e =>
    rw [hf] at h
    obtain ⟨v, _, hv⟩ := List.exists_of_findSome?_eq_some hf
    unfold oc at hv
    have he : e = 0 := h
    subst he
    repeat' split at hv
    all_goals simp at hv
  | none =>
    rw [List.findSome?_eq_none_iff] at hf
    intro v hv
    have := hf v hv
    unfold oc at this
    split at this
    · simp at this
    · split at this
      · simp at this
      · split at this
        · simp at this
        · rename_i h1 h2 h3
          refine ⟨by omega, by omega, by omega, fun h4 => by omega⟩
theorem oc_within (a b c : Int) : ref_Within a b c = some (decide (a ≤ b ∧ b ≤ c)) := by
  unfold ref_Within
  rw [Bool.decide_and]
theorem oc_count_body (a0 : Int) (l : List (Int × Int × Int × Int)) (h : l.length ≤ 12) : count_Check_b13 a0 l = ref_OrdersCheck_b10 a0 l := by
  funext i v x
  have hw : w64 ((l.length : Int) + 1) = (l.length : Int) + 1 := w64_id (by omega) (by omega)
  have ht : ∀ u : Int, count_Check_1 u l = some (decide (0 ≤ u ∧ u < (l.length : Int) + 1)) := by
    intro u
    unfold count_Check_1
    congr 1
    rw [← Bool.decide_and]
    exact decide_eq_decide.2 (by omega)
  unfold count_Check_b13 ref_OrdersCheck_b10 count_Check_g9 ref_OrdersCheck_g7
  rw [hw, oc_inside, oc_inside, oc_inside, ht, ht]
  have e : (bif decide (v.2.1 < (0 : Int)) then (some true) else (some (decide (v.2.1 ≥ a0)))) = some (!decide (0 ≤ v.2.1 ∧ v.2.1 < a0)) := by
    by_cases h1 : v.2.1 < 0
    · simp [h1]
    · by_cases h2 : v.2.1 < a0
      · simp [h1, h2, Int.not_lt.1 h1]
      · simp [h1, h2]; omega
  rw [e]
  rfl
def ocAll (a0 : Int) (l : List (Int × Int × Int × Int)) : Int :=
  if (1 ≤ a0 ∧ a0 ≤ 4) ∧ 1 ≤ (l.length : Int) ∧ (l.length : Int) ≤ 12 then (l.findSome? (oc a0 (l.length + 1))).getD 0 else 1
theorem oc_countcheck (a0 : Int) (l : List (Int × Int × Int × Int)) : ref_CountCheck a0 l = some (ocAll a0 l) := by
  unfold ref_CountCheck ref_CountCheck_g1 ocAll
  rw [oc_within, oc_within]
  by_cases h1 : 1 ≤ a0 ∧ a0 ≤ 4
  · by_cases h2 : 1 ≤ (l.length : Int) ∧ (l.length : Int) ≤ 12
    · rw [oc_ref a0 l (by omega), if_pos ⟨h1, h2⟩, decide_eq_true h1, decide_eq_true h2]; rfl
    · rw [if_neg (fun h => h2 h.2), decide_eq_true h1, decide_eq_false h2]; rfl
  · rw [if_neg (fun h => h1 h.1), decide_eq_false h1]; rfl
theorem oc_check (a0 : Int) (l : List (Int × Int × Int × Int)) : count_Check a0 l = some (ocAll a0 l) := by
  rw [← oc_countcheck]
  unfold count_Check
  by_cases h : (1 ≤ a0 ∧ a0 ≤ 4) ∧ 1 ≤ (l.length : Int) ∧ (l.length : Int) ≤ 12
  · have hb : ((((decide (a0 < (1 : Int))) || (decide (a0 > (4 : Int)))) || (decide ((List.length l : Int) < (1 : Int)))) || (decide ((List.length l : Int) > (12 : Int)))) = false := by
      simp only [Bool.or_eq_false_iff, decide_eq_false_iff_not]; omega
    rw [bif_f hb, oc_count_body a0 l (by omega), oc_countcheck]
    unfold ocAll
    rw [if_pos h, ← oc_ref a0 l (by omega)]
    rfl
  · have hb : ((((decide (a0 < (1 : Int))) || (decide (a0 > (4 : Int)))) || (decide ((List.length l : Int) < (1 : Int)))) || (decide ((List.length l : Int) > (12 : Int)))) = true := by
      simp only [Bool.or_eq_true, decide_eq_true_eq]; omega
    rw [bif_t hb, oc_countcheck]
    unfold ocAll
    rw [if_neg h]
theorem oc_valid {a0 : Int} {l : List (Int × Int × Int × Int)} (h : ocAll a0 l = 0) : ((1 ≤ a0 ∧ a0 ≤ 4) ∧ 1 ≤ (l.length : Int) ∧ (l.length : Int) ≤ 12) ∧
    ∀ v ∈ l, (v.1 = 1 ∨ v.1 = 2) ∧ (0 ≤ v.2.1 ∧ v.2.1 < a0) ∧ (0 ≤ v.2.2.1 ∧ v.2.2.1 ≤ l.length) ∧ (v.1 = 2 → 0 ≤ v.2.2.2 ∧ v.2.2.2 ≤ l.length) := by
  unfold ocAll at h
  split at h
  · rename_i hc
    exact ⟨hc, oc_ok h⟩
  · omega

abbrev Od : Type := Int × Int × Int × Int
def ord4 (a : List Int) (j : Nat) : Od := (a.getD (4 * j) 0, a.getD (4 * j + 1) 0, a.getD (4 * j + 2) 0, a.getD (4 * j + 3) 0)
def bad4 (o : Od) : Bool := o.1 == 1 && o.2.2.2 != 0
def ords (a : List Int) (m : Nat) : List Od := (List.range m).map (ord4 a)
def decd (a : List Int) : List Od × Bool := if a.length % 4 ≠ 0 then ([], false) else if (ords a (a.length / 4)).any bad4 then ([], false) else (ords a (a.length / 4), true)
theorem ords_len (a : List Int) (m : Nat) : (ords a m).length = m := by simp [ords]
theorem ords_succ (a : List Int) (m : Nat) : ords a (m + 1) = ords a m ++ [ord4 a m] := by simp [ords, List.range_succ]
theorem ords_any {a : List Int} {m k : Nat} (h : m ≤ k) (hb : (ords a m).any bad4 = true) : (ords a k).any bad4 = true := by
  simp only [ords, List.any_map, List.any_eq_true, List.mem_range] at hb ⊢
  obtain ⟨x, hx, hy⟩ := hb
  exact ⟨x, by omega, hy⟩
theorem dc_idx {a : List Int} {n : Nat} (h : n < a.length) : idx a (n : Int) = some (a.getD n 0) := by
  rw [idx_nat, List.getD_eq_getElem?_getD, List.getElem?_eq_getElem h]; rfl
theorem dc_idx4 {a : List Int} {j : Nat} (h : 4 * j + 4 ≤ a.length) (hl : a.length ≤ 1048576) : idx a ((4 * j : Nat) : Int) = some (ord4 a j).1 ∧ idx a (w64 (((4 * j : Nat) : Int) + 1)) = some (ord4 a j).2.1 ∧
    idx a (w64 (((4 * j : Nat) : Int) + 2)) = some (ord4 a j).2.2.1 ∧ idx a (w64 (((4 * j : Nat) : Int) + 3)) = some (ord4 a j).2.2.2 := by
  have e : ∀ k : Nat, k ≤ 3 → w64 (((4 * j : Nat) : Int) + k) = ((4 * j + k : Nat) : Int) := fun k hk => by rw [w64_id (by omega) (by omega)]; omega
  refine ⟨dc_idx (by omega), ?_, ?_, ?_⟩
  · have := e 1 (by omega); rw [show ((1 : Int)) = ((1 : Nat) : Int) from rfl, this]; exact dc_idx (by omega)
  · have := e 2 (by omega); rw [show ((2 : Int)) = ((2 : Nat) : Int) from rfl, this]; exact dc_idx (by omega)
  · have := e 3 (by omega); rw [show ((3 : Int)) = ((3 : Nat) : Int) from rfl, this]; exact dc_idx (by omega)
theorem dc_ref_loop (a : List Int) (m : Nat) (hm : a.length = 4 * m) (hl : a.length ≤ 1048576) : ∀ (k j : Nat), j + k = m → (ords a j).any bad4 = false → ∀ fuel, k < fuel →
    iter (ref_Decoded_b4 a) fuel (((4 * j : Nat) : Int), ords a j) = some (if (ords a m).any bad4 then .ret ([], false) else .brk (ords a m))
  | 0, j, hj, hn, fuel + 1, _ => by
    obtain rfl : j = m := by omega
    have hc : decide (((4 * j : Nat) : Int) < (List.length a : Int)) = false := decide_eq_false (by omega)
    simp only [iter, ref_Decoded_b4, hc, cond_false, hn]
    rfl
  | k + 1, j, hj, hn, fuel + 1, hf => by
    have hc : decide (((4 * j : Nat) : Int) < (List.length a : Int)) = true := decide_eq_true (by omega)
    obtain ⟨h0, h1, h2, h3⟩ := dc_idx4 (a := a) (j := j) (by omega) hl
    have hck : ck ((List.length (ords a j) : Int) + 1 ≤ 4294967296) = some () := ck_ok (by rw [ords_len]; omega)
    have hnx : w64 (((4 * j : Nat) : Int) + 4) = ((4 * (j + 1) : Nat) : Int) := by rw [w64_id (by omega) (by omega)]; omega
    have hb : (ords a (j + 1)).any bad4 = bad4 (ord4 a j) := by rw [ords_succ, List.any_append, hn]; simp
    have e1 : ((idx a ((4 * j : Nat) : Int)).bind fun v70 => bif v70 == (1 : Int) then ((idx a (w64 (((4 * j : Nat) : Int) + (3 : Int)))).bind fun v73 => some (v73 != (0 : Int))) else (some false)) = some (bad4 (ord4 a j)) := by
      rw [h0, h3, bind_some', bind_some']
      unfold bad4
      cases ((ord4 a j).1 == 1) <;> rfl
    have hs : ref_Decoded_b4 a (((4 * j : Nat) : Int), ords a j) = some (bif bad4 (ord4 a j) then .done (.ret ([], false)) else .next (((4 * (j + 1) : Nat) : Int), ords a (j + 1))) := by
      unfold ref_Decoded_b4
      dsimp only
      rw [hc, cond_true, e1, bind_some', h0, h1, h2, h3, bind_some', bind_some', bind_some', bind_some', hck, bind_some', hnx, ords_succ]
      cases bad4 (ord4 a j) <;> rfl
    rw [iter, hs]
    cases hbd : bad4 (ord4 a j) with
    | true =>
      rw [hbd] at hb
      rw [cond_true, ords_any (by omega) hb]
      rfl
    | false =>
      rw [hbd] at hb
      rw [cond_false]
      exact dc_ref_loop a m hm hl k (j + 1) (by omega) hb fuel (by omega)
theorem dc_mod (a : List Int) : ((Int.tmod (List.length a : Int) (4 : Int)) != (0 : Int)) = decide (a.length % 4 ≠ 0) := by
  rw [show ((4 : Int)) = ((4 : Nat) : Int) from rfl, ← Int.ofNat_tmod, bne_dec]
  exact decide_eq_decide.2 (by omega)
theorem dc_ref {fuel : Nat} {a : List Int} (hl : a.length ≤ 1048576) (hf : a.length < fuel) : ref_Decoded fuel a = some (decd a) := by
  unfold ref_Decoded decd
  rw [dc_mod]
  by_cases h : a.length % 4 ≠ 0
  · rw [decide_eq_true h, if_pos h, cond_true]
  · have h4 : a.length = 4 * (a.length / 4) := by omega
    rw [decide_eq_false h, if_neg h, cond_false]
    have := dc_ref_loop a _ h4 hl (a.length / 4) 0 (by omega) rfl fuel (by omega)
    simp only [Nat.mul_zero, Int.cast_ofNat_Int] at this
    have e0 : ords a 0 = [] := rfl
    rw [e0] at this
    rw [this, bind_some']
    by_cases hb : (ords a (a.length / 4)).any bad4 = true
    · rw [if_pos hb, if_pos hb]
    · rw [if_neg hb, if_neg hb]
theorem dc_round {a : List Int} {j : Nat} (hj : 4 * j + 4 ≤ a.length) (hl : a.length ≤ 1048576) : code_Orders_r5 (sub a ((4 * j : Nat) : Int) ((4 * (j + 1) : Nat) : Int)) (0, ords a j) = some (bif bad4 (ord4 a j) then .done (3, ords a j) else .next (0, ords a (j + 1))) := by
  have hc : decide (((4 * j : Nat) : Int) < (List.length a : Int)) = true := decide_eq_true (by omega)
  have hs : (List.length (sub a ((4 * j : Nat) : Int) (List.length a : Int)) : Int) = a.length - 4 * j := by
    unfold sub
    simp only [List.length_take, List.length_drop, Int.toNat_natCast]
    omega
  have hm4 : imin 4 (List.length (sub a ((4 * j : Nat) : Int) (List.length a : Int)) : Int) = 4 := by
    rw [hs]; unfold imin; rw [if_neg (by omega)]
  have hnx : w64 (((4 * j : Nat) : Int) + 4) = ((4 * (j + 1) : Nat) : Int) := by rw [w64_id (by omega) (by omega)]; omega
  have c1 : ck (0 ≤ ((4 * j : Nat) : Int) ∧ ((4 * j : Nat) : Int) ≤ (List.length a : Int) ∧ (List.length a : Int) ≤ (List.length a : Int)) = some () := ck_ok (by omega)
  have c2 : ck (0 ≤ ((4 * j : Nat) : Int) ∧ ((4 * j : Nat) : Int) ≤ ((4 * (j + 1) : Nat) : Int) ∧ ((4 * (j + 1) : Nat) : Int) ≤ (List.length a : Int) ∧ ((4 * (j + 1) : Nat) : Int) = ((4 * (j + 1) : Nat) : Int)) = some () := ck_ok (by omega)
  have hg : ∀ r : Nat, r < 4 → idx (sub a ((4 * j : Nat) : Int) ((4 * (j + 1) : Nat) : Int)) (r : Int) = some (a.getD (4 * j + r) 0) := by
    intro r hr
    unfold sub
    rw [idx_nat, Int.toNat_natCast, Int.toNat_natCast, List.getElem?_take, if_pos (by omega), List.getElem?_drop, List.getD_eq_getElem?_getD, List.getElem?_eq_getElem (by omega)]
    rfl
  have h0 : idx (sub a ((4 * j : Nat) : Int) ((4 * (j + 1) : Nat) : Int)) 0 = some (ord4 a j).1 := hg 0 (by omega)
  have h1 : idx (sub a ((4 * j : Nat) : Int) ((4 * (j + 1) : Nat) : Int)) 1 = some (ord4 a j).2.1 := hg 1 (by omega)
  have h2 : idx (sub a ((4 * j : Nat) : Int) ((4 * (j + 1) : Nat) : Int)) 2 = some (ord4 a j).2.2.1 := hg 2 (by omega)
  have h3 : idx (sub a ((4 * j : Nat) : Int) ((4 * (j + 1) : Nat) : Int)) 3 = some (ord4 a j).2.2.2 := hg 3 (by omega)
  have hck : ck ((List.length (ords a j) : Int) + 1 ≤ 4294967296) = some () := ck_ok (by rw [ords_len]; omega)
  have e1 : ((idx (sub a ((4 * j : Nat) : Int) ((4 * (j + 1) : Nat) : Int)) 0).bind fun v70 => bif v70 == (1 : Int) then ((idx (sub a ((4 * j : Nat) : Int) ((4 * (j + 1) : Nat) : Int)) 3).bind fun v73 => some (v73 != (0 : Int))) else (some false)) = some (bad4 (ord4 a j)) := by
    rw [h0, h3, bind_some', bind_some']
    unfold bad4
    cases ((ord4 a j).1 == 1) <;> rfl
  unfold code_Orders_r5
  dsimp only
  rw [e1, bind_some', h0, h1, h2, h3, bind_some', bind_some', bind_some', bind_some', hck, bind_some', ords_succ]
  cases bad4 (ord4 a j) <;> rfl
theorem dc_chunk_step {a : List Int} {j : Nat} (hj : 4 * j + 4 ≤ a.length) (hl : a.length ≤ 1048576) : slices_Chunk_Lintint_1_for_code_Orders_b1 a 4 code_Orders_r5 (((4 * j : Nat) : Int), 0, ords a j) = some (bif bad4 (ord4 a j) then .done (.ret (3, ords a j)) else .next (((4 * (j + 1) : Nat) : Int), 0, ords a (j + 1))) := by
  have hr := dc_round hj hl
  have hc : decide (((4 * j : Nat) : Int) < (List.length a : Int)) = true := decide_eq_true (by omega)
  have hs : (List.length (sub a ((4 * j : Nat) : Int) (List.length a : Int)) : Int) = a.length - 4 * j := by
    unfold sub
    simp only [List.length_take, List.length_drop, Int.toNat_natCast]
    omega
  have hm4 : imin 4 (List.length (sub a ((4 * j : Nat) : Int) (List.length a : Int)) : Int) = 4 := by
    rw [hs]; unfold imin; rw [if_neg (by omega)]
  have hnx : w64 (((4 * j : Nat) : Int) + 4) = ((4 * (j + 1) : Nat) : Int) := by rw [w64_id (by omega) (by omega)]; omega
  have c1 : ck (0 ≤ ((4 * j : Nat) : Int) ∧ ((4 * j : Nat) : Int) ≤ (List.length a : Int) ∧ (List.length a : Int) ≤ (List.length a : Int)) = some () := ck_ok (by omega)
  have c2 : ck (0 ≤ ((4 * j : Nat) : Int) ∧ ((4 * j : Nat) : Int) ≤ ((4 * (j + 1) : Nat) : Int) ∧ ((4 * (j + 1) : Nat) : Int) ≤ (List.length a : Int) ∧ ((4 * (j + 1) : Nat) : Int) = ((4 * (j + 1) : Nat) : Int)) = some () := ck_ok (by omega)
  have hg : ∀ r : Nat, r < 4 → idx (sub a ((4 * j : Nat) : Int) ((4 * (j + 1) : Nat) : Int)) (r : Int) = some (a.getD (4 * j + r) 0) := by
    intro r hr
    unfold sub
    rw [idx_nat, Int.toNat_natCast, Int.toNat_natCast, List.getElem?_take, if_pos (by omega), List.getElem?_drop, List.getD_eq_getElem?_getD, List.getElem?_eq_getElem (by omega)]
    rfl
  have h0 : idx (sub a ((4 * j : Nat) : Int) ((4 * (j + 1) : Nat) : Int)) 0 = some (ord4 a j).1 := hg 0 (by omega)
  have h1 : idx (sub a ((4 * j : Nat) : Int) ((4 * (j + 1) : Nat) : Int)) 1 = some (ord4 a j).2.1 := hg 1 (by omega)
  have h2 : idx (sub a ((4 * j : Nat) : Int) ((4 * (j + 1) : Nat) : Int)) 2 = some (ord4 a j).2.2.1 := hg 2 (by omega)
  have h3 : idx (sub a ((4 * j : Nat) : Int) ((4 * (j + 1) : Nat) : Int)) 3 = some (ord4 a j).2.2.2 := hg 3 (by omega)
  have hck : ck ((List.length (ords a j) : Int) + 1 ≤ 4294967296) = some () := ck_ok (by rw [ords_len]; omega)
  unfold slices_Chunk_Lintint_1_for_code_Orders_b1
  dsimp only
  rw [hc, cond_true, c1, bind_some', hm4, hnx, c2, bind_some', hr, bind_some']
  cases bad4 (ord4 a j) <;> rfl
theorem dc_chunk_loop (a : List Int) (m : Nat) (hm : a.length = 4 * m) (hl : a.length ≤ 1048576) : ∀ (k j : Nat), j + k = m → (ords a j).any bad4 = false → ∀ fuel, k < fuel →
    ∃ z, iter (slices_Chunk_Lintint_1_for_code_Orders_b1 a 4 code_Orders_r5) fuel (((4 * j : Nat) : Int), 0, ords a j) = some (if (ords a m).any bad4 then .ret (3, z) else .brk (0, ords a m))
  | 0, j, hj, hn, fuel + 1, _ => by
    obtain rfl : j = m := by omega
    have hc : decide (((4 * j : Nat) : Int) < (List.length a : Int)) = false := decide_eq_false (by omega)
    refine ⟨[], ?_⟩
    simp only [iter, slices_Chunk_Lintint_1_for_code_Orders_b1, hc, cond_false, hn]
    rfl
  | k + 1, j, hj, hn, fuel + 1, hf => by
    have hb : (ords a (j + 1)).any bad4 = bad4 (ord4 a j) := by rw [ords_succ, List.any_append, hn]; simp
    rw [iter, dc_chunk_step (by omega) hl]
    cases hbd : bad4 (ord4 a j) with
    | true =>
      rw [hbd] at hb
      refine ⟨ords a j, ?_⟩
      rw [cond_true, ords_any (by omega) hb]
      rfl
    | false =>
      rw [hbd] at hb
      rw [cond_false]
      exact dc_chunk_loop a m hm hl k (j + 1) (by omega) hb fuel (by omega)
def dcE (a0 : Int) (a : List Int) : Int := if (decd a).2 then ocAll a0 (decd a).1 else 3
theorem dc_digits {fuel : Nat} {a : List Int} (a0 : Int) (hl : a.length ≤ 1048576) (hf : a.length < fuel) : ref_DigitsCheck fuel a0 a = some (dcE a0 a) := by
  unfold ref_DigitsCheck dcE
  rw [dc_ref hl hf, bind_some', oc_countcheck]
  cases (decd a).2 <;> rfl
theorem dc_orders {fuel : Nat} {a : List Int} (a0 : Int) (hl : a.length ≤ 1048576) (hf : a.length < fuel) : code_Orders fuel a0 a = some (if dcE a0 a = 0 then (decd a).1 else [], dcE a0 a) := by
  unfold code_Orders dcE decd
  rw [dc_mod]
  by_cases h : a.length % 4 ≠ 0
  · rw [decide_eq_true h, if_pos h, cond_true]; rfl
  · have h4 : a.length = 4 * (a.length / 4) := by omega
    rw [decide_eq_false h, if_neg h, cond_false]
    have e1 : slices_Chunk_Lintint a 4 = some (a, 4) := rfl
    obtain ⟨z, hz⟩ := dc_chunk_loop a _ h4 hl (a.length / 4) 0 (by omega) rfl fuel (by omega)
    simp only [Nat.mul_zero, Int.cast_ofNat_Int] at hz
    have e0 : ords a 0 = [] := rfl
    rw [e0] at hz
    rw [e1, bind_some']
    unfold slices_Chunk_Lintint_1_for_code_Orders
    simp only
    rw [hz, bind_some']
    by_cases hb : (ords a (a.length / 4)).any bad4 = true
    · simp only [hb, if_true]
      rfl
    · have hb' : (ords a (a.length / 4)).any bad4 = false := by simpa using hb
      simp only [hb', Bool.false_eq_true, if_false, if_true, bind_some']
      rw [oc_check, bind_some', bne_dec]
      by_cases hz : ocAll a0 (ords a (a.length / 4)) = 0
      · simp [hz]
      · simp [hz]

/-- one order is done -/
def stepO (l : List Od) (s : Int × List Int) : Option (Int × List Int) :=
  (idx l s.1).bind fun o => (idx s.2 o.2.1).bind fun v =>
    some (if o.1 = 1 then (o.2.2.1, s.2.set o.2.1.toNat (v + 1)) else if v > 0 then (o.2.2.1, s.2.set o.2.1.toNat (v - 1)) else (o.2.2.2, s.2))
def goN (l : List Od) : Nat → Int × List Int → Option (Int × List Int)
  | 0, s => some s
  | n + 1, s => (stepO l s).bind (goN l n)
def Bd (b : Int) (c : List Int) : Prop := ∀ x ∈ c, 0 ≤ x ∧ x ≤ b
theorem bd_set {l : List Int} {i : Nat} {v b : Int} (h : Bd b l) (hv : 0 ≤ v ∧ v ≤ b) : Bd b (l.set i v) := by
  intro x hx
  rcases List.mem_or_eq_of_mem_set hx with hx | rfl
  · exact h x hx
  · exact hv
theorem step_bd {l : List Od} {s s' : Int × List Int} {b : Int} (h : stepO l s = some s') (hb : Bd b s.2) : Bd (b + 1) s'.2 ∧ s'.2.length = s.2.length := by
  unfold stepO at h
  obtain ⟨o, ho, h⟩ := bind_of h
  obtain ⟨v, hv, h⟩ := bind_of h
  have hvb := hb v (List.mem_of_getElem? (idx_some hv).2.2)
  have h1 : Bd (b + 1) s.2 := fun x hx => by have := hb x hx; omega
  simp only [Option.some.injEq] at h
  subst h
  split
  · exact ⟨bd_set h1 (by omega), by simp⟩
  · split
    · exact ⟨bd_set h1 (by omega), by simp⟩
    · exact ⟨h1, rfl⟩
/-- what the reference does in one turn -/
theorem ct_body {l : List Od} {T k : Int} {s s' : Int × List Int} {b : Int} (h : stepO l s = some s') (hb : Bd b s.2) (hbb : b ≤ 1000000) (hk : 0 ≤ k ∧ k < T) (hT : T ≤ 1000000) :
    ref_Counted_b1 l T (s.1, k, s.2) = some (.next (s'.1, k + 1, s'.2)) := by
  unfold stepO at h
  obtain ⟨o, ho, h⟩ := bind_of h
  obtain ⟨v, hv, h⟩ := bind_of h
  have hvb := hb v (List.mem_of_getElem? (idx_some hv).2.2)
  obtain ⟨h0, h1, _⟩ := idx_some ho
  have hc : (decide (k < T) && decide (s.1 < (List.length l : Int))) = true := by rw [decide_eq_true hk.2, decide_eq_true h1]; rfl
  have e0 : w64 (k + 1) = k + 1 := w64_id (by omega) (by omega)
  have e1 : w64 (v + 1) = v + 1 := w64_id (by omega) (by omega)
  have e2 : w64 (v - 1) = v - 1 := w64_id (by omega) (by omega)
  simp only [Option.some.injEq] at h
  unfold ref_Counted_b1
  dsimp only
  rw [hc, cond_true, ho, bind_some', e0]
  by_cases h1 : o.1 = 1
  · rw [if_pos h1] at h
    subst h
    rw [h1, show ((1 : Int) == 1) = true from rfl, cond_true, hv, bind_some', e1]
  · rw [if_neg h1] at h
    rw [show (o.1 == 1) = false from by simp [h1], cond_false, hv, bind_some', e2]
    by_cases h2 : v > 0
    · rw [if_pos h2] at h
      subst h
      rw [decide_eq_true h2, cond_true]
    · rw [if_neg h2] at h
      subst h
      rw [decide_eq_false h2, cond_false]
theorem ct_stop {l : List Od} {T k : Int} {a : Int} {c : List Int} (h : ¬ (k < T ∧ a < (l.length : Int))) : ref_Counted_b1 l T (a, k, c) = some (.done (a, k, c)) := by
  have hc : (decide (k < T) && decide (a < (List.length l : Int))) = false := by
    simp only [Bool.and_eq_false_iff, decide_eq_false_iff_not]; omega
  unfold ref_Counted_b1
  dsimp only
  rw [hc, cond_false]
/-- a run that comes to its end is told -/
theorem ct_halt {l : List Od} {T : Int} (hT : T ≤ 1000000) : ∀ (d : Nat) (s s' : Int × List Int) (k b : Int) (fuel : Nat), goN l d s = some s' → (l.length : Int) ≤ s'.1 → 0 ≤ k → k + d ≤ T → Bd b s.2 → b + d ≤ 1000000 → d < fuel →
    iter (ref_Counted_b1 l T) fuel (s.1, k, s.2) = some (s'.1, k + d, s'.2)
  | 0, s, s', k, b, fuel + 1, h, he, h0, hk, hb, hbb, hf => by
    simp only [goN, Option.some.injEq] at h
    subst h
    rw [iter, ct_stop (by omega)]
    simp
  | d + 1, s, s', k, b, fuel + 1, h, he, h0, hk, hb, hbb, hf => by
    rw [goN] at h
    obtain ⟨s1, h1, h⟩ := bind_of h
    rw [iter, ct_body h1 hb (by omega) (by omega) hT]
    have := ct_halt hT d s1 s' (k + 1) (b + 1) fuel h he (by omega) (by omega) (step_bd h1 hb).1 (by omega) (by omega)
    rw [show k + ((d + 1 : Nat) : Int) = k + 1 + (d : Int) from by omega]
    exact this
def Vd (a0 : Int) (l : List Od) : Prop := ∀ v ∈ l, (v.1 = 1 ∨ v.1 = 2) ∧ (0 ≤ v.2.1 ∧ v.2.1 < a0) ∧ (0 ≤ v.2.2.1 ∧ v.2.2.1 ≤ l.length) ∧ (v.1 = 2 → 0 ≤ v.2.2.2 ∧ v.2.2.2 ≤ l.length)
theorem step_ok {a0 : Int} {l : List Od} (hl : Vd a0 l) {s : Int × List Int} (h0 : 0 ≤ s.1) (h1 : s.1 < (l.length : Int)) (hc : (s.2.length : Int) = a0) : ∃ s', stepO l s = some s' ∧ 0 ≤ s'.1 ∧ s'.1 ≤ (l.length : Int) := by
  obtain ⟨o, ho, ho2⟩ := idx_get (xs := l) h0 h1
  obtain ⟨k1, k2, k3, k4⟩ := hl o (List.mem_of_getElem? ho2)
  obtain ⟨v, hv, hv2⟩ := idx_get (xs := s.2) k2.1 (by omega)
  unfold stepO
  rw [ho, bind_some', hv, bind_some']
  refine ⟨_, rfl, ?_⟩
  split
  · exact k3
  · rename_i hn
    split
    · exact k3
    · exact k4 (by omega)
/-- what the reference tells of a run -/
theorem ct_run {a0 : Int} {l : List Od} (hl : Vd a0 l) {T : Int} (hT : T ≤ 1000000) : ∀ (n : Nat) (s : Int × List Int) (k b : Int) (fuel : Nat), 0 ≤ k → k + n = T → 0 ≤ s.1 → s.1 ≤ (l.length : Int) → (s.2.length : Int) = a0 → Bd b s.2 → b + n ≤ 1000000 → n < fuel →
    ∃ (d : Nat) (s' : Int × List Int), d ≤ n ∧ goN l d s = some s' ∧ 0 ≤ s'.1 ∧ s'.1 ≤ (l.length : Int) ∧ (s'.2.length : Int) = a0 ∧ Bd (b + d) s'.2 ∧ iter (ref_Counted_b1 l T) fuel (s.1, k, s.2) = some (s'.1, k + d, s'.2)
  | 0, s, k, b, fuel + 1, h0, hk, ha, hb, hc, hbd, hbb, hf => by
    refine ⟨0, s, Nat.le_refl _, rfl, ha, hb, hc, by simpa using hbd, ?_⟩
    rw [iter, ct_stop (by omega)]
    simp
  | n + 1, s, k, b, fuel + 1, h0, hk, ha, hb, hc, hbd, hbb, hf => by
    by_cases hlt : s.1 < (l.length : Int)
    · obtain ⟨s1, h1, h2, h3⟩ := step_ok hl ha hlt hc
      obtain ⟨q1, q2⟩ := step_bd h1 hbd
      obtain ⟨d, s', g1, g2, g3, g4, g5, g6, g7⟩ := ct_run hl hT n s1 (k + 1) (b + 1) fuel (by omega) (by omega) h2 h3 (by omega) q1 (by omega) (by omega)
      refine ⟨d + 1, s', by omega, by rw [goN, h1]; exact g2, g3, g4, g5, ?_, ?_⟩
      · intro x hx; have := g6 x hx; omega
      · rw [iter, ct_body h1 hbd (by omega) (by omega) hT]
        dsimp only
        rw [g7]
        rw [show k + ((d + 1 : Nat) : Int) = k + 1 + (d : Int) from by omega]
    · refine ⟨0, s, by omega, rfl, ha, hb, hc, by simpa using hbd, ?_⟩
      rw [iter, ct_stop (by omega)]
      simp
theorem goN_add (l : List Od) : ∀ (d e : Nat) (s s1 s2 : Int × List Int), goN l d s = some s1 → goN l e s1 = some s2 → goN l (d + e) s = some s2
  | 0, e, s, s1, s2, h, h2 => by
    simp only [goN, Option.some.injEq] at h; subst h
    rw [Nat.zero_add]; exact h2
  | d + 1, e, s, s1, s2, h, h2 => by
    rw [goN] at h
    obtain ⟨s3, h3, h⟩ := bind_of h
    rw [Nat.succ_add, goN, h3]
    exact goN_add l d e s3 s1 s2 h h2
/-- orders that stand farther on -/
def shf (x : Int) (o : Od) : Od := (o.1, o.2.1, o.2.2.1 + x, if o.1 = 1 then 0 else o.2.2.2 + x)
theorem go_shift {l k : List Od} {x : Nat} (hk : ∀ (i : Nat) (o : Od), l[i]? = some o → k[x + i]? = some (shf x o)) : ∀ (d : Nat) (s s' : Int × List Int), goN l d s = some s' → goN k d (s.1 + x, s.2) = some (s'.1 + x, s'.2)
  | 0, s, s', h => by simp only [goN, Option.some.injEq] at h; subst h; rfl
  | d + 1, s, s', h => by
    rw [goN] at h
    obtain ⟨s1, h1, h⟩ := bind_of h
    have ih := go_shift hk d s1 s' h
    unfold stepO at h1
    obtain ⟨o, ho, h1⟩ := bind_of h1
    obtain ⟨v, hv, h1⟩ := bind_of h1
    obtain ⟨h0, _, ho2⟩ := idx_some ho
    have hko : idx k (s.1 + x) = some (shf x o) := idx_of (by omega) (by
      have := hk _ _ ho2
      rw [show (s.1 + (x : Int)).toNat = x + s.1.toNat from by omega]; exact this)
    rw [goN]
    have : stepO k (s.1 + x, s.2) = some (s1.1 + x, s1.2) := by
      unfold stepO
      dsimp only
      rw [hko, bind_some']
      unfold shf
      dsimp only
      rw [hv, bind_some']
      simp only [Option.some.injEq] at h1
      subst h1
      by_cases e1 : o.1 = 1
      · simp only [if_pos e1]
      · by_cases e2 : v > 0
        · simp only [if_neg e1, if_pos e2]
        · simp only [if_neg e1, if_neg e2]
    rw [this]
    exact ih
/-- orders that other orders follow -/
theorem go_front {l k : List Od} (hk : ∀ (i : Nat) (o : Od), l[i]? = some o → k[i]? = some o) : ∀ (d : Nat) (s s' : Int × List Int), goN l d s = some s' → goN k d s = some s'
  | 0, s, s', h => h
  | d + 1, s, s', h => by
    rw [goN] at h ⊢
    obtain ⟨s1, h1, h⟩ := bind_of h
    have ih := go_front hk d s1 s' h
    unfold stepO at h1
    obtain ⟨o, ho, h1⟩ := bind_of h1
    obtain ⟨h0, _, ho2⟩ := idx_some ho
    have : stepO k s = some s1 := by
      unfold stepO
      rw [idx_of h0 (hk _ _ ho2), bind_some']
      exact h1
    rw [this]
    exact ih
/-! digits -/
def nz (o : Od) : Od := if o.1 = 1 then (o.1, o.2.1, o.2.2.1, 0) else o
def dg : List Od → List Int
  | [] => []
  | o :: l => (nz o).1 :: (nz o).2.1 :: (nz o).2.2.1 :: (nz o).2.2.2 :: dg l
theorem dg_len : ∀ l : List Od, (dg l).length = 4 * l.length
  | [] => rfl
  | o :: l => by simp only [dg, List.length_cons, dg_len l]; omega
theorem dg_append : ∀ l m : List Od, dg (l ++ m) = dg l ++ dg m
  | [], m => rfl
  | o :: l, m => by simp only [List.cons_append, dg, dg_append l m]
theorem dg_ords : ∀ l : List Od, ords (dg l) l.length = l.map nz
  | [] => rfl
  | o :: l => by
    have e : ∀ j, ord4 (dg (o :: l)) (j + 1) = ord4 (dg l) j := by
      intro j
      unfold ord4
      have : ∀ r, (dg (o :: l)).getD (4 * (j + 1) + r) 0 = (dg l).getD (4 * j + r) 0 := by
        intro r
        rw [show 4 * (j + 1) + r = (4 * j + r) + 4 from by omega]
        simp [dg, List.getD_eq_getElem?_getD]
      have h0 := this 0
      simp only [Nat.add_zero] at h0
      rw [h0, this 1, this 2, this 3]
    unfold ords
    rw [List.length_cons, List.range_succ_eq_map, List.map_cons, List.map_map, List.map_cons, ← dg_ords l]
    congr 1
theorem dg_dec (l : List Od) : decd (dg l) = (l.map nz, true) := by
  unfold decd
  rw [if_neg (by rw [dg_len]; omega), show (dg l).length / 4 = l.length from by rw [dg_len]; omega, dg_ords, if_neg]
  simp only [List.any_map, List.any_eq_true, not_exists, not_and]
  intro o _
  unfold bad4 nz
  simp only [Function.comp]
  split
  · simp
  · rename_i h; simp [h]
theorem digits_eq (l : List Od) (hl : l.length ≤ 1000) : code_digits l = some (dg l) := by
  have key : ∀ (r p : List Od) (i : Int), p.length + r.length ≤ 1000 → forL code_digits_b7 (fun x => x) r i (dg p) = some (dg (p ++ r)) := by
    intro r
    induction r with
    | nil => intro p i _; simp [forL]
    | cons o r ih =>
      intro p i h
      simp only [List.length_cons] at h
      have hb : code_digits_b7 i o (dg p) = some (.next (dg (p ++ [o]))) := by
        have hck : ck ((List.length (dg p) : Int) + 4 ≤ 4294967296) = some () := ck_ok (by rw [dg_len]; omega)
        have e : dg (p ++ [o]) = dg p ++ [(nz o).1, (nz o).2.1, (nz o).2.2.1, (nz o).2.2.2] := by rw [dg_append]; rfl
        have e2 : (bif o.1 == (1 : Int) then (some (o.1, o.2.1, o.2.2.1, (0 : Int))) else (some o)) = some (nz o) := by
          unfold nz
          by_cases h1 : o.1 = 1
          · rw [if_pos h1, h1]; rfl
          · rw [if_neg h1, show (o.1 == 1) = false from by simp [h1]]; rfl
        unfold code_digits_b7
        rw [e2, bind_some', hck, bind_some', e]
      rw [forL, hb]
      have := ih (p ++ [o]) (i + 1) (by simp; omega)
      simpa using this
  have := key l [] 0 (by simpa using hl)
  unfold code_digits
  simp only [dg, List.nil_append] at this
  rw [this]; rfl
theorem valid_check {a0 : Int} {k : List Od} (hk : k.length ≤ 1000) (hv : Vd a0 k) : ref_OrdersCheck a0 k = some 0 := by
  rw [oc_ref a0 k (by omega)]
  have : k.findSome? (oc a0 (k.length + 1)) = none := by
    rw [List.findSome?_eq_none_iff]
    intro v h
    obtain ⟨k1, k2, k3, k4⟩ := hv v h
    unfold oc
    rw [if_neg (by omega), if_neg (by omega), if_neg ?_]
    rintro (h | ⟨h, h2⟩)
    · omega
    · have := k4 h; omega
  rw [this]; rfl
/-- the orders moved on -/
theorem moved_eq (l : List Od) (x : Nat) (hl : l.length ≤ 1000) (hx : x ≤ 1000) (hb : ∀ o ∈ l, 0 ≤ o.2.2.1 ∧ o.2.2.1 ≤ 1000 ∧ 0 ≤ o.2.2.2 ∧ o.2.2.2 ≤ 1000) : code_moved l x = some (l.map fun o => (o.1, o.2.1, o.2.2.1 + (x : Int), o.2.2.2 + (x : Int))) := by
  have hck : ck ((0 : Int) + (List.length l : Int) ≤ 4294967296) = some () := ck_ok (by omega)
  have e1 : slices_Clone_LapiOrderapiOrder l = some l := by unfold slices_Clone_LapiOrderapiOrder; rw [hck]; rfl
  unfold code_moved
  rw [e1, bind_some']
  obtain ⟨y, h1, h2⟩ := forL_inv (body := code_moved_b1 (x : Int)) (fin := fun z => z) (l := l) (x := l) (fun n z => z = (l.take n).map (fun o => (o.1, o.2.1, o.2.2.1 + (x : Int), o.2.2.2 + (x : Int))) ++ l.drop n) (fun y => y = l.map (fun o => (o.1, o.2.1, o.2.2.1 + (x : Int), o.2.2.2 + (x : Int)))) (by simp)
    (by
      rintro n o z ho rfl
      have hn := (List.getElem?_eq_some_iff.1 ho).1
      have hob := hb o (List.mem_of_getElem? ho)
      generalize hf : (fun o : Od => (o.1, o.2.1, o.2.2.1 + (x : Int), o.2.2.2 + (x : Int))) = f
      have hfo : f o = (o.1, o.2.1, o.2.2.1 + (x : Int), o.2.2.2 + (x : Int)) := by rw [← hf]
      have hlen : ((l.take n).map f).length = n := by simp; omega
      have hget : ((l.take n).map f ++ l.drop n)[n]? = some o := by
        rw [List.getElem?_append_right (by omega), hlen, Nat.sub_self, List.getElem?_drop, Nat.add_zero]; exact ho
      have hlt : n < ((l.take n).map f ++ l.drop n).length := (List.getElem?_eq_some_iff.1 hget).1
      have hset : ∀ q, ((l.take n).map f ++ l.drop n).set n q = (l.take n).map f ++ q :: l.drop (n + 1) := by
        intro q
        rw [List.set_append_right _ _ (by omega), hlen, Nat.sub_self]
        rw [← List.getElem_cons_drop hn, List.set_cons_zero]
      unfold code_moved_b1
      rw [idx_nat, hget, bind_some', Int.toNat_natCast, idx_nat, List.getElem?_set_self hlt, bind_some']
      dsimp only
      rw [w64_id (by omega) (by omega), w64_id (by omega) (by omega), List.set_set, hset]
      refine ⟨_, rfl, ?_⟩
      dsimp only
      rw [List.take_add_one, ho, List.map_append, List.append_assoc]
      congr 1
      show _ = [f o] ++ _
      rw [hfo]; rfl) (by rintro z rfl; simp)
  rw [h1, h2]; rfl
theorem have_zero (a0 : Int) (a3 : List Int) : ∃ e, ref_HaveCheck a0 a3 0 = some e ∧ (e = 0 → (a3.length : Int) = a0 ∧ Bd 20 a3) := by
  unfold ref_HaveCheck
  by_cases hlen : (a3.length : Int) = a0
  · rw [show ((a3.length : Int) != a0) = false from by simp [hlen], cond_false]
    have hb : forL ref_HaveCheck_b1 (fun _ => (Esc.brk () : Esc Int Unit)) a3 0 () = some (bif a3.any (fun v => decide (v < 0) || decide (v > 20)) then .ret 4 else .brk ()) := by
      refine forL_ex (fun i a _ => ?_)
      unfold ref_HaveCheck_b1
      rw [oc_within]
      by_cases h : 0 ≤ a ∧ a ≤ 20
      · have : (decide (a < 0) || decide (a > 20)) = false := by simp only [Bool.or_eq_false_iff, decide_eq_false_iff_not]; omega
        simp [this, h]
      · have : (decide (a < 0) || decide (a > 20)) = true := by simp only [Bool.or_eq_true, decide_eq_true_eq]; omega
        simp [this, h]
    rw [hb, bind_some']
    cases ha : a3.any (fun v => decide (v < 0) || decide (v > 20)) with
    | true => exact ⟨4, rfl, fun h => by cases h⟩
    | false =>
      refine ⟨0, by rw [oc_within]; rfl, fun _ => ⟨hlen, fun x hx => ?_⟩⟩
      have := (List.any_eq_false.1 ha) x hx
      simp only [Bool.or_eq_true, decide_eq_true_eq] at this
      omega
  · rw [show ((a3.length : Int) != a0) = true from by simp [hlen], cond_true]
    exact ⟨3, rfl, fun h => by cases h⟩
theorem dc_valid {a0 : Int} {a : List Int} (h : dcE a0 a = 0) : ((1 ≤ a0 ∧ a0 ≤ 4) ∧ 1 ≤ (decd a).1.length ∧ (decd a).1.length ≤ 12) ∧ Vd a0 (decd a).1 ∧ ∀ o ∈ (decd a).1, nz o = o := by
  unfold dcE at h
  split at h
  · rename_i h2
    obtain ⟨⟨h3, h4⟩, h5⟩ := oc_valid h
    refine ⟨⟨h3, by omega⟩, h5, fun o ho => ?_⟩
    unfold decd at h2 ho
    split at h2
    · cases h2
    · rename_i hm
      split at h2
      · cases h2
      · rename_i hb
        rw [if_neg hm, if_neg hb] at ho
        have hb' : (ords a (a.length / 4)).any bad4 = false := by simpa using hb
        have := (List.any_eq_false.1 hb') o ho
        unfold nz
        split
        · rename_i h1
          unfold bad4 at this
          rw [h1] at this
          have hz : o.2.2.2 = 0 := by simpa using this
          rw [← hz]
        · rfl
  · cases h
theorem vd_bounds {a0 : Int} {l : List Od} (hl : Vd a0 l) (hlen : l.length ≤ 12) (hn : ∀ o ∈ l, nz o = o) : ∀ o ∈ l, 0 ≤ o.2.2.1 ∧ o.2.2.1 ≤ 1000 ∧ 0 ≤ o.2.2.2 ∧ o.2.2.2 ≤ 1000 := by
  intro o ho
  obtain ⟨k1, k2, k3, k4⟩ := hl o ho
  have hz := hn o ho
  rcases k1 with k1 | k1
  · have : o.2.2.2 = 0 := by
      unfold nz at hz
      rw [if_pos k1] at hz
      have h2 := congrArg (fun q : Od => q.2.2.2) hz
      exact h2.symm
    omega
  · have := k4 k1; omega
theorem nz_shift (o : Od) (x : Int) : nz (o.1, o.2.1, o.2.2.1 + x, o.2.2.2 + x) = shf x o := by
  unfold nz shf
  dsimp only
  split <;> rfl
theorem vd_shift {a0 : Int} {l k : List Od} {x : Nat} (hl : Vd a0 l) (hk : k.length = x + l.length) : ∀ o ∈ l, ((shf x o).1 = 1 ∨ (shf x o).1 = 2) ∧ (0 ≤ (shf x o).2.1 ∧ (shf x o).2.1 < a0) ∧ (0 ≤ (shf x o).2.2.1 ∧ (shf x o).2.2.1 ≤ k.length) ∧ ((shf x o).1 = 2 → 0 ≤ (shf x o).2.2.2 ∧ (shf x o).2.2.2 ≤ k.length) := by
  intro o ho
  obtain ⟨k1, k2, k3, k4⟩ := hl o ho
  unfold shf
  refine ⟨k1, k2, by dsimp only; omega, fun h => ?_⟩
  have h : o.1 = 2 := h
  have := k4 h
  dsimp only
  rw [if_neg (by omega)]
  omega
theorem counted_eq {l : List Od} {c : List Int} {T : Int} {fuel : Nat} {r : Int × Int × List Int} (hc : c.length ≤ 1000000) (h : iter (ref_Counted_b1 l T) fuel (0, 0, c) = some r) : ref_Counted fuel l c 0 T = some (r.2.2, r.1, r.2.1) := by
  have hck : ck ((0 : Int) + (List.length c : Int) ≤ 4294967296) = some () := ck_ok (by omega)
  unfold ref_Counted
  rw [hck, bind_some', List.nil_append, h]; rfl

theorem CodeBoths_true (a0 : Int) (a1 a2 a3 : List Int) (f0 : Fits (.int .i64) a0) (f1 : Fits (.slice (.int .i64)) a1) (f2 : Fits (.slice (.int .i64)) a2) (f3 : Fits (.slice (.int .i64)) a3) (hb1 : a1.length ≤ 1048576) (hb2 : a2.length ≤ 1048576) (hb3 : a3.length ≤ 1048576) :
    ∃ fuel, law_CodeBoths fuel a0 a1 a2 a3 = some true := by
  refine ⟨a1.length + a2.length + 1000, ?_⟩
  generalize hfu : a1.length + a2.length + 1000 = fuel
  unfold law_CodeBoths
  have hD1 := dc_digits (fuel := fuel) a0 hb1 (by omega)
  have hD2 := dc_digits (fuel := fuel) a0 hb2 (by omega)
  by_cases hE : dcE a0 a1 = 0
  · have hO1 : code_Orders fuel a0 a1 = some ((decd a1).1, 0) := by rw [dc_orders a0 hb1 (by omega), hE, if_pos rfl]
    rw [hE] at hD1
    by_cases hE2 : dcE a0 a2 = 0
    · have hO2 : code_Orders fuel a0 a2 = some ((decd a2).1, 0) := by rw [dc_orders a0 hb2 (by omega), hE2, if_pos rfl]
      rw [hE2] at hD2
      obtain ⟨⟨hA, hB⟩, hV, hN⟩ := dc_valid hE
      obtain ⟨⟨hA2, hB2⟩, hV2, hN2⟩ := dc_valid hE2
      have hR1 := dc_ref (fuel := fuel) hb1 (by omega)
      have hR2 := dc_ref (fuel := fuel) hb2 (by omega)
      have hG : code_Both fuel a0 a1 a2 = some (dg ((decd a1).1 ++ (decd a2).1.map fun o => (o.1, o.2.1, o.2.2.1 + ((decd a1).1.length : Int), o.2.2.2 + ((decd a1).1.length : Int))), 0) := by
        have hmv := moved_eq (decd a2).1 (decd a1).1.length (by omega) (by omega) (vd_bounds hV2 (by omega) hN2)
        have hck0 : ck ((0 : Int) + (List.length (decd a1).1 : Int) ≤ 4294967296) = some () := ck_ok (by omega)
        have e1 : slices_Clone_LapiOrderapiOrder (decd a1).1 = some (decd a1).1 := by unfold slices_Clone_LapiOrderapiOrder; rw [hck0]; rfl
        have hck : ck ((List.length (decd a1).1 : Int) + (List.length ((decd a2).1.map fun o => (o.1, o.2.1, o.2.2.1 + ((decd a1).1.length : Int), o.2.2.2 + ((decd a1).1.length : Int))) : Int) ≤ 4294967296) = some () := ck_ok (by rw [List.length_map]; omega)
        unfold code_Both
        rw [hO1, bind_some', show ((0 : Int) != 0) = false from rfl, cond_false, hO2, bind_some', show ((0 : Int) != 0) = false from rfl, cond_false, e1, bind_some', hmv, bind_some', hck, bind_some', digits_eq _ (by rw [List.length_append, List.length_map]; omega), bind_some']
      rw [hG, bind_some', hD1, bind_some', show ((0 : Int) == 0) = true from rfl, cond_true, hD2, bind_some', bind_some', show ((0 : Int) != 0) = false from rfl, cond_false, hR1, bind_some', hR2, bind_some']
      generalize (decd a1).1 = L at *
      generalize (decd a2).1 = M at *
      dsimp only
      rw [dc_ref (by rw [dg_len, List.length_append, List.length_map]; omega) (by rw [dg_len, List.length_append, List.length_map]; omega), bind_some', dg_dec]
      have hK : (L ++ M.map fun o => (o.1, o.2.1, o.2.2.1 + (L.length : Int), o.2.2.2 + (L.length : Int))).map nz = L ++ M.map (shf L.length) := by
        rw [List.map_append, List.map_map]
        congr 1
        · conv => rhs; rw [← List.map_id L]
          exact List.map_congr_left fun o ho => hN o ho
        · exact List.map_congr_left fun o _ => nz_shift o _
      rw [hK]
      generalize hKd : L ++ M.map (shf L.length) = K
      have hKl : K.length = L.length + M.length := by rw [← hKd]; simp
      have hK1 : ∀ (i : Nat) (o : Od), L[i]? = some o → K[i]? = some o := by
        intro i o ho
        rw [← hKd, List.getElem?_append_left (List.getElem?_eq_some_iff.1 ho).1]
        exact ho
      have hK2 : ∀ (i : Nat) (o : Od), M[i]? = some o → K[L.length + i]? = some (shf L.length o) := by
        intro i o ho
        rw [← hKd, List.getElem?_append_right (by omega), Nat.add_sub_cancel_left, List.getElem?_map, ho]; rfl
      have hKV : Vd a0 K := by
        intro v hv
        rw [← hKd] at hv
        rcases List.mem_append.1 hv with hv | hv
        · obtain ⟨k1, k2, k3, k4⟩ := hV v hv
          exact ⟨k1, k2, by omega, fun h => by have := k4 h; omega⟩
        · obtain ⟨o, ho, rfl⟩ := List.mem_map.1 hv
          exact vd_shift hV2 hKl o ho
      have g1 : law_CodeBoths_g1 a0 (dg (L ++ M.map fun o => (o.1, o.2.1, o.2.2.1 + (L.length : Int), o.2.2.2 + (L.length : Int))), 0) (K, true) = some false := by
        unfold law_CodeBoths_g1
        dsimp only
        rw [show (((0 : Int) != 0) || !true) = false from rfl, show ((List.length K : Int) == 0) = false from by rw [beq_dec]; exact decide_eq_false (by omega), Bool.or_false, cond_false, valid_check (by omega) hKV]
        rfl
      rw [g1, bind_some', cond_false]
      obtain ⟨e, he, he0⟩ := have_zero a0 a3
      rw [he, bind_some']
      by_cases hz : e = 0
      · subst hz
        obtain ⟨hal, hbd⟩ := he0 rfl
        rw [show ((0 : Int) != 0) = false from rfl, cond_false]
        obtain ⟨d, s, d1, d2, d3, d4, d5, d6, d7⟩ := ct_run hV (T := 400) (by omega) 400 (0, a3) 0 20 fuel (by omega) (by omega) (by omega) (by simp only; omega) hal hbd (by omega) (by omega)
        rw [counted_eq (by show a3.length ≤ _; omega) d7, bind_some']
        dsimp only
        by_cases hat : s.1 < (L.length : Int)
        · rw [decide_eq_true hat, cond_true]
        · rw [decide_eq_false hat, cond_false]
          obtain ⟨d', s', q1, q2, q3, q4, q5, q6, q7⟩ := ct_run hV2 (T := 400) (by omega) 400 (0, s.2) 0 (20 + d) fuel (by omega) (by omega) (by omega) (by simp only; omega) d5 d6 (by omega) (by omega)
          rw [counted_eq (by show s.2.length ≤ _; omega) q7, bind_some']
          dsimp only
          by_cases hat2 : s'.1 < (M.length : Int)
          · rw [decide_eq_true hat2, cond_true]
          · rw [decide_eq_false hat2, cond_false]
            have r1 := go_front hK1 d (0, a3) s d2
            have r2 := go_shift hK2 d' (0, s.2) s' q2
            have hs1 : s = ((0 : Int) + (L.length : Int), s.2) := by
              have : s.1 = 0 + (L.length : Int) := by omega
              rw [← this]
            dsimp only at r2
            rw [← hs1] at r2
            have r3 := goN_add K d d' _ _ _ r1 r2
            have r4 := ct_halt (T := 20000) (by omega) (d + d') (0, a3) (s'.1 + L.length, s'.2) 0 20 fuel r3 (by simp only; omega) (by omega) (by omega) hbd (by omega) (by omega)
            rw [counted_eq (by show a3.length ≤ _; omega) r4, bind_some']
            dsimp only
            rw [decide_eq_true (by omega), cond_true, ref_Ints_eq, bind_some', bind_some']
            simp
      · rw [show (e != 0) = true from by simp [hz], cond_true]
    · have hO2 : code_Orders fuel a0 a2 = some ([], dcE a0 a2) := by rw [dc_orders a0 hb2 (by omega), if_neg hE2]
      have hne : (dcE a0 a2 != 0) = true := by simp [hE2]
      have hG : code_Both fuel a0 a1 a2 = some ([], dcE a0 a2) := by
        unfold code_Both
        rw [hO1, bind_some', show ((0 : Int) != 0) = false from rfl, cond_false, hO2, bind_some', hne, cond_true]
      rw [hG, bind_some', hD1, bind_some', show ((0 : Int) == 0) = true from rfl, cond_true, hD2, bind_some', bind_some', hne, cond_true]
      simp
  · have hO : code_Orders fuel a0 a1 = some ([], dcE a0 a1) := by rw [dc_orders a0 hb1 (by omega), if_neg hE]
    have hne : (dcE a0 a1 != 0) = true := by simp [hE]
    have hG : code_Both fuel a0 a1 a2 = some ([], dcE a0 a1) := by
      unfold code_Both
      rw [hO, bind_some', hne, cond_true]
    rw [hG, bind_some', hD1, bind_some', show (dcE a0 a1 == 0) = false from by simp [hE], cond_false, bind_some', hne, cond_true]
    simp

end Go.Proofs.Ytbjfglckfknheaa.codeBoths
namespace Go.Proofs.Ytbjfglckfknheaa.codeBoths
open Go.ChangeShapes Go.WideShapes Go.ChangeAt Go.RowKit
open Go.ChangeMaps (open_string shut_string)
theorem own : ownKnob Try.prog.godebug = none := by kernel_rfl
theorem laidOut : laidOutB Try.prog = true := by kernel_rfl
theorem bulk_pos {H : Type} (d : DataW H) : 1 ≤ Rows.uptoBulk d := by
  cases d with
  | lit l => cases l <;> simp [Rows.uptoBulk]
  | _ => simp [Rows.uptoBulk]
theorem bulk_len {H : Type} : ∀ l : List (DataW H), l.length ≤ Rows.uptoBulkAll l
  | [] => by simp [Rows.uptoBulkAll]
  | d :: l => by
    have := bulk_pos d
    have := bulk_len l
    simp only [Rows.uptoBulkAll, List.length_cons]; omega
section
open Go.Sl
/-- a slice that is read is no longer than its bulk -/
theorem bulk_slice {H : Type} {enc : TypeId × Value → H} {P : Program} {w : World} {spare : Nat → Bool} {held : Bool} {t e : TypeId} {u : Ty} {v : Value} {d : DataW H} {ps : List MemPlace} {xs : List u.den}
    (ht : P.underlying t = some (.slice e)) (h : DataW.Trod enc P w 0 spare held t v d ps) (hr : ∀ ρ tm, VRel (heapOf w) ρ tm (aD (.slice u) xs) v) : xs.length ≤ Rows.uptoBulk d := by
  have hv : RepV (heapOf w) (.slice u) xs v := hr (fun _ => undef) #[]
  obtain ⟨ad, cap, rfl, _, _, hrest⟩ := sl_form (repV_slice.1 hv)
  obtain ⟨fuel, hx⟩ := h
  rcases DataW.trod_slice ht hx with ⟨hcs, _⟩ | ⟨a, len, cap', elems, rest, n, _, hcs, hd, _, _, _, hel, _, _, _⟩
  · simp [Value.cells] at hcs
    omega
  · simp [Value.cells] at hcs
    simp only [Prod.mk.injEq] at hd
    obtain ⟨rfl, _⟩ := hd
    have := bulk_len (elems.map (·.1))
    simp only [Rows.uptoBulk]
    rw [List.length_map] at this
    omega
end
theorem contract (H : Type) (enc : TypeId × Value → H) (W : World) (base : Nat) (args : Array Value) (ds gs : List (DataW H)) (before : List MemPlace)
    (hval0 : ∀ (j : Nat) t v, Try.f6.params[j]? = some t → args[j]? = some v → Value.okWide Try.prog W .any base t v)
    (hW : DataW.Whole enc Try.prog Try.f6.params.toList Rows.codeBothsSpec.vars false W args.toList ds gs before) (hk : Rows.uptoSmall H (ds ++ gs) = true) :
    Calls Try.prog 6 args W fun e W' => ∃ v, e = .returned v ∧ Rows.codeBothsSpec.post enc Try.prog Try.f6 false true false false W args v W' := by
  have hval : ∀ (j : Nat) t v, Try.f6.params[j]? = some t → args[j]? = some v → Value.okWide Try.prog W .any base t v := hval0
  have hW' := hW
  obtain ⟨p, q, hA0, hV, rfl, hfz, hnd⟩ := hW
  have hA : DataW.TrodAll enc Try.prog W 0 (fun _ => true) true Try.f6.params.toList args.toList ds p := hA0
  rw [Try.params6] at hA hval
  obtain ⟨v0, vs0, d0, ds0, p0, q0, hargs, rfl, rfl, h0, r0⟩ := trodAll_cons hA
  obtain ⟨v1, vs1, d1, ds1, p1, q1, rfl, rfl, rfl, h1, r1⟩ := trodAll_cons r0
  obtain ⟨v2, vs2, d2, ds2, p2, q2, rfl, rfl, rfl, h2, r2⟩ := trodAll_cons r1
  obtain ⟨v3, vs3, d3, ds3, p3, q3, rfl, rfl, rfl, h3, r3⟩ := trodAll_cons r2
  obtain ⟨rfl, rfl, rfl⟩ := trodAll_nil r3
  obtain rfl : args = #[v0, v1, v2, v3] := by cases args; simp_all
  obtain ⟨rfl, rfl⟩ := trodVars_none hV
  obtain ⟨x0, f0, k0⟩ := Go.Sl.read_arg (u := (.int .i64)) (by kernel_rfl) (by kernel_rfl) (hval 0 3 v0 rfl rfl) h0
  have lt0 : ∀ x ∈ p0, x.block < W.heap.size := by obtain ⟨m, hm⟩ := h0; exact DataW.trod_lt m _ _ _ hm
  obtain ⟨x1, f1, k1⟩ := Go.Sl.read_arg (u := (.slice (.int .i64))) (by kernel_rfl) (by kernel_rfl) (hval 1 22 v1 rfl rfl) h1
  have lt1 : ∀ x ∈ p1, x.block < W.heap.size := by obtain ⟨m, hm⟩ := h1; exact DataW.trod_lt m _ _ _ hm
  obtain ⟨x2, f2, k2⟩ := Go.Sl.read_arg (u := (.slice (.int .i64))) (by kernel_rfl) (by kernel_rfl) (hval 2 22 v2 rfl rfl) h2
  have lt2 : ∀ x ∈ p2, x.block < W.heap.size := by obtain ⟨m, hm⟩ := h2; exact DataW.trod_lt m _ _ _ hm
  obtain ⟨x3, f3, k3⟩ := Go.Sl.read_arg (u := (.slice (.int .i64))) (by kernel_rfl) (by kernel_rfl) (hval 3 22 v3 rfl rfl) h3
  have lt3 : ∀ x ∈ p3, x.block < W.heap.size := by obtain ⟨m, hm⟩ := h3; exact DataW.trod_lt m _ _ _ hm
  clear hA0 hval0
  have hk' : Rows.uptoBulkAll [d0, d1, d2, d3] ≤ 1048576 := by simpa using of_decide_eq_true hk
  simp only [Rows.uptoBulkAll] at hk'
  have b1 := bulk_slice Try.underlying22 h1 k1
  have b2 := bulk_slice Try.underlying22 h2 k2
  have b3 := bulk_slice Try.underlying22 h3 k3
  obtain ⟨fuel, hm⟩ := CodeBoths_true x0 x1 x2 x3 f0 f1 f2 f3 (by omega) (by omega) (by omega)
  refine (Go.Sl.law_of (vs := [v0, v1, v2, v3]) (law_CodeBoths_ok hm) rfl (.cons (k0 _ _) (.cons (k1 _ _) (.cons (k2 _ _) (.cons (k3 _ _) .nil))))).mono fun e W' ⟨he, bel⟩ => ?_
  subst he
  exact ⟨_, rfl, _, _, _, [], _, [], hW', trodAll_mk1 (shut_bool Try.underlying4 _), (trodAll_cons_mk (Below.trod laidOut (by kernel_rfl) (of_decide_eq_true (by kernel_rfl)) h0 bel lt0) (trodAll_cons_mk (Below.trod laidOut (by kernel_rfl) (of_decide_eq_true (by kernel_rfl)) h1 bel lt1) (trodAll_cons_mk (Below.trod laidOut (by kernel_rfl) (of_decide_eq_true (by kernel_rfl)) h2 bel lt2) (trodAll_cons_mk (Below.trod laidOut (by kernel_rfl) (of_decide_eq_true (by kernel_rfl)) h3 bel lt3) trodAll_mk0)))), rfl, bel.frame _, fun h => by cases h⟩
theorem lifted (os : Os) (started : os.Started) (H : Type) (enc : TypeId × Value → H) (F : Stop.Interp) :
    ReturnsInHanded {} Try.checked os 6 .any ((Rows.OpenSpec.upto Rows.codeBothsSpec).pre6 enc Try.prog Try.f6 Rows.codeBothsUptoRow.domain false) (((Rows.OpenSpec.upto Rows.codeBothsSpec).at F).post enc Try.prog Try.f6 false true false false) := by
  refine returnsInHanded_of_cond (C := Try.checked) (s := Rows.OpenSpec.upto Rows.codeBothsSpec) (k := Rows.uptoSmall) rfl own started (by kernel_rfl) Try.func6
    (OpenSpec.witness (enc := enc) (C := Try.checked) (s := Rows.OpenSpec.upto Rows.codeBothsSpec) (k := Rows.uptoSmall) rfl false ⟨#[], #[.int .i64 0, .slice none 0 0, .slice none 0 0, .slice none 0 0], []⟩ 8 (by kernel_rfl) (by kernel_rfl) (by kernel_rfl)
      (x := ([.lit (.int .i64 0), .nil, .nil, .nil], [], [])) (by kernel_rfl) rfl (by kernel_rfl)) ?_
  intro W base args ds gs before hval hW _ hk _
  exact contract H enc W base args ds gs before hval hW hk
theorem proved : Rows.CodeBothsUptoSaid :=
  OpenClaim.holds_of_cond 6 Try.f6 rfl rfl rfl rfl rfl rfl rfl ⟨rfl, rfl, rfl, rfl, rfl⟩ rfl rfl rfl rfl rfl (by kernel_rfl) Try.func6 (by kernel_rfl)
    (of_decide_eq_true (by kernel_rfl)) (by unfold Func.isWrapper; first | (rw [if_pos (by decide +kernel)]; kernel_rfl) | (rw [if_neg (by decide +kernel)]; exact ⟨rfl, rfl⟩))
    (fun os started H enc _ F => lifted os started H enc F)
#print axioms proved
end Go.Proofs.Ytbjfglckfknheaa.codeBoths
