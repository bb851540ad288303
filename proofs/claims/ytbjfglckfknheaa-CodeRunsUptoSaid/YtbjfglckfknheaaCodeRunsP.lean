/- For any counters, digits, have and turns of bulk at most the given bound code.Run returns the specified results: CodeRuns returns true and changes nothing; condition: the bound. -/
import Derived.JoinedCond
import Derived.Test.YtbjfglckfknheaaRows
import Derived.WalkKit
import Derived.ProofKit
import Derived.OpenShut
import Derived.ShutString
import Derived.ChangeOld
import Derived.Below
import Derived.Test.YtbjfglckfknheaaCodeRunsM
set_option linter.all false
set_option maxRecDepth 100000
namespace Go.Proofs.Ytbjfglckfknheaa.codeRuns
open Go Go.Sl

--#upto
theorem ref_Ints_eq (a b : List Int) : ref_Ints a b = some (decide (a = b)) := by
  unfold ref_Ints
  rw [len_ne]
  by_cases h : a.length = b.length
  · rw [forL_eqs (q := b) (fun n a c hc => by
      unfold ref_Ints_b1
      rw [idx_nat, hc]
      by_cases h : a = c <;> simp [h, bne_dec]) h]
    by_cases h2 : a = b <;> simp [h2, h]
  · have : ¬ a = b := fun e => h (by rw [e])
    simp [h, this]

def oc (a0 n : Int) (v : Int × Int × Int × Int) : Option Int :=
  if v.1 ≠ 1 ∧ v.1 ≠ 2 then some 6 else if ¬ (0 ≤ v.2.1 ∧ v.2.1 < a0) then some 2
  else if ¬ (0 ≤ v.2.2.1 ∧ v.2.2.1 < n) ∨ v.1 = 2 ∧ ¬ (0 ≤ v.2.2.2 ∧ v.2.2.2 < n) then some 3 else none
theorem oc_inside (n v : Int) : ref_Inside n [v] = some (decide (0 ≤ v ∧ v < n)) := by
  unfold ref_Inside
  rw [forL_ex (p := fun v => decide (v < 0) || decide (v ≥ n)) (y := Esc.ret false) (fun i a _ => by unfold ref_Inside_b1; cases (decide (a < 0) || decide (a ≥ n)) <;> rfl)]
  by_cases h : 0 ≤ v ∧ v < n
  · have : (decide (v < 0) || decide (v ≥ n)) = false := by simp only [Bool.or_eq_false_iff, decide_eq_false_iff_not]; omega
    simp [this, h]
  · have : (decide (v < 0) || decide (v ≥ n)) = true := by simp only [Bool.or_eq_true, decide_eq_true_eq]; omega
    simp [this, h]
theorem oc_ref_body (a0 : Int) (l : List (Int × Int × Int × Int)) (h : l.length ≤ 1000000) (i : Int) (v : Int × Int × Int × Int) :
    ref_OrdersCheck_b10 a0 l i v () = some (said Esc.ret (oc a0 (l.length + 1) v)) := by
  have hw : w64 ((l.length : Int) + 1) = (l.length : Int) + 1 := w64_id (by omega) (by omega)
  unfold ref_OrdersCheck_b10 ref_OrdersCheck_g7 oc said
  rw [hw, oc_inside, oc_inside, oc_inside]
  by_cases h1 : v.1 = 1
  · by_cases h2 : 0 ≤ v.2.1 ∧ v.2.1 < a0 <;> by_cases h3 : 0 ≤ v.2.2.1 ∧ v.2.2.1 < (l.length : Int) + 1 <;> simp [h1, h2, h3]
  · by_cases h4 : v.1 = 2
    · by_cases h2 : 0 ≤ v.2.1 ∧ v.2.1 < a0 <;> by_cases h3 : 0 ≤ v.2.2.1 ∧ v.2.2.1 < (l.length : Int) + 1 <;> by_cases h5 : 0 ≤ v.2.2.2 ∧ v.2.2.2 < (l.length : Int) + 1 <;> simp [h2, h3, h4, h5]
    · simp [h1, h4, bne_dec]
theorem oc_ref (a0 : Int) (l : List (Int × Int × Int × Int)) (h : l.length ≤ 1000000) : ref_OrdersCheck a0 l = some ((l.findSome? (oc a0 (l.length + 1))).getD 0) := by
  unfold ref_OrdersCheck
  rw [forL_find (f := oc a0 (l.length + 1)) (g := Esc.ret) (fun i a _ => oc_ref_body a0 l h i a)]
  cases l.findSome? (oc a0 (l.length + 1)) <;> rfl
theorem oc_ok {a0 : Int} {l : List (Int × Int × Int × Int)} (h : (l.findSome? (oc a0 (l.length + 1))).getD 0 = 0) : ∀ v ∈ l, (v.1 = 1 ∨ v.1 = 2) ∧ (0 ≤ v.2.1 ∧ v.2.1 < a0) ∧ (0 ≤ v.2.2.1 ∧ v.2.2.1 ≤ l.length) ∧ (v.1 = 2 → 0 ≤ v.2.2.2 ∧ v.2.2.2 ≤ l.length) := by
  cases hf : l.findSome? (oc a0 (l.length + 1)) with
  | some e =>
    rw [hf] at h
    obtain ⟨v, _, hv⟩ := List.exists_of_findSome?_eq_some hf
    unfold oc at hv
    have he : e = 0 := h
    subst he
    repeat' split at hv
    all_goals simp at hv
  | none =>
    rw [List.findSome?_eq_none_iff] at hf
    intro v hv
    have := hf v hv
    unfold oc at this
    split at this
    · simp at this
    · split at this
      · simp at this
      · split at this
        · simp at this
        · rename_i h1 h2 h3
          refine ⟨by omega, by omega, by omega, fun h4 => by omega⟩
theorem oc_within (a b c : Int) : ref_Within a b c = some (decide (a ≤ b ∧ b ≤ c)) := by
  unfold ref_Within
  rw [Bool.decide_and]
theorem oc_count_body (a0 : Int) (l : List (Int × Int × Int × Int)) (h : l.length ≤ 12) : count_Check_b13 a0 l = ref_OrdersCheck_b10 a0 l := by
  funext i v x
  have hw : w64 ((l.length : Int) + 1) = (l.length : Int) + 1 := w64_id (by omega) (by omega)
  have ht : ∀ u : Int, count_Check_1 u l = some (decide (0 ≤ u ∧ u < (l.length : Int) + 1)) := by
    intro u
    unfold count_Check_1
    congr 1
    rw [← Bool.decide_and]
    exact decide_eq_decide.2 (by omega)
  unfold count_Check_b13 ref_OrdersCheck_b10 count_Check_g9 ref_OrdersCheck_g7
  rw [hw, oc_inside, oc_inside, oc_inside, ht, ht]
  have e : (bif decide (v.2.1 < (0 : Int)) then (some true) else (some (decide (v.2.1 ≥ a0)))) = some (!decide (0 ≤ v.2.1 ∧ v.2.1 < a0)) := by
    by_cases h1 : v.2.1 < 0
    · simp [h1]
    · by_cases h2 : v.2.1 < a0
      · simp [h1, h2, Int.not_lt.1 h1]
      · simp [h1, h2]; omega
  rw [e]
  rfl
def ocAll (a0 : Int) (l : List (Int × Int × Int × Int)) : Int :=
  if (1 ≤ a0 ∧ a0 ≤ 4) ∧ 1 ≤ (l.length : Int) ∧ (l.length : Int) ≤ 12 then (l.findSome? (oc a0 (l.length + 1))).getD 0 else 1
theorem oc_countcheck (a0 : Int) (l : List (Int × Int × Int × Int)) : ref_CountCheck a0 l = some (ocAll a0 l) := by
  unfold ref_CountCheck ref_CountCheck_g1 ocAll
  rw [oc_within, oc_within]
  by_cases h1 : 1 ≤ a0 ∧ a0 ≤ 4
  · by_cases h2 : 1 ≤ (l.length : Int) ∧ (l.length : Int) ≤ 12
    · rw [oc_ref a0 l (by omega), if_pos ⟨h1, h2⟩, decide_eq_true h1, decide_eq_true h2]; rfl
    · rw [if_neg (fun h => h2 h.2), decide_eq_true h1, decide_eq_false h2]; rfl
  · rw [if_neg (fun h => h1 h.1), decide_eq_false h1]; rfl
theorem oc_check (a0 : Int) (l : List (Int × Int × Int × Int)) : count_Check a0 l = some (ocAll a0 l) := by
  rw [← oc_countcheck]
  unfold count_Check
  by_cases h : (1 ≤ a0 ∧ a0 ≤ 4) ∧ 1 ≤ (l.length : Int) ∧ (l.length : Int) ≤ 12
  · have hb : ((((decide (a0 < (1 : Int))) || (decide (a0 > (4 : Int)))) || (decide ((List.length l : Int) < (1 : Int)))) || (decide ((List.length l : Int) > (12 : Int)))) = false := by
      simp only [Bool.or_eq_false_iff, decide_eq_false_iff_not]; omega
    rw [bif_f hb, oc_count_body a0 l (by omega), oc_countcheck]
    unfold ocAll
    rw [if_pos h, ← oc_ref a0 l (by omega)]
    rfl
  · have hb : ((((decide (a0 < (1 : Int))) || (decide (a0 > (4 : Int)))) || (decide ((List.length l : Int) < (1 : Int)))) || (decide ((List.length l : Int) > (12 : Int)))) = true := by
      simp only [Bool.or_eq_true, decide_eq_true_eq]; omega
    rw [bif_t hb, oc_countcheck]
    unfold ocAll
    rw [if_neg h]
theorem oc_valid {a0 : Int} {l : List (Int × Int × Int × Int)} (h : ocAll a0 l = 0) : ((1 ≤ a0 ∧ a0 ≤ 4) ∧ 1 ≤ (l.length : Int) ∧ (l.length : Int) ≤ 12) ∧
    ∀ v ∈ l, (v.1 = 1 ∨ v.1 = 2) ∧ (0 ≤ v.2.1 ∧ v.2.1 < a0) ∧ (0 ≤ v.2.2.1 ∧ v.2.2.1 ≤ l.length) ∧ (v.1 = 2 → 0 ≤ v.2.2.2 ∧ v.2.2.2 ≤ l.length) := by
  unfold ocAll at h
  split at h
  · rename_i hc
    exact ⟨hc, oc_ok h⟩
  · omega

abbrev Od : Type := Int × Int × Int × Int
def ord4 (a : List Int) (j : Nat) : Od := (a.getD (4 * j) 0, a.getD (4 * j + 1) 0, a.getD (4 * j + 2) 0, a.getD (4 * j + 3) 0)
def bad4 (o : Od) : Bool := o.1 == 1 && o.2.2.2 != 0
def ords (a : List Int) (m : Nat) : List Od := (List.range m).map (ord4 a)
def decd (a : List Int) : List Od × Bool := if a.length % 4 ≠ 0 then ([], false) else if (ords a (a.length / 4)).any bad4 then ([], false) else (ords a (a.length / 4), true)
theorem ords_len (a : List Int) (m : Nat) : (ords a m).length = m := by simp [ords]
theorem ords_succ (a : List Int) (m : Nat) : ords a (m + 1) = ords a m ++ [ord4 a m] := by simp [ords, List.range_succ]
theorem ords_any {a : List Int} {m k : Nat} (h : m ≤ k) (hb : (ords a m).any bad4 = true) : (ords a k).any bad4 = true := by
  simp only [ords, List.any_map, List.any_eq_true, List.mem_range] at hb ⊢
  obtain ⟨x, hx, hy⟩ := hb
  exact ⟨x, by omega, hy⟩
theorem dc_idx {a : List Int} {n : Nat} (h : n < a.length) : idx a (n : Int) = some (a.getD n 0) := by
  rw [idx_nat, List.getD_eq_getElem?_getD, List.getElem?_eq_getElem h]; rfl
theorem dc_idx4 {a : List Int} {j : Nat} (h : 4 * j + 4 ≤ a.length) (hl : a.length ≤ 1048576) : idx a ((4 * j : Nat) : Int) = some (ord4 a j).1 ∧ idx a (w64 (((4 * j : Nat) : Int) + 1)) = some (ord4 a j).2.1 ∧
    idx a (w64 (((4 * j : Nat) : Int) + 2)) = some (ord4 a j).2.2.1 ∧ idx a (w64 (((4 * j : Nat) : Int) + 3)) = some (ord4 a j).2.2.2 := by
  have e : ∀ k : Nat, k ≤ 3 → w64 (((4 * j : Nat) : Int) + k) = ((4 * j + k : Nat) : Int) := fun k hk => by rw [w64_id (by omega) (by omega)]; omega
  refine ⟨dc_idx (by omega), ?_, ?_, ?_⟩
  · have := e 1 (by omega); rw [show ((1 : Int)) = ((1 : Nat) : Int) from rfl, this]; exact dc_idx (by omega)
  · have := e 2 (by omega); rw [show ((2 : Int)) = ((2 : Nat) : Int) from rfl, this]; exact dc_idx (by omega)
  · have := e 3 (by omega); rw [show ((3 : Int)) = ((3 : Nat) : Int) from rfl, this]; exact dc_idx (by omega)
theorem dc_ref_loop (a : List Int) (m : Nat) (hm : a.length = 4 * m) (hl : a.length ≤ 1048576) : ∀ (k j : Nat), j + k = m → (ords a j).any bad4 = false → ∀ fuel, k < fuel →
    iter (ref_Decoded_b4 a) fuel (((4 * j : Nat) : Int), ords a j) = some (if (ords a m).any bad4 then .ret ([], false) else .brk (ords a m))
  | 0, j, hj, hn, fuel + 1, _ => by
    obtain rfl : j = m := by omega
    have hc : decide (((4 * j : Nat) : Int) < (List.length a : Int)) = false := decide_eq_false (by omega)
    simp only [iter, ref_Decoded_b4, hc, cond_false, hn]
    rfl
  | k + 1, j, hj, hn, fuel + 1, hf => by
    have hc : decide (((4 * j : Nat) : Int) < (List.length a : Int)) = true := decide_eq_true (by omega)
    obtain ⟨h0, h1, h2, h3⟩ := dc_idx4 (a := a) (j := j) (by omega) hl
    have hck : ck ((List.length (ords a j) : Int) + 1 ≤ 4294967296) = some () := ck_ok (by rw [ords_len]; omega)
    have hnx : w64 (((4 * j : Nat) : Int) + 4) = ((4 * (j + 1) : Nat) : Int) := by rw [w64_id (by omega) (by omega)]; omega
    have hb : (ords a (j + 1)).any bad4 = bad4 (ord4 a j) := by rw [ords_succ, List.any_append, hn]; simp
    have e1 : ((idx a ((4 * j : Nat) : Int)).bind fun v70 => bif v70 == (1 : Int) then ((idx a (w64 (((4 * j : Nat) : Int) + (3 : Int)))).bind fun v73 => some (v73 != (0 : Int))) else (some false)) = some (bad4 (ord4 a j)) := by
      rw [h0, h3, bind_some', bind_some']
      unfold bad4
      cases ((ord4 a j).1 == 1) <;> rfl
    have hs : ref_Decoded_b4 a (((4 * j : Nat) : Int), ords a j) = some (bif bad4 (ord4 a j) then .done (.ret ([], false)) else .next (((4 * (j + 1) : Nat) : Int), ords a (j + 1))) := by
      unfold ref_Decoded_b4
      dsimp only
      rw [hc, cond_true, e1, bind_some', h0, h1, h2, h3, bind_some', bind_some', bind_some', bind_some', hck, bind_some', hnx, ords_succ]
      cases bad4 (ord4 a j) <;> rfl
    rw [iter, hs]
    cases hbd : bad4 (ord4 a j) with
    | true =>
      rw [hbd] at hb
      rw [cond_true, ords_any (by omega) hb]
      rfl
    | false =>
      rw [hbd] at hb
      rw [cond_false]
      exact dc_ref_loop a m hm hl k (j + 1) (by omega) hb fuel (by omega)
theorem dc_mod (a : List Int) : ((Int.tmod (List.length a : Int) (4 : Int)) != (0 : Int)) = decide (a.length % 4 ≠ 0) := by
  rw [show ((4 : Int)) = ((4 : Nat) : Int) from rfl, ← Int.ofNat_tmod, bne_dec]
  exact decide_eq_decide.2 (by omega)
theorem dc_ref {fuel : Nat} {a : List Int} (hl : a.length ≤ 1048576) (hf : a.length < fuel) : ref_Decoded fuel a = some (decd a) := by
  unfold ref_Decoded decd
  rw [dc_mod]
  by_cases h : a.length % 4 ≠ 0
  · rw [decide_eq_true h, if_pos h, cond_true]
  · have h4 : a.length = 4 * (a.length / 4) := by omega
    rw [decide_eq_false h, if_neg h, cond_false]
    have := dc_ref_loop a _ h4 hl (a.length / 4) 0 (by omega) rfl fuel (by omega)
    simp only [Nat.mul_zero, Int.cast_ofNat_Int] at this
    have e0 : ords a 0 = [] := rfl
    rw [e0] at this
    rw [this, bind_some']
    by_cases hb : (ords a (a.length / 4)).any bad4 = true
    · rw [if_pos hb, if_pos hb]
    · rw [if_neg hb, if_neg hb]
theorem dc_round {a : List Int} {j : Nat} (hj : 4 * j + 4 ≤ a.length) (hl : a.length ≤ 1048576) : code_Orders_r5 (sub a ((4 * j : Nat) : Int) ((4 * (j + 1) : Nat) : Int)) (0, ords a j) = some (bif bad4 (ord4 a j) then .done (3, ords a j) else .next (0, ords a (j + 1))) := by
  have hc : decide (((4 * j : Nat) : Int) < (List.length a : Int)) = true := decide_eq_true (by omega)
  have hs : (List.length (sub a ((4 * j : Nat) : Int) (List.length a : Int)) : Int) = a.length - 4 * j := by
    unfold sub
    simp only [List.length_take, List.length_drop, Int.toNat_natCast]
    omega
  have hm4 : imin 4 (List.length (sub a ((4 * j : Nat) : Int) (List.length a : Int)) : Int) = 4 := by
    rw [hs]; unfold imin; rw [if_neg (by omega)]
  have hnx : w64 (((4 * j : Nat) : Int) + 4) = ((4 * (j + 1) : Nat) : Int) := by rw [w64_id (by omega) (by omega)]; omega
  have c1 : ck (0 ≤ ((4 * j : Nat) : Int) ∧ ((4 * j : Nat) : Int) ≤ (List.length a : Int) ∧ (List.length a : Int) ≤ (List.length a : Int)) = some () := ck_ok (by omega)
  have c2 : ck (0 ≤ ((4 * j : Nat) : Int) ∧ ((4 * j : Nat) : Int) ≤ ((4 * (j + 1) : Nat) : Int) ∧ ((4 * (j + 1) : Nat) : Int) ≤ (List.length a : Int) ∧ ((4 * (j + 1) : Nat) : Int) = ((4 * (j + 1) : Nat) : Int)) = some () := ck_ok (by omega)
  have hg : ∀ r : Nat, r < 4 → idx (sub a ((4 * j : Nat) : Int) ((4 * (j + 1) : Nat) : Int)) (r : Int) = some (a.getD (4 * j + r) 0) := by
    intro r hr
    unfold sub
    rw [idx_nat, Int.toNat_natCast, Int.toNat_natCast, List.getElem?_take, if_pos (by omega), List.getElem?_drop, List.getD_eq_getElem?_getD, List.getElem?_eq_getElem (by omega)]
    rfl
  have h0 : idx (sub a ((4 * j : Nat) : Int) ((4 * (j + 1) : Nat) : Int)) 0 = some (ord4 a j).1 := hg 0 (by omega)
  have h1 : idx (sub a ((4 * j : Nat) : Int) ((4 * (j + 1) : Nat) : Int)) 1 = some (ord4 a j).2.1 := hg 1 (by omega)
  have h2 : idx (sub a ((4 * j : Nat) : Int) ((4 * (j + 1) : Nat) : Int)) 2 = some (ord4 a j).2.2.1 := hg 2 (by omega)
  have h3 : idx (sub a ((4 * j : Nat) : Int) ((4 * (j + 1) : Nat) : Int)) 3 = some (ord4 a j).2.2.2 := hg 3 (by omega)
  have hck : ck ((List.length (ords a j) : Int) + 1 ≤ 4294967296) = some () := ck_ok (by rw [ords_len]; omega)
  have e1 : ((idx (sub a ((4 * j : Nat) : Int) ((4 * (j + 1) : Nat) : Int)) 0).bind fun v70 => bif v70 == (1 : Int) then ((idx (sub a ((4 * j : Nat) : Int) ((4 * (j + 1) : Nat) : Int)) 3).bind fun v73 => some (v73 != (0 : Int))) else (some false)) = some (bad4 (ord4 a j)) := by
    rw [h0, h3, bind_some', bind_some']
    unfold bad4
    cases ((ord4 a j).1 == 1) <;> rfl
  unfold code_Orders_r5
  dsimp only
  rw [e1, bind_some', h0, h1, h2, h3, bind_some', bind_some', bind_some', bind_some', hck, bind_some', ords_succ]
  cases bad4 (ord4 a j) <;> rfl
theorem dc_chunk_step {a : List Int} {j : Nat} (hj : 4 * j + 4 ≤ a.length) (hl : a.length ≤ 1048576) : slices_Chunk_Lintint_1_for_code_Orders_b1 a 4 code_Orders_r5 (((4 * j : Nat) : Int), 0, ords a j) = some (bif bad4 (ord4 a j) then .done (.ret (3, ords a j)) else .next (((4 * (j + 1) : Nat) : Int), 0, ords a (j + 1))) := by
  have hr := dc_round hj hl
  have hc : decide (((4 * j : Nat) : Int) < (List.length a : Int)) = true := decide_eq_true (by omega)
  have hs : (List.length (sub a ((4 * j : Nat) : Int) (List.length a : Int)) : Int) = a.length - 4 * j := by
    unfold sub
    simp only [List.length_take, List.length_drop, Int.toNat_natCast]
    omega
  have hm4 : imin 4 (List.length (sub a ((4 * j : Nat) : Int) (List.length a : Int)) : Int) = 4 := by
    rw [hs]; unfold imin; rw [if_neg (by omega)]
  have hnx : w64 (((4 * j : Nat) : Int) + 4) = ((4 * (j + 1) : Nat) : Int) := by rw [w64_id (by omega) (by omega)]; omega
  have c1 : ck (0 ≤ ((4 * j : Nat) : Int) ∧ ((4 * j : Nat) : Int) ≤ (List.length a : Int) ∧ (List.length a : Int) ≤ (List.length a : Int)) = some () := ck_ok (by omega)
  have c2 : ck (0 ≤ ((4 * j : Nat) : Int) ∧ ((4 * j : Nat) : Int) ≤ ((4 * (j + 1) : Nat) : Int) ∧ ((4 * (j + 1) : Nat) : Int) ≤ (List.length a : Int) ∧ ((4 * (j + 1) : Nat) : Int) = ((4 * (j + 1) : Nat) : Int)) = some () := ck_ok (by omega)
  have hg : ∀ r : Nat, r < 4 → idx (sub a ((4 * j : Nat) : Int) ((4 * (j + 1) : Nat) : Int)) (r : Int) = some (a.getD (4 * j + r) 0) := by
    intro r hr
    unfold sub
    rw [idx_nat, Int.toNat_natCast, Int.toNat_natCast, List.getElem?_take, if_pos (by omega), List.getElem?_drop, List.getD_eq_getElem?_getD, List.getElem?_eq_getElem (by omega)]
    rfl
  have h0 : idx (sub a ((4 * j : Nat) : Int) ((4 * (j + 1) : Nat) : Int)) 0 = some (ord4 a j).1 := hg 0 (by omega)
  have h1 : idx (sub a ((4 * j : Nat) : Int) ((4 * (j + 1) : Nat) : Int)) 1 = some (ord4 a j).2.1 := hg 1 (by omega)
  have h2 : idx (sub a ((4 * j : Nat) : Int) ((4 * (j + 1) : Nat) : Int)) 2 = some (ord4 a j).2.2.1 := hg 2 (by omega)
  have h3 : idx (sub a ((4 * j : Nat) : Int) ((4 * (j + 1) : Nat) : Int)) 3 = some (ord4 a j).2.2.2 := hg 3 (by omega)
  have hck : ck ((List.length (ords a j) : Int) + 1 ≤ 4294967296) = some () := ck_ok (by rw [ords_len]; omega)
  unfold slices_Chunk_Lintint_1_for_code_Orders_b1
  dsimp only
  rw [hc, cond_true, c1, bind_some', hm4, hnx, c2, bind_some', hr, bind_some']
  cases bad4 (ord4 a j) <;> rfl
theorem dc_chunk_loop (a : List Int) (m : Nat) (hm : a.length = 4 * m) (hl : a.length ≤ 1048576) : ∀ (k j : Nat), j + k = m → (ords a j).any bad4 = false → ∀ fuel, k < fuel →
    ∃ z, iter (slices_Chunk_Lintint_1_for_code_Orders_b1 a 4 code_Orders_r5) fuel (((4 * j : Nat) : Int), 0, ords a j) = some (if (ords a m).any bad4 then .ret (3, z) else .brk (0, ords a m))
  | 0, j, hj, hn, fuel + 1, _ => by
    obtain rfl : j = m := by omega
    have hc : decide (((4 * j : Nat) : Int) < (List.length a : Int)) = false := decide_eq_false (by omega)
    refine ⟨[], ?_⟩
    simp only [iter, slices_Chunk_Lintint_1_for_code_Orders_b1, hc, cond_false, hn]
    rfl
  | k + 1, j, hj, hn, fuel + 1, hf => by
    have hb : (ords a (j + 1)).any bad4 = bad4 (ord4 a j) := by rw [ords_succ, List.any_append, hn]; simp
    rw [iter, dc_chunk_step (by omega) hl]
    cases hbd : bad4 (ord4 a j) with
    | true =>
      rw [hbd] at hb
      refine ⟨ords a j, ?_⟩
      rw [cond_true, ords_any (by omega) hb]
      rfl
    | false =>
      rw [hbd] at hb
      rw [cond_false]
      exact dc_chunk_loop a m hm hl k (j + 1) (by omega) hb fuel (by omega)
def dcE (a0 : Int) (a : List Int) : Int := if (decd a).2 then ocAll a0 (decd a).1 else 3
theorem dc_digits {fuel : Nat} {a : List Int} (a0 : Int) (hl : a.length ≤ 1048576) (hf : a.length < fuel) : ref_DigitsCheck fuel a0 a = some (dcE a0 a) := by
  unfold ref_DigitsCheck dcE
  rw [dc_ref hl hf, bind_some', oc_countcheck]
  cases (decd a).2 <;> rfl
theorem dc_orders {fuel : Nat} {a : List Int} (a0 : Int) (hl : a.length ≤ 1048576) (hf : a.length < fuel) : code_Orders fuel a0 a = some (if dcE a0 a = 0 then (decd a).1 else [], dcE a0 a) := by
  unfold code_Orders dcE decd
  rw [dc_mod]
  by_cases h : a.length % 4 ≠ 0
  · rw [decide_eq_true h, if_pos h, cond_true]; rfl
  · have h4 : a.length = 4 * (a.length / 4) := by omega
    rw [decide_eq_false h, if_neg h, cond_false]
    have e1 : slices_Chunk_Lintint a 4 = some (a, 4) := rfl
    obtain ⟨z, hz⟩ := dc_chunk_loop a _ h4 hl (a.length / 4) 0 (by omega) rfl fuel (by omega)
    simp only [Nat.mul_zero, Int.cast_ofNat_Int] at hz
    have e0 : ords a 0 = [] := rfl
    rw [e0] at hz
    rw [e1, bind_some']
    unfold slices_Chunk_Lintint_1_for_code_Orders
    simp only
    rw [hz, bind_some']
    by_cases hb : (ords a (a.length / 4)).any bad4 = true
    · simp only [hb, if_true]
      rfl
    · have hb' : (ords a (a.length / 4)).any bad4 = false := by simpa using hb
      simp only [hb', Bool.false_eq_true, if_false, if_true, bind_some']
      rw [oc_check, bind_some', bne_dec]
      by_cases hz : ocAll a0 (ords a (a.length / 4)) = 0
      · simp [hz]
      · simp [hz]

def crBad (v : Int) : Bool := decide (v < 0) || decide (v > 20)
theorem cr_have (l : List Int) : slices_ContainsFunc_Lintint_with_count_Run_1 l = some (l.any crBad) := by
  unfold slices_ContainsFunc_Lintint_with_count_Run_1 slices_IndexFunc_Lintint_with_count_Run_1
  rcases forL_at (body := slices_IndexFunc_Lintint_with_count_Run_1_b1) (fin := fun _ => (Esc.brk () : Esc Int Unit)) (p := crBad) (g := fun j => Esc.ret j) (l := l)
    (fun i a _ => by unfold slices_IndexFunc_Lintint_with_count_Run_1_b1 count_Run_1 crBad; cases (decide (a < 0) || decide (a > 20)) <;> rfl) (i := 0) with ⟨h1, h2⟩ | ⟨h1, j, h2, h3, h4⟩
  · rw [h2, h1]; rfl
  · rw [h4, h1]
    simp [h2]
theorem cr_haveref (l : List Int) : forL ref_HaveCheck_b1 (fun _ => (Esc.brk () : Esc Int Unit)) l 0 () = some (bif l.any crBad then .ret 4 else .brk ()) := by
  refine forL_ex (fun i a _ => ?_)
  unfold ref_HaveCheck_b1 crBad
  rw [oc_within]
  by_cases h : 0 ≤ a ∧ a ≤ 20
  · have : (decide (a < 0) || decide (a > 20)) = false := by simp only [Bool.or_eq_false_iff, decide_eq_false_iff_not]; omega
    simp [this, h]
  · have : (decide (a < 0) || decide (a > 20)) = true := by simp only [Bool.or_eq_true, decide_eq_true_eq]; omega
    simp [this, h]
theorem cr_set {l : List Int} {i : Nat} {v b : Int} (h : ∀ x ∈ l, 0 ≤ x ∧ x ≤ b) (hv : 0 ≤ v ∧ v ≤ b) : ∀ x ∈ l.set i v, 0 ≤ x ∧ x ≤ b := by
  intro x hx
  rcases List.mem_or_eq_of_mem_set hx with hx | rfl
  · exact h x hx
  · exact hv
theorem cr_loop {fuel : Nat} (hfu : 400 < fuel) (a0 : Int) (l : List (Int × Int × Int × Int)) (a3 : Int) (h4 : a3 ≤ 400)
    (hl : ∀ v ∈ l, (v.1 = 1 ∨ v.1 = 2) ∧ (0 ≤ v.2.1 ∧ v.2.1 < a0) ∧ (0 ≤ v.2.2.1 ∧ v.2.2.1 ≤ l.length) ∧ (v.1 = 2 → 0 ≤ v.2.2.2 ∧ v.2.2.2 ≤ l.length)) (c : List Int) (hc : (c.length : Int) = a0) (hb : ∀ x ∈ c, 0 ≤ x ∧ x ≤ 20) :
    ∃ y, iter (count_Run_b1 l a3) fuel (0, 0, c) = some y ∧ iter (ref_Counted_b1 l a3) fuel (0, 0, c) = some y := by
  suffices h : ∃ y, iter (count_Run_b1 l a3) fuel (0, 0, c) = some y ∧ iter (ref_Counted_b1 l a3) fuel (0, 0, c) = some y ∧ True by
    obtain ⟨y, h1, h2, _⟩ := h; exact ⟨y, h1, h2⟩
  refine iter_eq (Inv := fun x => 0 ≤ x.1 ∧ 0 ≤ x.2.1 ∧ (x.2.2.length : Int) = a0 ∧ (x.2.1 ≤ 400) ∧ ∀ z ∈ x.2.2, 0 ≤ z ∧ z ≤ 20 + x.2.1) (m := fun x => (400 - x.2.1).toNat) (fun _ => True) ?_ fuel (0, 0, c)
    (by show (400 - (0 : Int)).toNat < fuel; omega) ⟨Int.le_refl 0, Int.le_refl 0, hc, by show (0 : Int) ≤ 400; omega, by simpa using hb⟩
  rintro ⟨at_, d, c⟩ ⟨h0, h1, h2, h3, h5⟩
  simp only at h0 h1 h2 h3 h5
  unfold count_Run_b1 ref_Counted_b1
  by_cases hcond : d < a3 ∧ at_ < (l.length : Int)
  · have hct : (decide (d < a3) && decide (at_ < (l.length : Int))) = true := by simp [hcond]
    obtain ⟨o, ho, ho2⟩ := idx_get (xs := l) h0 hcond.2
    obtain ⟨k1, k2, k3, k4⟩ := hl o (List.mem_of_getElem? ho2)
    obtain ⟨v, hv, hv2⟩ := idx_get (xs := c) k2.1 (by omega)
    have hvb := h5 v (List.mem_of_getElem? hv2)
    have e0 : w64 (d + 1) = d + 1 := w64_id (by omega) (by omega)
    have e1 : w64 (v + 1) = v + 1 := w64_id (by omega) (by omega)
    have e2 : w64 (v - 1) = v - 1 := w64_id (by omega) (by omega)
    have hm : ∀ x ∈ c, 0 ≤ x ∧ x ≤ 20 + (d + 1) := fun x hx => by have := h5 x hx; omega
    simp only [hct, cond_true, ho, Option.bind_some, hv, e0, e1, e2, count_Turn]
    rcases k1 with k1 | k1
    · simp only [k1, show ((1 : Int) == 1) = true from rfl, cond_true, Option.bind_some]
      refine ⟨_, rfl, rfl, ⟨k3.1, by simp only; omega, by simpa using h2, by simp only; omega, cr_set hm (by dsimp only; omega)⟩, by simp only; omega⟩
    · simp only [k1, show ((2 : Int) == 1) = false from rfl, cond_false, Option.bind_some]
      by_cases hz : v = 0
      · subst hz
        refine ⟨_, rfl, rfl, ⟨(k4 k1).1, by simp only; omega, by simpa using h2, by simp only; omega, hm⟩, by simp only; omega⟩
      · have c1 : (v == 0) = false := by simp [hz]
        have c2 : decide (v > 0) = true := by simp; omega
        simp only [c1, c2, cond_false, cond_true, Option.bind_some]
        refine ⟨_, rfl, rfl, ⟨k3.1, by simp only; omega, by simpa using h2, by simp only; omega, cr_set hm (by dsimp only; omega)⟩, by simp only; omega⟩
  · have hcf : (decide (d < a3) && decide (at_ < (l.length : Int))) = false := by
      simp only [Bool.and_eq_false_iff, decide_eq_false_iff_not]; omega
    simp only [hcf, cond_false]
    exact ⟨_, rfl, rfl, trivial⟩

theorem dc_valid0 {a0 : Int} {a : List Int} (h : dcE a0 a = 0) : ocAll a0 (decd a).1 = 0 := by
  unfold dcE at h
  split at h
  · exact h
  · cases h
theorem count2_eq (a0 : Int) (l : List Od) : count_Check_i2 a0 l = some (ocAll a0 l) := oc_check a0 l
theorem CodeRuns_true (a0 : Int) (b1 a2 : List Int) (a3 : Int) (f0 : Fits (.int .i64) a0) (f1 : Fits (.slice (.int .i64)) b1) (f2 : Fits (.slice (.int .i64)) a2) (f3 : Fits (.int .i64) a3) (hb1 : b1.length ≤ 1048576) (hb2 : a2.length ≤ 1048576) :
    ∃ fuel, law_CodeRuns fuel a0 b1 a2 a3 = some true := by
  refine ⟨b1.length + 1000, ?_⟩
  generalize hfu : b1.length + 1000 = fuel
  unfold law_CodeRuns code_Run
  rw [dc_digits a0 hb1 (by omega), dc_orders a0 hb1 (by omega)]
  by_cases hE : dcE a0 b1 = 0
  · have hz := dc_valid0 hE
    rw [hE, if_pos rfl, dc_ref hb1 (by omega)]
    simp only [Option.bind_some]
    generalize (decd b1).1 = a1 at *
    unfold count_Run
    rw [count2_eq, hz]
    obtain ⟨⟨hA, hB⟩, hl⟩ := oc_valid hz
    unfold ref_HaveCheck
    rw [cr_have, cr_haveref, oc_within]
    by_cases hlen : (a2.length : Int) = a0
    · have e1 : ((a2.length : Int) != a0) = false := by simp [hlen]
      by_cases hbad : a2.any crBad = true
      · simp [e1, hbad]
      · have hbad' : a2.any crBad = false := by simpa using hbad
        by_cases ht : 0 ≤ a3 ∧ a3 ≤ 400
        · have c1 : ((decide (a3 < (0 : Int))) || (decide (a3 > (400 : Int)))) = false := by
            simp only [Bool.or_eq_false_iff, decide_eq_false_iff_not]; omega
          have hin : ∀ x ∈ a2, 0 ≤ x ∧ x ≤ 20 := by
            intro x hx
            have := (List.any_eq_false.1 hbad') x hx
            unfold crBad at this
            simp only [Bool.or_eq_true, decide_eq_true_eq] at this
            omega
          obtain ⟨y, hy1, hy2⟩ := cr_loop (fuel := fuel) (by omega) a0 a1 a3 ht.2 hl a2 hlen hin
          have hck : ck ((a2.length : Int) ≤ 4294967296) = some () := ck_ok (by omega)
          simp [e1, hbad', c1, ht, slices_Clone_Lintint, hck, hy1, hy2, ref_Counted, ref_Ints_eq]
        · have c1 : ((decide (a3 < (0 : Int))) || (decide (a3 > (400 : Int)))) = true := by
            simp only [Bool.or_eq_true, decide_eq_true_eq]; omega
          simp [e1, hbad', c1, ht]
    · have e1 : ((a2.length : Int) != a0) = true := by simp [hlen]
      simp [e1]
  · have hne : (dcE a0 b1 != 0) = true := by simp [hE]
    have he : (dcE a0 b1 == 0) = false := by simp [hE]
    rw [if_neg hE]
    simp [hne, he, hE]

end Go.Proofs.Ytbjfglckfknheaa.codeRuns
namespace Go.Proofs.Ytbjfglckfknheaa.codeRuns
open Go.ChangeShapes Go.WideShapes Go.ChangeAt Go.RowKit
open Go.ChangeMaps (open_string shut_string)
theorem own : ownKnob Try.prog.godebug = none := by kernel_rfl
theorem laidOut : laidOutB Try.prog = true := by kernel_rfl
theorem bulk_pos {H : Type} (d : DataW H) : 1 ≤ Rows.uptoBulk d := by
  cases d with
  | lit l => cases l <;> simp [Rows.uptoBulk]
  | _ => simp [Rows.uptoBulk]
theorem bulk_len {H : Type} : ∀ l : List (DataW H), l.length ≤ Rows.uptoBulkAll l
  | [] => by simp [Rows.uptoBulkAll]
  | d :: l => by
    have := bulk_pos d
    have := bulk_len l
    simp only [Rows.uptoBulkAll, List.length_cons]; omega
section
open Go.Sl
/-- a slice that is read is no longer than its bulk -/
theorem bulk_slice {H : Type} {enc : TypeId × Value → H} {P : Program} {w : World} {spare : Nat → Bool} {held : Bool} {t e : TypeId} {u : Ty} {v : Value} {d : DataW H} {ps : List MemPlace} {xs : List u.den}
    (ht : P.underlying t = some (.slice e)) (h : DataW.Trod enc P w 0 spare held t v d ps) (hr : ∀ ρ tm, VRel (heapOf w) ρ tm (aD (.slice u) xs) v) : xs.length ≤ Rows.uptoBulk d := by
  have hv : RepV (heapOf w) (.slice u) xs v := hr (fun _ => undef) #[]
  obtain ⟨ad, cap, rfl, _, _, hrest⟩ := sl_form (repV_slice.1 hv)
  obtain ⟨fuel, hx⟩ := h
  rcases DataW.trod_slice ht hx with ⟨hcs, _⟩ | ⟨a, len, cap', elems, rest, n, _, hcs, hd, _, _, _, hel, _, _, _⟩
  · simp [Value.cells] at hcs
    omega
  · simp [Value.cells] at hcs
    simp only [Prod.mk.injEq] at hd
    obtain ⟨rfl, _⟩ := hd
    have := bulk_len (elems.map (·.1))
    simp only [Rows.uptoBulk]
    rw [List.length_map] at this
    omega
end
theorem contract (H : Type) (enc : TypeId × Value → H) (W : World) (base : Nat) (args : Array Value) (ds gs : List (DataW H)) (before : List MemPlace)
    (hval0 : ∀ (j : Nat) t v, Try.f4.params[j]? = some t → args[j]? = some v → Value.okWide Try.prog W .any base t v)
    (hW : DataW.Whole enc Try.prog Try.f4.params.toList Rows.codeRunsSpec.vars false W args.toList ds gs before) (hk : Rows.uptoSmall H (ds ++ gs) = true) :
    Calls Try.prog 4 args W fun e W' => ∃ v, e = .returned v ∧ Rows.codeRunsSpec.post enc Try.prog Try.f4 false true false false W args v W' := by
  have hval : ∀ (j : Nat) t v, Try.f4.params[j]? = some t → args[j]? = some v → Value.okWide Try.prog W .any base t v := hval0
  have hW' := hW
  obtain ⟨p, q, hA0, hV, rfl, hfz, hnd⟩ := hW
  have hA : DataW.TrodAll enc Try.prog W 0 (fun _ => true) true Try.f4.params.toList args.toList ds p := hA0
  rw [Try.params4] at hA hval
  obtain ⟨v0, vs0, d0, ds0, p0, q0, hargs, rfl, rfl, h0, r0⟩ := trodAll_cons hA
  obtain ⟨v1, vs1, d1, ds1, p1, q1, rfl, rfl, rfl, h1, r1⟩ := trodAll_cons r0
  obtain ⟨v2, vs2, d2, ds2, p2, q2, rfl, rfl, rfl, h2, r2⟩ := trodAll_cons r1
  obtain ⟨v3, vs3, d3, ds3, p3, q3, rfl, rfl, rfl, h3, r3⟩ := trodAll_cons r2
  obtain ⟨rfl, rfl, rfl⟩ := trodAll_nil r3
  obtain rfl : args = #[v0, v1, v2, v3] := by cases args; simp_all
  obtain ⟨rfl, rfl⟩ := trodVars_none hV
  obtain ⟨x0, f0, k0⟩ := Go.Sl.read_arg (u := (.int .i64)) (by kernel_rfl) (by kernel_rfl) (hval 0 3 v0 rfl rfl) h0
  have lt0 : ∀ x ∈ p0, x.block < W.heap.size := by obtain ⟨m, hm⟩ := h0; exact DataW.trod_lt m _ _ _ hm
  obtain ⟨x1, f1, k1⟩ := Go.Sl.read_arg (u := (.slice (.int .i64))) (by kernel_rfl) (by kernel_rfl) (hval 1 22 v1 rfl rfl) h1
  have lt1 : ∀ x ∈ p1, x.block < W.heap.size := by obtain ⟨m, hm⟩ := h1; exact DataW.trod_lt m _ _ _ hm
  obtain ⟨x2, f2, k2⟩ := Go.Sl.read_arg (u := (.slice (.int .i64))) (by kernel_rfl) (by kernel_rfl) (hval 2 22 v2 rfl rfl) h2
  have lt2 : ∀ x ∈ p2, x.block < W.heap.size := by obtain ⟨m, hm⟩ := h2; exact DataW.trod_lt m _ _ _ hm
  obtain ⟨x3, f3, k3⟩ := Go.Sl.read_arg (u := (.int .i64)) (by kernel_rfl) (by kernel_rfl) (hval 3 3 v3 rfl rfl) h3
  have lt3 : ∀ x ∈ p3, x.block < W.heap.size := by obtain ⟨m, hm⟩ := h3; exact DataW.trod_lt m _ _ _ hm
  clear hA0 hval0
  have hk' : Rows.uptoBulkAll [d0, d1, d2, d3] ≤ 1048576 := by simpa using of_decide_eq_true hk
  simp only [Rows.uptoBulkAll] at hk'
  have b1 := bulk_slice Try.underlying22 h1 k1
  have b2 := bulk_slice Try.underlying22 h2 k2
  obtain ⟨fuel, hm⟩ := CodeRuns_true x0 x1 x2 x3 f0 f1 f2 f3 (by omega) (by omega)
  refine (Go.Sl.law_of (vs := [v0, v1, v2, v3]) (law_CodeRuns_ok hm) rfl (.cons (k0 _ _) (.cons (k1 _ _) (.cons (k2 _ _) (.cons (k3 _ _) .nil))))).mono fun e W' ⟨he, bel⟩ => ?_
  subst he
  exact ⟨_, rfl, _, _, _, [], _, [], hW', trodAll_mk1 (shut_bool Try.underlying4 _), (trodAll_cons_mk (Below.trod laidOut (by kernel_rfl) (of_decide_eq_true (by kernel_rfl)) h0 bel lt0) (trodAll_cons_mk (Below.trod laidOut (by kernel_rfl) (of_decide_eq_true (by kernel_rfl)) h1 bel lt1) (trodAll_cons_mk (Below.trod laidOut (by kernel_rfl) (of_decide_eq_true (by kernel_rfl)) h2 bel lt2) (trodAll_cons_mk (Below.trod laidOut (by kernel_rfl) (of_decide_eq_true (by kernel_rfl)) h3 bel lt3) trodAll_mk0)))), rfl, bel.frame _, fun h => by cases h⟩
theorem lifted (os : Os) (started : os.Started) (H : Type) (enc : TypeId × Value → H) (F : Stop.Interp) :
    ReturnsInHanded {} Try.checked os 4 .any ((Rows.OpenSpec.upto Rows.codeRunsSpec).pre6 enc Try.prog Try.f4 Rows.codeRunsUptoRow.domain false) (((Rows.OpenSpec.upto Rows.codeRunsSpec).at F).post enc Try.prog Try.f4 false true false false) := by
  refine returnsInHanded_of_cond (C := Try.checked) (s := Rows.OpenSpec.upto Rows.codeRunsSpec) (k := Rows.uptoSmall) rfl own started (by kernel_rfl) Try.func4
    (OpenSpec.witness (enc := enc) (C := Try.checked) (s := Rows.OpenSpec.upto Rows.codeRunsSpec) (k := Rows.uptoSmall) rfl false ⟨#[], #[.int .i64 0, .slice none 0 0, .slice none 0 0, .int .i64 0], []⟩ 8 (by kernel_rfl) (by kernel_rfl) (by kernel_rfl)
      (x := ([.lit (.int .i64 0), .nil, .nil, .lit (.int .i64 0)], [], [])) (by kernel_rfl) rfl (by kernel_rfl)) ?_
  intro W base args ds gs before hval hW _ hk _
  exact contract H enc W base args ds gs before hval hW hk
theorem proved : Rows.CodeRunsUptoSaid :=
  OpenClaim.holds_of_cond 4 Try.f4 rfl rfl rfl rfl rfl rfl rfl ⟨rfl, rfl, rfl, rfl, rfl⟩ rfl rfl rfl rfl rfl (by kernel_rfl) Try.func4 (by kernel_rfl)
    (of_decide_eq_true (by kernel_rfl)) (by unfold Func.isWrapper; first | (rw [if_pos (by decide +kernel)]; kernel_rfl) | (rw [if_neg (by decide +kernel)]; exact ⟨rfl, rfl⟩))
    (fun os started H enc _ F => lifted os started H enc F)
#print axioms proved
end Go.Proofs.Ytbjfglckfknheaa.codeRuns
