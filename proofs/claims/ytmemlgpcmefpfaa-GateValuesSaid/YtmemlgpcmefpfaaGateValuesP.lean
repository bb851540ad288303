/- For any circuit and inputs gate.Value returns the specified results: GateValues returns true and changes nothing; no conditions. -/
import Derived.Test.YtmemlgpcmefpfaaRows
import Derived.WalkKit
import Derived.ProofKit
import Derived.OpenShut
import Derived.ShutString
import Derived.ChangeOld
import Derived.Below
import Derived.Test.YtmemlgpcmefpfaaGateValuesM
set_option linter.all false
set_option maxRecDepth 100000
namespace Go.Proofs.Ytmemlgpcmefpfaa.gateValues
open Go Go.Sl

theorem within_eq (a b c : Int) : ref_Within a b c = some (decide (a ≤ b ∧ b ≤ c)) := by
  unfold ref_Within
  rw [Bool.decide_and]

theorem inside1 (n v : Int) : ref_Inside n [v] = some (decide (0 ≤ v ∧ v < n)) := by
  unfold ref_Inside
  rw [forL_ex (p := fun v => decide (v < 0) || decide (v ≥ n)) (y := Esc.ret false) (fun i a _ => by unfold ref_Inside_b1; cases (decide (a < 0) || decide (a ≥ n)) <;> rfl)]
  by_cases h : 0 ≤ v ∧ v < n
  · have : (decide (v < 0) || decide (v ≥ n)) = false := by simp only [Bool.or_eq_false_iff, decide_eq_false_iff_not]; omega
    simp [this, h]
  · have : (decide (v < 0) || decide (v ≥ n)) = true := by simp only [Bool.or_eq_true, decide_eq_true_eq]; omega
    simp [this, h]

def gc (a0 : Int) (n : Nat) (v : Int × Int × Int) : Option Int :=
  bif !decide (1 ≤ v.1 ∧ v.1 ≤ 4) then some 6 else bif (v.1 == 1) && !decide (0 ≤ v.2.1 ∧ v.2.1 < a0) then some 4
  else bif (!(v.1 == 1) && !decide (0 ≤ v.2.1 ∧ v.2.1 < n)) || (decide (v.1 ≥ 3) && !decide (0 ≤ v.2.2 ∧ v.2.2 < n)) then some 2 else none
theorem gc_body (a0 : Int) (n : Nat) (v : Int × Int × Int) : ref_GatesCheck_b10 a0 n v () = some (said Esc.ret (gc a0 n v)) := by
  unfold ref_GatesCheck_b10 ref_GatesCheck_g7 gc
  rw [within_eq, inside1, inside1, inside1]
  simp only [bne]
  generalize decide (1 ≤ v.1 ∧ v.1 ≤ 4) = c1
  generalize decide (0 ≤ v.2.1 ∧ v.2.1 < a0) = c2
  generalize decide (0 ≤ v.2.1 ∧ v.2.1 < (n : Int)) = c3
  generalize decide (0 ≤ v.2.2 ∧ v.2.2 < (n : Int)) = c4
  generalize (v.1 == 1) = c5
  generalize decide (v.1 ≥ 3) = c6
  cases c1 <;> cases c2 <;> cases c3 <;> cases c4 <;> cases c5 <;> cases c6 <;> rfl
theorem gc_pos {a0 : Int} {n : Nat} {v : Int × Int × Int} {e : Int} (h : gc a0 n v = some e) : e ≠ 0 := by
  unfold gc at h
  revert h
  generalize (!decide (1 ≤ v.1 ∧ v.1 ≤ 4)) = c1
  generalize ((v.1 == 1) && !decide (0 ≤ v.2.1 ∧ v.2.1 < a0)) = c2
  generalize ((!(v.1 == 1) && !decide (0 ≤ v.2.1 ∧ v.2.1 < (n : Int))) || (decide (v.1 ≥ 3) && !decide (0 ≤ v.2.2 ∧ v.2.2 < (n : Int)))) = c3
  cases c1 <;> cases c2 <;> cases c3 <;> simp <;> rintro rfl <;> decide
theorem gc_ref (a0 : Int) (l : List (Int × Int × Int)) : ref_GatesCheck a0 l = some ((firstOf (gc a0) 0 l).getD 0) := by
  unfold ref_GatesCheck
  rw [forL_findI (f := gc a0) (g := Esc.ret) (fun n a _ => gc_body a0 n a)]
  cases firstOf (gc a0) 0 l <;> rfl
def GatesOk (a0 : Int) (l : List (Int × Int × Int)) : Prop :=
  ∀ (j : Nat) (g : Int × Int × Int), l[j]? = some g → (1 ≤ g.1 ∧ g.1 ≤ 4) ∧ (g.1 = 1 → 0 ≤ g.2.1 ∧ g.2.1 < a0) ∧ (g.1 ≠ 1 → 0 ≤ g.2.1 ∧ g.2.1 < j) ∧ (3 ≤ g.1 → 0 ≤ g.2.2 ∧ g.2.2 < j)
theorem gc_ok {a0 : Int} {l : List (Int × Int × Int)} (h : (firstOf (gc a0) 0 l).getD 0 = 0) : GatesOk a0 l := by
  intro j g hg
  cases hf : firstOf (gc a0) 0 l with
  | some e =>
    rw [hf] at h
    obtain ⟨k, v, _, hv⟩ := firstOf_some hf
    exact (gc_pos hv h).elim
  | none =>
    obtain ⟨h1, h2⟩ := bif_none (firstOf_none hf hg)
    obtain ⟨h2, h3⟩ := bif_none h2
    obtain ⟨h3, _⟩ := bif_none h3
    simp only [Bool.not_eq_false', Bool.and_eq_false_iff, Bool.or_eq_false_iff, decide_eq_true_eq, decide_eq_false_iff_not, beq_eq_false_iff_ne, beq_iff_eq, ne_eq] at h1 h2 h3
    refine ⟨by omega, by omega, by omega, by omega⟩
theorem gc_of {a0 : Int} {l : List (Int × Int × Int)} (h : GatesOk a0 l) : ref_GatesCheck a0 l = some 0 := by
  rw [gc_ref]
  cases hf : firstOf (gc a0) 0 l with
  | none => rfl
  | some e =>
    obtain ⟨k, v, hk, hv⟩ := firstOf_some hf
    obtain ⟨h1, h2, h3, h4⟩ := h k v hk
    have c1 : (!decide (1 ≤ v.1 ∧ v.1 ≤ 4)) = false := by rw [decide_eq_true h1]; rfl
    have c2 : ((v.1 == 1) && !decide (0 ≤ v.2.1 ∧ v.2.1 < a0)) = false := by
      simp only [Bool.not_eq_false', Bool.and_eq_false_iff, decide_eq_true_eq, beq_eq_false_iff_ne, ne_eq]; omega
    have c3 : ((!(v.1 == 1) && !decide (0 ≤ v.2.1 ∧ v.2.1 < (k : Int))) || (decide (v.1 ≥ 3) && !decide (0 ≤ v.2.2 ∧ v.2.2 < (k : Int)))) = false := by
      simp only [Bool.not_eq_false', Bool.and_eq_false_iff, Bool.or_eq_false_iff, decide_eq_true_eq, decide_eq_false_iff_not, beq_iff_eq]; omega
    unfold gc at hv
    rw [c1, c2, c3] at hv
    cases hv
def gcAll (a0 : Int) (l : List (Int × Int × Int)) : Int :=
  if (0 ≤ a0 ∧ a0 ≤ 5) ∧ 1 ≤ (l.length : Int) ∧ (l.length : Int) ≤ 40 then (firstOf (gc a0) 0 l).getD 0 else 1
theorem gc_gatecheck (a0 : Int) (l : List (Int × Int × Int)) : ref_GateCheck a0 l = some (gcAll a0 l) := by
  unfold ref_GateCheck ref_GateCheck_g1 gcAll
  rw [within_eq, within_eq, gc_ref]
  by_cases h1 : 0 ≤ a0 ∧ a0 ≤ 5
  · by_cases h2 : 1 ≤ (l.length : Int) ∧ (l.length : Int) ≤ 40
    · rw [if_pos ⟨h1, h2⟩, decide_eq_true h1, decide_eq_true h2]; rfl
    · rw [if_neg (fun h => h2 h.2), decide_eq_true h1, decide_eq_false h2]; rfl
  · rw [if_neg (fun h => h1 h.1), decide_eq_false h1]; rfl
theorem gc_valid {a0 : Int} {l : List (Int × Int × Int)} (h : gcAll a0 l = 0) : ((0 ≤ a0 ∧ a0 ≤ 5) ∧ 1 ≤ (l.length : Int) ∧ (l.length : Int) ≤ 40) ∧ GatesOk a0 l := by
  unfold gcAll at h
  split at h
  · rename_i hc
    exact ⟨hc, gc_ok h⟩
  · omega
theorem gc_wrong_body (a0 : Int) (n : Nat) (v : Int × Int × Int) : gate_Wrong_b43 a0 n v () = some (said Esc.ret (gc a0 n v)) := by
  have ht : ∀ u : Int, gate_Wrong_1 u (n : Int) = some (decide (0 ≤ u ∧ u < (n : Int))) := by
    intro u
    unfold gate_Wrong_1
    rw [Bool.decide_and]
  unfold gate_Wrong_b43 gate_Wrong_g39 gc
  rw [ht, ht]
  have e : (bif decide (v.2.1 < (0 : Int)) then (some true) else (some (decide (v.2.1 ≥ a0)))) = some (!decide (0 ≤ v.2.1 ∧ v.2.1 < a0)) := by
    by_cases h1 : v.2.1 < 0
    · simp [h1]
    · by_cases h2 : v.2.1 < a0
      · simp [h1, h2, Int.not_lt.1 h1]
      · simp [h1, h2]; omega
  have e1 : (bif decide (v.1 < (1 : Int)) then (some true) else (some (decide (v.1 > (4 : Int))))) = some (!decide (1 ≤ v.1 ∧ v.1 ≤ 4)) := by
    by_cases h1 : 1 ≤ v.1 ∧ v.1 ≤ 4
    · rw [decide_eq_true h1, decide_eq_false (by omega), decide_eq_false (by omega)]; rfl
    · rw [decide_eq_false h1]
      by_cases h2 : v.1 < 1
      · rw [decide_eq_true h2]; rfl
      · rw [decide_eq_false h2, decide_eq_true (by omega)]; rfl
  rw [e, e1]
  by_cases h1 : 1 ≤ v.1 ∧ v.1 ≤ 4
  · rw [decide_eq_true h1]
    have k2 : decide (v.1 > 1) = !(v.1 == 1) := by
      rw [beq_dec, not_dec]; exact decide_eq_decide.2 (by omega)
    have k3 : decide (v.1 > 2) = decide (v.1 ≥ 3) := decide_eq_decide.2 (by omega)
    rw [k2, k3]
    generalize decide (0 ≤ v.2.1 ∧ v.2.1 < a0) = c2
    generalize decide (0 ≤ v.2.1 ∧ v.2.1 < (n : Int)) = c3
    generalize decide (0 ≤ v.2.2 ∧ v.2.2 < (n : Int)) = c4
    generalize (v.1 == 1) = c5
    generalize decide (v.1 ≥ 3) = c6
    cases c2 <;> cases c3 <;> cases c4 <;> cases c5 <;> cases c6 <;> rfl
  · rw [decide_eq_false h1]; rfl
theorem gc_wrong (a0 : Int) (l : List (Int × Int × Int)) : gate_Wrong a0 l = some ((firstOf (gc a0) 0 l).getD 0) := by
  unfold gate_Wrong
  rw [forL_findI (f := gc a0) (g := Esc.ret) (fun n a _ => gc_wrong_body a0 n a)]
  cases firstOf (gc a0) 0 l <;> rfl
theorem gc_check (a0 : Int) (l : List (Int × Int × Int)) : gate_Check a0 l = some (gcAll a0 l) := by
  unfold gate_Check gcAll
  rw [gc_wrong]
  by_cases h : (0 ≤ a0 ∧ a0 ≤ 5) ∧ 1 ≤ (l.length : Int) ∧ (l.length : Int) ≤ 40
  · have hb : ((((decide (a0 < (0 : Int))) || (decide (a0 > (5 : Int)))) || (decide ((List.length l : Int) < (1 : Int)))) || (decide ((List.length l : Int) > (40 : Int)))) = false := by
      simp only [Bool.or_eq_false_iff, decide_eq_false_iff_not]; omega
    rw [bif_f hb, if_pos h]; rfl
  · have hb : ((((decide (a0 < (0 : Int))) || (decide (a0 > (5 : Int)))) || (decide ((List.length l : Int) < (1 : Int)))) || (decide ((List.length l : Int) > (40 : Int)))) = true := by
      simp only [Bool.or_eq_true, decide_eq_true_eq]; omega
    rw [bif_t hb, if_neg h]

theorem bit_eq {w i : Nat} (hw : w < 2 ^ 63) (hi : i < 63) : ref_Bit (w : Int) (i : Int) = some (w.testBit i) := by
  unfold ref_Bit
  have c : (decide ((i : Int) ≥ 0) && decide ((i : Int) < 63)) = true := by simp; omega
  have e : IntKind.wrap .u64 (i : Int) = (i : Int) := wrap_u64 (by omega) (by omega)
  rw [c, e, ck_ok (by omega)]
  simp only [cond_true, Option.bind_some, bit_mask hw hi]

/-- one gate, by the inputs and what those ahead of it are -/
def gval (env : Nat → Bool) (v : List Bool) (g : Int × Int × Int) : Bool :=
  if g.1 = 1 then env g.2.1.toNat else if g.1 = 2 then !(v.getD g.2.1.toNat false)
  else if g.1 = 3 then v.getD g.2.1.toNat false && v.getD g.2.2.toNat false else v.getD g.2.1.toNat false || v.getD g.2.2.toNat false
def gall (env : Nat → Bool) : List (Int × Int × Int) → List Bool := fun l => l.foldl (fun v g => v ++ [gval env v g]) []
theorem gall_snoc (env : Nat → Bool) (l : List (Int × Int × Int)) (g : Int × Int × Int) : gall env (l ++ [g]) = gall env l ++ [gval env (gall env l) g] := by
  unfold gall
  rw [List.foldl_append]; rfl
theorem gall_len (env : Nat → Bool) (l : List (Int × Int × Int)) : (gall env l).length = l.length := by
  induction l using snoc_ind with
  | h0 => rfl
  | h1 l g ih => rw [gall_snoc]; simp [ih]
theorem gall_take (env : Nat → Bool) (l : List (Int × Int × Int)) : ∀ n, (gall env l).take n = gall env (l.take n) := by
  induction l using snoc_ind with
  | h0 => intro n; simp [gall]
  | h1 l g ih =>
    intro n
    rw [gall_snoc]
    rcases Nat.lt_or_ge l.length n with h | h
    · rw [List.take_of_length_le (by simp [gall_len]; omega), List.take_of_length_le (by simp; omega), gall_snoc]
    · rw [List.take_append_of_le_length (by rw [gall_len]; exact h), List.take_append_of_le_length h]
      exact ih n
theorem gall_get (env : Nat → Bool) {l : List (Int × Int × Int)} {n : Nat} {g : Int × Int × Int} (h : l[n]? = some g) : (gall env l)[n]? = some (gval env ((gall env l).take n) g) := by
  have hn := (List.getElem?_eq_some_iff.1 h).1
  have e1 : l.take (n + 1) = l.take n ++ [g] := by
    rw [List.take_add_one, h]; rfl
  have e2 : (gall env l)[n]? = ((gall env l).take (n + 1))[n]? := by rw [List.getElem?_take_of_lt (by omega)]
  rw [e2, gall_take, e1, gall_snoc, List.getElem?_append_right (by rw [gall_len]; simp; omega), gall_len]
  have : n - (l.take n).length = 0 := by simp; omega
  rw [this, gall_take]; rfl
theorem getD_take {v : List Bool} {n k : Nat} (h : k < n) : (v.take n).getD k false = v.getD k false := by
  rw [List.getD_eq_getElem?_getD, List.getD_eq_getElem?_getD, List.getElem?_take_of_lt h]
theorem gval_take {a0 : Int} {l : List (Int × Int × Int)} (hok : GatesOk a0 l) (env : Nat → Bool) (v : List Bool) {n : Nat} {g : Int × Int × Int} (h : l[n]? = some g) : gval env (v.take n) g = gval env v g := by
  obtain ⟨h1, h2, h3, h4⟩ := hok n g h
  unfold gval
  split
  · rfl
  · rename_i k1
    have e1 : (v.take n).getD g.2.1.toNat false = v.getD g.2.1.toNat false := getD_take (by have := h3 k1; omega)
    split
    · rw [e1]
    · rename_i k2
      have e2 : (v.take n).getD g.2.2.toNat false = v.getD g.2.2.toNat false := getD_take (by have := h4 (by omega); omega)
      split
      · rw [e1, e2]
      · rw [e1, e2]
theorem gall_get' {a0 : Int} {l : List (Int × Int × Int)} (hok : GatesOk a0 l) (env : Nat → Bool) {n : Nat} {g : Int × Int × Int} (h : l[n]? = some g) : (gall env l)[n]? = some (gval env (gall env l) g) := by
  rw [gall_get env h, gval_take hok env _ h]
theorem getD_idx {x : List Bool} {i : Int} (h0 : 0 ≤ i) (h : i < (x.length : Int)) : idx x i = some (x.getD i.toNat false) := by
  obtain ⟨b, hb, hb2⟩ := idx_get h0 h
  rw [hb, List.getD_eq_getElem?_getD, hb2]; rfl
/-- what the document's circuit values are -/
theorem gates_ref {a0 : Int} {l : List (Int × Int × Int)} (hok : GatesOk a0 l) (ha : a0 ≤ 63) (hl : l.length ≤ 4294967296) (w : Nat) (hw : w < 2 ^ 63) : ref_Gates l (w : Int) = some (gall w.testBit l) := by
  unfold ref_Gates
  rw [ck_ok (by omega)]
  have hG := gall_len w.testBit l
  obtain ⟨y, hy, rfl⟩ := forL_inv (body := ref_Gates_b7 (w : Int)) (fin := fun x => x) (l := l) (x := List.replicate (Int.toNat (l.length : Int)) false)
    (fun n x => x.length = l.length ∧ ∀ j, j < n → x[j]? = (gall w.testBit l)[j]?) (fun y => y = gall w.testBit l) ⟨by simp, fun j hj => by omega⟩
    (by
      rintro n g x hg ⟨hx, hv⟩
      have hn := (List.getElem?_eq_some_iff.1 hg).1
      obtain ⟨h1, h2, h3, h4⟩ := hok n g hg
      obtain ⟨old, ho, _⟩ := idx_get (xs := x) (i := (n : Int)) (by omega) (by omega)
      have same : ∀ k, k < n → x.getD k false = (gall w.testBit l).getD k false := by
        intro k hk
        rw [List.getD_eq_getElem?_getD, List.getD_eq_getElem?_getD, hv k hk]
      have step : ref_Gates_b7 (w : Int) (n : Int) g x = some (.next (x.set n (gval w.testBit (gall w.testBit l) g))) := by
        unfold ref_Gates_b7 ref_Gates_g5 gval
        by_cases k1 : g.1 = 1
        · obtain ⟨i, hi⟩ := Int.eq_ofNat_of_zero_le (h2 k1).1
          have := (h2 k1).2
          simp [k1, hi, bit_eq hw (show i < 63 by omega), ho]
        · have b1 : (g.1 == 1) = false := by simp [k1]
          have a1 := h3 k1
          have e1 : idx x g.2.1 = some ((gall w.testBit l).getD g.2.1.toNat false) := by
            rw [getD_idx a1.1 (by omega), same _ (by omega)]
          rw [b1, if_neg k1]
          by_cases k2 : g.1 = 2
          · simp [k2, e1, ho]
          · have b2 : (g.1 == 2) = false := by simp [k2]
            have a2 := h4 (by omega)
            have e2 : idx x g.2.2 = some ((gall w.testBit l).getD g.2.2.toNat false) := by
              rw [getD_idx a2.1 (by omega), same _ (by omega)]
            rw [b2, if_neg k2]
            rw [e1, e2, ho]
            generalize (gall w.testBit l).getD g.2.1.toNat false = p
            generalize (gall w.testBit l).getD g.2.2.toNat false = q
            by_cases k3 : g.1 = 3
            · cases p <;> cases q <;> simp [k3]
            · have k4 : g.1 = 4 := by omega
              cases p <;> cases q <;> simp [k4]
      refine ⟨_, step, by simpa using hx, ?_⟩
      intro j hj
      rcases Nat.lt_or_ge j n with hjn | hjn
      · rw [List.getElem?_set_ne (by omega)]; exact hv j hjn
      · have : j = n := by omega
        subst this
        rw [List.getElem?_set_self (by omega), gall_get' hok _ hg])
    (by
      rintro x ⟨hx, hv⟩
      apply List.ext_getElem?
      intro j
      rcases Nat.lt_or_ge j l.length with h | h
      · exact hv j h
      · rw [List.getElem?_eq_none (by omega), List.getElem?_eq_none (by omega)])
  rw [hy]; rfl

/-- what the program's circuit values are -/
theorem gates_all {a0 : Int} {l : List (Int × Int × Int)} (hok : GatesOk a0 l) (hl : l.length ≤ 4294967296) (have_ : List Bool) (ha : a0 ≤ (have_.length : Int)) : gate_All l have_ = some (gall (fun i => have_.getD i false) l) := by
  unfold gate_All
  have hG := gall_len (fun i => have_.getD i false) l
  obtain ⟨y, hy, rfl⟩ := forL_inv (body := gate_All_b13 have_) (fin := fun x => x) (l := l) (x := []) (fun n x => x = (gall (fun i => have_.getD i false) l).take n) (fun y => y = gall (fun i => have_.getD i false) l) (by simp)
    (by
      rintro n g x hg rfl
      have hn := (List.getElem?_eq_some_iff.1 hg).1
      obtain ⟨h1, h2, h3, h4⟩ := hok n g hg
      have hlen : ((gall (fun i => have_.getD i false) l).take n).length = n := by rw [List.length_take]; omega
      have hG2 := gall_get (fun i => have_.getD i false) hg
      have step : gate_All_g11 have_ ((gall (fun i => have_.getD i false) l).take n) g = some (gval (fun i => have_.getD i false) ((gall (fun i => have_.getD i false) l).take n) g) := by
        unfold gate_All_g11 gval
        obtain ⟨x, hx⟩ : ∃ x, x = (gall (fun i => have_.getD i false) l).take n := ⟨_, rfl⟩
        rw [← hx] at hlen ⊢
        by_cases k1 : g.1 = 1
        · have := h2 k1
          have e0 : idx have_ g.2.1 = some (have_.getD g.2.1.toNat false) := getD_idx (by omega) (by omega)
          simp [k1, e0]
        · have b1 : (g.1 == 1) = false := by simp [k1]
          have a1 := h3 k1
          have e1 : idx x g.2.1 = some (x.getD g.2.1.toNat false) := getD_idx a1.1 (by omega)
          rw [b1, if_neg k1]
          by_cases k2 : g.1 = 2
          · simp [k2, e1]
          · have b2 : (g.1 == 2) = false := by simp [k2]
            have a2 := h4 (by omega)
            have e2 : idx x g.2.2 = some (x.getD g.2.2.toNat false) := getD_idx a2.1 (by omega)
            rw [b2, if_neg k2, e1, e2]
            generalize x.getD g.2.1.toNat false = p
            generalize x.getD g.2.2.toNat false = q
            by_cases k3 : g.1 = 3
            · cases p <;> cases q <;> simp [k3]
            · have k4 : g.1 = 4 := by omega
              cases p <;> cases q <;> simp [k4]
      refine ⟨.next ((gall (fun i => have_.getD i false) l).take (n + 1)), ?_, rfl⟩
      unfold gate_All_b13
      rw [step, hlen, ck_ok (by omega)]
      simp only [Option.bind_some]
      rw [List.take_add_one, hG2]; rfl)
    (by rintro x rfl; rw [List.take_of_length_le (by omega)])
  rw [hy]; rfl

theorem word_loop : ∀ (l : List Bool) (i : Nat) (x : Nat), i + l.length ≤ 60 → x < 2 ^ i → forL ref_Word_b5 (fun x => x) l (i : Int) (x : Int) = some ((x + 2 ^ i * wd l : Nat) : Int)
  | [], i, x, hi, hx => by simp [forL, wd]
  | b :: l, i, x, hi, hx => by
    simp only [List.length_cons] at hi
    have hp : 2 ^ i ≤ 2 ^ 60 := Nat.pow_le_pow_right (by omega) (by omega)
    have hs : ref_Word_b5 (i : Int) b (x : Int) = some (.next ((x + 2 ^ i * b.toNat : Nat) : Int)) := by
      unfold ref_Word_b5
      have e : IntKind.wrap .u64 (i : Int) = (i : Int) := wrap_u64 (by omega) (by omega)
      rw [e, ck_ok (by omega), bShl_one (by omega)]
      cases b with
      | true =>
        have : w64 ((x : Int) + ((2 ^ i : Nat) : Int)) = ((x + 2 ^ i * 1 : Nat) : Int) := by
          generalize 2 ^ i = p at *
          rw [w64_id (by omega) (by omega)]; omega
        simp only [cond_true, Option.bind_some, this]; rfl
      | false => simp
    have hb : b.toNat ≤ 1 := Bool.toNat_le b
    have hlt : x + 2 ^ i * b.toNat < 2 ^ (i + 1) := by
      have : 2 ^ i * b.toNat ≤ 2 ^ i * 1 := Nat.mul_le_mul_left _ hb
      rw [Nat.pow_succ]; omega
    simp only [forL, hs]
    have := word_loop l (i + 1) (x + 2 ^ i * b.toNat) (by omega) hlt
    rw [Int.natCast_add, Int.natCast_one] at this
    rw [this]
    congr 2
    simp only [wd]
    rw [Nat.mul_add, Nat.pow_succ, Nat.mul_assoc]
    omega
theorem word_eq (l : List Bool) (h : l.length ≤ 60) : ref_Word l = some ((wd l : Nat) : Int) := by
  unfold ref_Word
  have := word_loop l 0 0 (by omega) (by simp)
  simp only [Int.natCast_zero, Nat.pow_zero, Nat.one_mul, Nat.zero_add] at this
  rw [this]; rfl

theorem GateValues_true (a0 : Int) (a1 : List (Int × (Int × Int))) (a2 : List Bool) (f0 : Fits (.int .i64) a0) (f1 : Fits (.slice (.pair (.int .i64) (.pair (.int .i64) (.int .i64)))) a1) (f2 : Fits (.slice .bool) a2) : law_GateValues a0 a1 a2 = some true := by
  unfold law_GateValues gate_Value
  rw [gc_check, gc_gatecheck]
  simp only [Option.bind_some]
  by_cases hz : gcAll a0 a1 = 0
  · obtain ⟨⟨hA, hB⟩, hok⟩ := gc_valid hz
    rw [hz]
    by_cases hl : (a2.length : Int) = a0
    · have e1 : ((a2.length : Int) != a0) = false := by simp [hl]
      have e2 : (fun i => a2.getD i false) = (wd a2).testBit := by funext i; rw [wd_bit]
      have hG := gall_len (wd a2).testBit a1
      have hw : wd a2 < 2 ^ 63 := Nat.lt_of_lt_of_le (wd_lt a2) (Nat.pow_le_pow_right (by omega) (by omega))
      obtain ⟨n, hn⟩ : ∃ n, a1.length = n + 1 := ⟨a1.length - 1, by omega⟩
      have e3 : w64 ((a1.length : Int) - 1) = (n : Int) := by rw [hn, w64_id (by omega) (by omega)]; omega
      obtain ⟨b, hb, _⟩ := idx_get (xs := gall (wd a2).testBit a1) (i := (n : Int)) (by omega) (by omega)
      rw [gates_all hok (by omega) a2 (by omega), e2, e3]
      unfold law_GateValues_g1
      rw [word_eq a2 (by omega)]
      simp only [Option.bind_some]
      rw [gates_ref hok (by omega) (by omega) _ hw, e3]
      simp [e1, hb]
    · have e1 : ((a2.length : Int) != a0) = true := by simp [hl]
      simp [e1]
  · have e0 : (gcAll a0 a1 != 0) = true := by simp [hz]
    have e1 : (gcAll a0 a1 == 0) = false := by simp [hz]
    simp [e0, e1]

end Go.Proofs.Ytmemlgpcmefpfaa.gateValues
namespace Go.Proofs.Ytmemlgpcmefpfaa.gateValues
open Go.ChangeShapes Go.WideShapes Go.ChangeAt Go.RowKit
open Go.ChangeMaps (open_string shut_string)
theorem own : ownKnob Try.prog.godebug = none := by kernel_rfl
theorem laidOut : laidOutB Try.prog = true := by kernel_rfl
theorem lifted (os : Os) (started : os.Started) (H : Type) (enc : TypeId × Value → H) :
    ReturnsInHanded {} Try.checked os 5 .any (Rows.gateValuesSpec.pre6 enc Try.prog Try.f5 Rows.gateValuesRow.domain false) (Rows.gateValuesSpec.post enc Try.prog Try.f5 false true false false) := by
  refine returnsInHanded_of_change (C := Try.checked) own started (by kernel_rfl) Try.func5
    (ChangeSpec.witness6 (enc := enc) (C := Try.checked) false ⟨#[], #[.int .i64 0, .slice none 0 0, .slice none 0 0], []⟩ 8 (by kernel_rfl) (by kernel_rfl) (by kernel_rfl) (by kernel_rfl)) ?_
  intro W base args ds gs before hval0 hW hcnd _
  have hval : ∀ (j : Nat) t v, Try.f5.params[j]? = some t → args[j]? = some v → Value.okWide Try.prog W .any base t v := hval0
  have hW' := hW
  obtain ⟨p, q, hA0, hV, rfl, hfz, hnd⟩ := hW
  have hA : DataW.TrodAll enc Try.prog W 0 (fun _ => true) true Try.f5.params.toList args.toList ds p := hA0
  rw [Try.params5] at hA hval
  obtain ⟨v0, vs0, d0, ds0, p0, q0, hargs, rfl, rfl, h0, r0⟩ := trodAll_cons hA
  obtain ⟨v1, vs1, d1, ds1, p1, q1, rfl, rfl, rfl, h1, r1⟩ := trodAll_cons r0
  obtain ⟨v2, vs2, d2, ds2, p2, q2, rfl, rfl, rfl, h2, r2⟩ := trodAll_cons r1
  obtain ⟨rfl, rfl, rfl⟩ := trodAll_nil r2
  obtain rfl : args = #[v0, v1, v2] := by cases args; simp_all
  obtain ⟨rfl, rfl⟩ := trodVars_none hV
  obtain ⟨x0, f0, k0⟩ := Go.Sl.read_arg (u := (.int .i64)) (by kernel_rfl) (by kernel_rfl) (hval 0 3 v0 rfl rfl) h0
  have lt0 : ∀ x ∈ p0, x.block < W.heap.size := by obtain ⟨m, hm⟩ := h0; exact DataW.trod_lt m _ _ _ hm
  obtain ⟨x1, f1, k1⟩ := Go.Sl.read_arg (u := (.slice (.pair (.int .i64) (.pair (.int .i64) (.int .i64))))) (by kernel_rfl) (by kernel_rfl) (hval 1 22 v1 rfl rfl) h1
  have lt1 : ∀ x ∈ p1, x.block < W.heap.size := by obtain ⟨m, hm⟩ := h1; exact DataW.trod_lt m _ _ _ hm
  obtain ⟨x2, f2, k2⟩ := Go.Sl.read_arg (u := (.slice .bool)) (by kernel_rfl) (by kernel_rfl) (hval 2 30 v2 rfl rfl) h2
  have lt2 : ∀ x ∈ p2, x.block < W.heap.size := by obtain ⟨m, hm⟩ := h2; exact DataW.trod_lt m _ _ _ hm
  clear hA0 hval0
  have hm := GateValues_true x0 x1 x2 f0 f1 f2
  refine (Go.Sl.law_of (vs := [v0, v1, v2]) (law_GateValues_ok hm) rfl (.cons (k0 _ _) (.cons (k1 _ _) (.cons (k2 _ _) .nil)))).mono fun e W' ⟨he, bel⟩ => ?_
  subst he
  exact ⟨_, rfl, _, _, _, [], _, [], hW', trodAll_mk1 (shut_bool Try.underlying4 _), (trodAll_cons_mk (Below.trod laidOut (by kernel_rfl) (of_decide_eq_true (by kernel_rfl)) h0 bel lt0) (trodAll_cons_mk (Below.trod laidOut (by kernel_rfl) (of_decide_eq_true (by kernel_rfl)) h1 bel lt1) (trodAll_cons_mk (Below.trod laidOut (by kernel_rfl) (of_decide_eq_true (by kernel_rfl)) h2 bel lt2) trodAll_mk0))), rfl, bel.frame _, fun h => by cases h⟩
theorem proved : Rows.GateValuesSaid :=
  OpenClaim.holds_of_wide 5 Try.f5 rfl rfl rfl rfl rfl rfl rfl ⟨rfl, rfl, rfl, rfl, rfl⟩ rfl rfl rfl rfl rfl (by kernel_rfl) Try.func5 (by kernel_rfl)
    (of_decide_eq_true (by kernel_rfl)) (by unfold Func.isWrapper; first | (rw [if_pos (by decide +kernel)]; kernel_rfl) | (rw [if_neg (by decide +kernel)]; exact ⟨rfl, rfl⟩))
    (fun os started H enc _ => lifted os started H enc)
#print axioms proved
end Go.Proofs.Ytmemlgpcmefpfaa.gateValues
