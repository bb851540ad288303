/- For any circuit wide.Build returns orders that make a round just if it is so, within the stated length: WideBuilds returns true and changes nothing; no conditions. -/
import Derived.Test.YthjdegeajfhakaaRows
import Derived.WalkKit
import Derived.ProofKit
import Derived.OpenShut
import Derived.ShutString
import Derived.ChangeOld
import Derived.Below
import Derived.Test.YthjdegeajfhakaaWideBuildsM2
set_option linter.all false
set_option maxRecDepth 100000
namespace Go.Proofs.Ythjdegeajfhakaa.wideBuilds
open Go Go.Sl

theorem bit_eq {w i : Nat} (hw : w < 2 ^ 63) (hi : i < 63) : ref_Bit (w : Int) (i : Int) = some (w.testBit i) := by
  unfold ref_Bit
  have c : (decide ((i : Int) ≥ 0) && decide ((i : Int) < 63)) = true := by simp; omega
  have e : IntKind.wrap .u64 (i : Int) = (i : Int) := wrap_u64 (by omega) (by omega)
  rw [c, e, ck_ok (by omega)]
  simp only [cond_true, Option.bind_some, bit_mask hw hi]

theorem within_eq (a b c : Int) : ref_Within a b c = some (decide (a ≤ b ∧ b ≤ c)) := by
  unfold ref_Within
  rw [Bool.decide_and]

theorem inside1 (n v : Int) : ref_Inside n [v] = some (decide (0 ≤ v ∧ v < n)) := by
  unfold ref_Inside
  rw [forL_ex (p := fun v => decide (v < 0) || decide (v ≥ n)) (y := Esc.ret false) (fun i a _ => by unfold ref_Inside_b1; cases (decide (a < 0) || decide (a ≥ n)) <;> rfl)]
  by_cases h : 0 ≤ v ∧ v < n
  · have : (decide (v < 0) || decide (v ≥ n)) = false := by simp only [Bool.or_eq_false_iff, decide_eq_false_iff_not]; omega
    simp [this, h]
  · have : (decide (v < 0) || decide (v ≥ n)) = true := by simp only [Bool.or_eq_true, decide_eq_true_eq]; omega
    simp [this, h]

def gc (a0 : Int) (n : Nat) (v : Int × Int × Int) : Option Int :=
  bif !decide (1 ≤ v.1 ∧ v.1 ≤ 4) then some 6 else bif (v.1 == 1) && !decide (0 ≤ v.2.1 ∧ v.2.1 < a0) then some 4
  else bif (!(v.1 == 1) && !decide (0 ≤ v.2.1 ∧ v.2.1 < n)) || (decide (v.1 ≥ 3) && !decide (0 ≤ v.2.2 ∧ v.2.2 < n)) then some 2 else none
theorem gc_body (a0 : Int) (n : Nat) (v : Int × Int × Int) : ref_GatesCheck_b10 a0 n v () = some (said Esc.ret (gc a0 n v)) := by
  unfold ref_GatesCheck_b10 ref_GatesCheck_g7 gc
  rw [within_eq, inside1, inside1, inside1]
  simp only [bne]
  generalize decide (1 ≤ v.1 ∧ v.1 ≤ 4) = c1
  generalize decide (0 ≤ v.2.1 ∧ v.2.1 < a0) = c2
  generalize decide (0 ≤ v.2.1 ∧ v.2.1 < (n : Int)) = c3
  generalize decide (0 ≤ v.2.2 ∧ v.2.2 < (n : Int)) = c4
  generalize (v.1 == 1) = c5
  generalize decide (v.1 ≥ 3) = c6
  cases c1 <;> cases c2 <;> cases c3 <;> cases c4 <;> cases c5 <;> cases c6 <;> rfl
theorem gc_pos {a0 : Int} {n : Nat} {v : Int × Int × Int} {e : Int} (h : gc a0 n v = some e) : e ≠ 0 := by
  unfold gc at h
  revert h
  generalize (!decide (1 ≤ v.1 ∧ v.1 ≤ 4)) = c1
  generalize ((v.1 == 1) && !decide (0 ≤ v.2.1 ∧ v.2.1 < a0)) = c2
  generalize ((!(v.1 == 1) && !decide (0 ≤ v.2.1 ∧ v.2.1 < (n : Int))) || (decide (v.1 ≥ 3) && !decide (0 ≤ v.2.2 ∧ v.2.2 < (n : Int)))) = c3
  cases c1 <;> cases c2 <;> cases c3 <;> simp <;> rintro rfl <;> decide
theorem gc_ref (a0 : Int) (l : List (Int × Int × Int)) : ref_GatesCheck a0 l = some ((firstOf (gc a0) 0 l).getD 0) := by
  unfold ref_GatesCheck
  rw [forL_findI (f := gc a0) (g := Esc.ret) (fun n a _ => gc_body a0 n a)]
  cases firstOf (gc a0) 0 l <;> rfl
def GatesOk (a0 : Int) (l : List (Int × Int × Int)) : Prop :=
  ∀ (j : Nat) (g : Int × Int × Int), l[j]? = some g → (1 ≤ g.1 ∧ g.1 ≤ 4) ∧ (g.1 = 1 → 0 ≤ g.2.1 ∧ g.2.1 < a0) ∧ (g.1 ≠ 1 → 0 ≤ g.2.1 ∧ g.2.1 < j) ∧ (3 ≤ g.1 → 0 ≤ g.2.2 ∧ g.2.2 < j)
theorem gc_ok {a0 : Int} {l : List (Int × Int × Int)} (h : (firstOf (gc a0) 0 l).getD 0 = 0) : GatesOk a0 l := by
  intro j g hg
  cases hf : firstOf (gc a0) 0 l with
  | some e =>
    rw [hf] at h
    obtain ⟨k, v, _, hv⟩ := firstOf_some hf
    exact (gc_pos hv h).elim
  | none =>
    obtain ⟨h1, h2⟩ := bif_none (firstOf_none hf hg)
    obtain ⟨h2, h3⟩ := bif_none h2
    obtain ⟨h3, _⟩ := bif_none h3
    simp only [Bool.not_eq_false', Bool.and_eq_false_iff, Bool.or_eq_false_iff, decide_eq_true_eq, decide_eq_false_iff_not, beq_eq_false_iff_ne, beq_iff_eq, ne_eq] at h1 h2 h3
    refine ⟨by omega, by omega, by omega, by omega⟩
theorem gc_of {a0 : Int} {l : List (Int × Int × Int)} (h : GatesOk a0 l) : ref_GatesCheck a0 l = some 0 := by
  rw [gc_ref]
  cases hf : firstOf (gc a0) 0 l with
  | none => rfl
  | some e =>
    obtain ⟨k, v, hk, hv⟩ := firstOf_some hf
    obtain ⟨h1, h2, h3, h4⟩ := h k v hk
    have c1 : (!decide (1 ≤ v.1 ∧ v.1 ≤ 4)) = false := by rw [decide_eq_true h1]; rfl
    have c2 : ((v.1 == 1) && !decide (0 ≤ v.2.1 ∧ v.2.1 < a0)) = false := by
      simp only [Bool.not_eq_false', Bool.and_eq_false_iff, decide_eq_true_eq, beq_eq_false_iff_ne, ne_eq]; omega
    have c3 : ((!(v.1 == 1) && !decide (0 ≤ v.2.1 ∧ v.2.1 < (k : Int))) || (decide (v.1 ≥ 3) && !decide (0 ≤ v.2.2 ∧ v.2.2 < (k : Int)))) = false := by
      simp only [Bool.not_eq_false', Bool.and_eq_false_iff, Bool.or_eq_false_iff, decide_eq_true_eq, decide_eq_false_iff_not, beq_iff_eq]; omega
    unfold gc at hv
    rw [c1, c2, c3] at hv
    cases hv

def gcAll (a0 : Int) (l : List (Int × Int × Int)) : Int :=
  if (0 ≤ a0 ∧ a0 ≤ 5) ∧ 1 ≤ (l.length : Int) ∧ (l.length : Int) ≤ 40 then (firstOf (gc a0) 0 l).getD 0 else 1
theorem gc_gatecheck (a0 : Int) (l : List (Int × Int × Int)) : ref_GateCheck a0 l = some (gcAll a0 l) := by
  unfold ref_GateCheck ref_GateCheck_g1 gcAll
  rw [within_eq, within_eq, gc_ref]
  by_cases h1 : 0 ≤ a0 ∧ a0 ≤ 5
  · by_cases h2 : 1 ≤ (l.length : Int) ∧ (l.length : Int) ≤ 40
    · rw [if_pos ⟨h1, h2⟩, decide_eq_true h1, decide_eq_true h2]; rfl
    · rw [if_neg (fun h => h2 h.2), decide_eq_true h1, decide_eq_false h2]; rfl
  · rw [if_neg (fun h => h1 h.1), decide_eq_false h1]; rfl
theorem gc_valid {a0 : Int} {l : List (Int × Int × Int)} (h : gcAll a0 l = 0) : ((0 ≤ a0 ∧ a0 ≤ 5) ∧ 1 ≤ (l.length : Int) ∧ (l.length : Int) ≤ 40) ∧ GatesOk a0 l := by
  unfold gcAll at h
  split at h
  · rename_i hc
    exact ⟨hc, gc_ok h⟩
  · omega
theorem gc_wrong_body (a0 : Int) (n : Nat) (v : Int × Int × Int) : gate_Wrong_b43 a0 n v () = some (said Esc.ret (gc a0 n v)) := by
  have ht : ∀ u : Int, gate_Wrong_1 u (n : Int) = some (decide (0 ≤ u ∧ u < (n : Int))) := by
    intro u
    unfold gate_Wrong_1
    rw [Bool.decide_and]
  unfold gate_Wrong_b43 gate_Wrong_g39 gc
  rw [ht, ht]
  have e : (bif decide (v.2.1 < (0 : Int)) then (some true) else (some (decide (v.2.1 ≥ a0)))) = some (!decide (0 ≤ v.2.1 ∧ v.2.1 < a0)) := by
    by_cases h1 : v.2.1 < 0
    · simp [h1]
    · by_cases h2 : v.2.1 < a0
      · simp [h1, h2, Int.not_lt.1 h1]
      · simp [h1, h2]; omega
  have e1 : (bif decide (v.1 < (1 : Int)) then (some true) else (some (decide (v.1 > (4 : Int))))) = some (!decide (1 ≤ v.1 ∧ v.1 ≤ 4)) := by
    by_cases h1 : 1 ≤ v.1 ∧ v.1 ≤ 4
    · rw [decide_eq_true h1, decide_eq_false (by omega), decide_eq_false (by omega)]; rfl
    · rw [decide_eq_false h1]
      by_cases h2 : v.1 < 1
      · rw [decide_eq_true h2]; rfl
      · rw [decide_eq_false h2, decide_eq_true (by omega)]; rfl
  rw [e, e1]
  by_cases h1 : 1 ≤ v.1 ∧ v.1 ≤ 4
  · rw [decide_eq_true h1]
    have k2 : decide (v.1 > 1) = !(v.1 == 1) := by
      rw [beq_dec, not_dec]; exact decide_eq_decide.2 (by omega)
    have k3 : decide (v.1 > 2) = decide (v.1 ≥ 3) := decide_eq_decide.2 (by omega)
    rw [k2, k3]
    generalize decide (0 ≤ v.2.1 ∧ v.2.1 < a0) = c2
    generalize decide (0 ≤ v.2.1 ∧ v.2.1 < (n : Int)) = c3
    generalize decide (0 ≤ v.2.2 ∧ v.2.2 < (n : Int)) = c4
    generalize (v.1 == 1) = c5
    generalize decide (v.1 ≥ 3) = c6
    cases c2 <;> cases c3 <;> cases c4 <;> cases c5 <;> cases c6 <;> rfl
  · rw [decide_eq_false h1]; rfl
theorem gc_wrong (a0 : Int) (l : List (Int × Int × Int)) : gate_Wrong a0 l = some ((firstOf (gc a0) 0 l).getD 0) := by
  unfold gate_Wrong
  rw [forL_findI (f := gc a0) (g := Esc.ret) (fun n a _ => gc_wrong_body a0 n a)]
  cases firstOf (gc a0) 0 l <;> rfl
theorem gc_check (a0 : Int) (l : List (Int × Int × Int)) : gate_Check a0 l = some (gcAll a0 l) := by
  unfold gate_Check gcAll
  rw [gc_wrong]
  by_cases h : (0 ≤ a0 ∧ a0 ≤ 5) ∧ 1 ≤ (l.length : Int) ∧ (l.length : Int) ≤ 40
  · have hb : ((((decide (a0 < (0 : Int))) || (decide (a0 > (5 : Int)))) || (decide ((List.length l : Int) < (1 : Int)))) || (decide ((List.length l : Int) > (40 : Int)))) = false := by
      simp only [Bool.or_eq_false_iff, decide_eq_false_iff_not]; omega
    rw [bif_f hb, if_pos h]; rfl
  · have hb : ((((decide (a0 < (0 : Int))) || (decide (a0 > (5 : Int)))) || (decide ((List.length l : Int) < (1 : Int)))) || (decide ((List.length l : Int) > (40 : Int)))) = true := by
      simp only [Bool.or_eq_true, decide_eq_true_eq]; omega
    rw [bif_t hb, if_neg h]

/-- one gate, by the inputs and what those ahead of it are -/
def gval (env : Nat → Bool) (v : List Bool) (g : Int × Int × Int) : Bool :=
  if g.1 = 1 then env g.2.1.toNat else if g.1 = 2 then !(v.getD g.2.1.toNat false)
  else if g.1 = 3 then v.getD g.2.1.toNat false && v.getD g.2.2.toNat false else v.getD g.2.1.toNat false || v.getD g.2.2.toNat false
def gall (env : Nat → Bool) : List (Int × Int × Int) → List Bool := fun l => l.foldl (fun v g => v ++ [gval env v g]) []
theorem gall_snoc (env : Nat → Bool) (l : List (Int × Int × Int)) (g : Int × Int × Int) : gall env (l ++ [g]) = gall env l ++ [gval env (gall env l) g] := by
  unfold gall
  rw [List.foldl_append]; rfl
theorem gall_len (env : Nat → Bool) (l : List (Int × Int × Int)) : (gall env l).length = l.length := by
  induction l using snoc_ind with
  | h0 => rfl
  | h1 l g ih => rw [gall_snoc]; simp [ih]
theorem gall_take (env : Nat → Bool) (l : List (Int × Int × Int)) : ∀ n, (gall env l).take n = gall env (l.take n) := by
  induction l using snoc_ind with
  | h0 => intro n; simp [gall]
  | h1 l g ih =>
    intro n
    rw [gall_snoc]
    rcases Nat.lt_or_ge l.length n with h | h
    · rw [List.take_of_length_le (by simp [gall_len]; omega), List.take_of_length_le (by simp; omega), gall_snoc]
    · rw [List.take_append_of_le_length (by rw [gall_len]; exact h), List.take_append_of_le_length h]
      exact ih n
theorem gall_get (env : Nat → Bool) {l : List (Int × Int × Int)} {n : Nat} {g : Int × Int × Int} (h : l[n]? = some g) : (gall env l)[n]? = some (gval env ((gall env l).take n) g) := by
  have hn := (List.getElem?_eq_some_iff.1 h).1
  have e1 : l.take (n + 1) = l.take n ++ [g] := by
    rw [List.take_add_one, h]; rfl
  have e2 : (gall env l)[n]? = ((gall env l).take (n + 1))[n]? := by rw [List.getElem?_take_of_lt (by omega)]
  rw [e2, gall_take, e1, gall_snoc, List.getElem?_append_right (by rw [gall_len]; simp; omega), gall_len]
  have : n - (l.take n).length = 0 := by simp; omega
  rw [this, gall_take]; rfl
theorem getD_take {v : List Bool} {n k : Nat} (h : k < n) : (v.take n).getD k false = v.getD k false := by
  rw [List.getD_eq_getElem?_getD, List.getD_eq_getElem?_getD, List.getElem?_take_of_lt h]
theorem gval_take {a0 : Int} {l : List (Int × Int × Int)} (hok : GatesOk a0 l) (env : Nat → Bool) (v : List Bool) {n : Nat} {g : Int × Int × Int} (h : l[n]? = some g) : gval env (v.take n) g = gval env v g := by
  obtain ⟨h1, h2, h3, h4⟩ := hok n g h
  unfold gval
  split
  · rfl
  · rename_i k1
    have e1 : (v.take n).getD g.2.1.toNat false = v.getD g.2.1.toNat false := getD_take (by have := h3 k1; omega)
    split
    · rw [e1]
    · rename_i k2
      have e2 : (v.take n).getD g.2.2.toNat false = v.getD g.2.2.toNat false := getD_take (by have := h4 (by omega); omega)
      split
      · rw [e1, e2]
      · rw [e1, e2]
theorem gall_get' {a0 : Int} {l : List (Int × Int × Int)} (hok : GatesOk a0 l) (env : Nat → Bool) {n : Nat} {g : Int × Int × Int} (h : l[n]? = some g) : (gall env l)[n]? = some (gval env (gall env l) g) := by
  rw [gall_get env h, gval_take hok env _ h]
theorem getD_idx {x : List Bool} {i : Int} (h0 : 0 ≤ i) (h : i < (x.length : Int)) : idx x i = some (x.getD i.toNat false) := by
  obtain ⟨b, hb, hb2⟩ := idx_get h0 h
  rw [hb, List.getD_eq_getElem?_getD, hb2]; rfl
/-- what the document's circuit values are -/
theorem gates_ref {a0 : Int} {l : List (Int × Int × Int)} (hok : GatesOk a0 l) (ha : a0 ≤ 63) (hl : l.length ≤ 4294967296) (w : Nat) (hw : w < 2 ^ 63) : ref_Gates l (w : Int) = some (gall w.testBit l) := by
  unfold ref_Gates
  rw [ck_ok (by omega)]
  have hG := gall_len w.testBit l
  obtain ⟨y, hy, rfl⟩ := forL_inv (body := ref_Gates_b7 (w : Int)) (fin := fun x => x) (l := l) (x := List.replicate (Int.toNat (l.length : Int)) false)
    (fun n x => x.length = l.length ∧ ∀ j, j < n → x[j]? = (gall w.testBit l)[j]?) (fun y => y = gall w.testBit l) ⟨by simp, fun j hj => by omega⟩
    (by
      rintro n g x hg ⟨hx, hv⟩
      have hn := (List.getElem?_eq_some_iff.1 hg).1
      obtain ⟨h1, h2, h3, h4⟩ := hok n g hg
      obtain ⟨old, ho, _⟩ := idx_get (xs := x) (i := (n : Int)) (by omega) (by omega)
      have same : ∀ k, k < n → x.getD k false = (gall w.testBit l).getD k false := by
        intro k hk
        rw [List.getD_eq_getElem?_getD, List.getD_eq_getElem?_getD, hv k hk]
      have step : ref_Gates_b7 (w : Int) (n : Int) g x = some (.next (x.set n (gval w.testBit (gall w.testBit l) g))) := by
        unfold ref_Gates_b7 ref_Gates_g5 gval
        by_cases k1 : g.1 = 1
        · obtain ⟨i, hi⟩ := Int.eq_ofNat_of_zero_le (h2 k1).1
          have := (h2 k1).2
          simp [k1, hi, bit_eq hw (show i < 63 by omega), ho]
        · have b1 : (g.1 == 1) = false := by simp [k1]
          have a1 := h3 k1
          have e1 : idx x g.2.1 = some ((gall w.testBit l).getD g.2.1.toNat false) := by
            rw [getD_idx a1.1 (by omega), same _ (by omega)]
          rw [b1, if_neg k1]
          by_cases k2 : g.1 = 2
          · simp [k2, e1, ho]
          · have b2 : (g.1 == 2) = false := by simp [k2]
            have a2 := h4 (by omega)
            have e2 : idx x g.2.2 = some ((gall w.testBit l).getD g.2.2.toNat false) := by
              rw [getD_idx a2.1 (by omega), same _ (by omega)]
            rw [b2, if_neg k2]
            rw [e1, e2, ho]
            generalize (gall w.testBit l).getD g.2.1.toNat false = p
            generalize (gall w.testBit l).getD g.2.2.toNat false = q
            by_cases k3 : g.1 = 3
            · cases p <;> cases q <;> simp [k3]
            · have k4 : g.1 = 4 := by omega
              cases p <;> cases q <;> simp [k4]
      refine ⟨_, step, by simpa using hx, ?_⟩
      intro j hj
      rcases Nat.lt_or_ge j n with hjn | hjn
      · rw [List.getElem?_set_ne (by omega)]; exact hv j hjn
      · have : j = n := by omega
        subst this
        rw [List.getElem?_set_self (by omega), gall_get' hok _ hg])
    (by
      rintro x ⟨hx, hv⟩
      apply List.ext_getElem?
      intro j
      rcases Nat.lt_or_ge j l.length with h | h
      · exact hv j h
      · rw [List.getElem?_eq_none (by omega), List.getElem?_eq_none (by omega)])
  rw [hy]; rfl

/-- how deep a gate is, by those ahead of it -/
def dval (v : List Int) (g : Int × Int × Int) : Int :=
  if g.1 = 1 then 0 else if g.1 = 2 then v.getD g.2.1.toNat 0 + 1 else imax (v.getD g.2.1.toNat 0 + 1) (v.getD g.2.2.toNat 0 + 1)
theorem getI_idx {x : List Int} {i : Int} (h0 : 0 ≤ i) (h : i < (x.length : Int)) : idx x i = some (x.getD i.toNat 0) := by
  obtain ⟨b, hb, hb2⟩ := idx_get h0 h
  rw [hb, List.getD_eq_getElem?_getD, hb2]; rfl
theorem deep_both {a0 : Int} {l : List (Int × Int × Int)} (hok : GatesOk a0 l) (hl : l.length ≤ 1000000) :
    ∃ D : List Int, D.length = l.length ∧ forL gate_Deep_b9 (fun x71 => x71) l 0 [] = some D ∧ ref_Deep l = some D ∧ (∀ (j : Nat) v, D[j]? = some v → 0 ≤ v ∧ v ≤ j) ∧ (∀ (j : Nat) g, l[j]? = some g → D[j]? = some (dval D g)) := by
  have hck : ck (0 ≤ (List.length l : Int) ∧ (List.length l : Int) = (List.length l : Int) ∧ (List.length l : Int) ≤ 4294967296) = some () := ck_ok (by omega)
  obtain ⟨y, y', h1, h2, rfl, h3, h4, h5⟩ := forL_rel (body := gate_Deep_b9) (body' := ref_Deep_b25) (fin := fun x => x) (fin' := fun x => x) (l := l) (l' := l) (x := []) (x' := List.replicate (Int.toNat (List.length l : Int)) 0)
    (fun n x y => x.length = n ∧ y.length = l.length ∧ (∀ j, j < n → x[j]? = y[j]?) ∧ (∀ j, n ≤ j → j < l.length → y[j]? = some 0) ∧ (∀ (j : Nat) v, x[j]? = some v → 0 ≤ v ∧ v ≤ j) ∧ (∀ (j : Nat) g, j < n → l[j]? = some g → x[j]? = some (dval (x.take j) g)))
    (fun x y => x = y ∧ x.length = l.length ∧ (∀ (j : Nat) v, x[j]? = some v → 0 ≤ v ∧ v ≤ j) ∧ (∀ (j : Nat) g, l[j]? = some g → x[j]? = some (dval (x.take j) g))) rfl
    ⟨rfl, by simp, fun j hj => by omega, fun j _ hj => by simp [hj], fun j v hv => by simp at hv, fun j g hj => by omega⟩
    (by
      rintro n g g' x y hg hg' ⟨hx, hy, hxy, hy0, hb, hd⟩
      obtain rfl := Option.some.inj (hg.symm.trans hg')
      have hn := (List.getElem?_eq_some_iff.1 hg).1
      obtain ⟨h1, h2, h3, h4⟩ := hok n g hg
      have y0 := hy0 n (Nat.le_refl _) hn
      have iy0 : idx y (n : Int) = some 0 := by rw [idx_nat, y0]
      have get : ∀ k : Int, 0 ≤ k → k < n → idx x k = some (x.getD k.toNat 0) ∧ idx y k = some (x.getD k.toNat 0) ∧ 0 ≤ x.getD k.toNat 0 ∧ x.getD k.toNat 0 ≤ k.toNat := by
        intro k hk0 hk
        have e1 := getI_idx (x := x) hk0 (by omega)
        have e2 := getI_idx (x := y) hk0 (by omega)
        have e3 : y.getD k.toNat 0 = x.getD k.toNat 0 := by rw [List.getD_eq_getElem?_getD, List.getD_eq_getElem?_getD, hxy _ (by omega)]
        have e4 := hb k.toNat _ (idx_some e1).2.2
        exact ⟨e1, by rw [e2, e3], e4⟩
      have key : ∃ v, gate_Deep_b9 (n : Int) g x = some (.next (x ++ [v])) ∧ ref_Deep_b25 (n : Int) g y = some (.next (y.set n v)) ∧ 0 ≤ v ∧ v ≤ n ∧ v = dval x g := by
        have c1 : ck ((x.length : Int) + 1 ≤ 4294967296) = some () := ck_ok (by omega)
        unfold gate_Deep_b9 ref_Deep_b25 ref_Deep_g23 ref_Deep_g21 dval
        by_cases k1 : g.1 = 1
        · refine ⟨0, by simp [k1, c1], ?_, by omega, by omega, by simp [k1]⟩
          have : y.set n 0 = y := by
            obtain ⟨hlt, he⟩ := List.getElem?_eq_some_iff.1 y0
            rw [← he, List.set_getElem_self]
          simp [k1, this]
        · obtain ⟨p1, p2, p3, p4⟩ := get g.2.1 (h3 k1).1 (h3 k1).2
          have q1 := h3 k1
          have b1 : (g.1 == 1) = false := by simp [k1]
          have b2 : decide (g.1 > 1) = true := by simp; omega
          have ew : w64 (x.getD g.2.1.toNat 0 + 1) = x.getD g.2.1.toNat 0 + 1 := w64_id (by omega) (by omega)
          simp only [b1, b2, p1, p2, iy0, Option.bind_some, cond_true, cond_false, ew, if_neg k1, c1]
          by_cases k2 : g.1 = 2
          · have b3 : decide (g.1 > 2) = false := by simp; omega
            have b4 : decide (g.1 ≥ 3) = false := by simp; omega
            simp only [b3, b4, cond_false, Option.bind_some, if_pos k2]
            exact ⟨_, rfl, by simp, by omega, by omega, rfl⟩
          · have q2 := h4 (by omega)
            obtain ⟨r1, r2, r3, r4⟩ := get g.2.2 q2.1 q2.2
            have b3 : decide (g.1 > 2) = true := by simp; omega
            have b4 : decide (g.1 ≥ 3) = true := by simp; omega
            have ew2 : w64 (x.getD g.2.2.toNat 0 + 1) = x.getD g.2.2.toNat 0 + 1 := w64_id (by omega) (by omega)
            have s1 : idx (y.set (Int.toNat (n : Int)) (x.getD g.2.1.toNat 0 + 1)) g.2.2 = some (x.getD g.2.2.toNat 0) := by
              refine idx_of q2.1 ?_
              rw [List.getElem?_set_ne (by omega)]
              exact (idx_some r2).2.2
            have s2 : idx (y.set (Int.toNat (n : Int)) (x.getD g.2.1.toNat 0 + 1)) (n : Int) = some (x.getD g.2.1.toNat 0 + 1) := by
              rw [idx_nat, Int.toNat_natCast, List.getElem?_set_self (by omega)]
            simp only [b3, b4, cond_true, cond_false, Option.bind_some, if_neg k2, r1, s1, s2, ew2]
            refine ⟨_, rfl, ?_, by unfold imax; split <;> omega, by unfold imax; split <;> omega, rfl⟩
            unfold imax
            by_cases hc : x.getD g.2.2.toNat 0 ≥ x.getD g.2.1.toNat 0 + 1
            · rw [decide_eq_true hc, if_pos (by omega)]; simp
            · rw [decide_eq_false hc, if_neg (by omega)]; simp
      obtain ⟨v, k1, k2, k3, k4, k5⟩ := key
      refine ⟨_, _, k1, k2, by simp [hx], by simpa using hy, ?_, ?_, ?_, ?_⟩
      · intro j hj
        rcases Nat.lt_or_ge j n with h | h
        · rw [List.getElem?_append_left (by omega), List.getElem?_set_ne (by omega)]; exact hxy j h
        · have : j = n := by omega
          subst this
          rw [List.getElem?_append_right (by omega), List.getElem?_set_self (by omega)]; simp [hx]
      · intro j hj hj2
        rw [List.getElem?_set_ne (by omega)]; exact hy0 j (by omega) hj2
      · intro j w hw
        rcases Nat.lt_or_ge j n with h | h
        · rw [List.getElem?_append_left (by omega)] at hw; exact hb j w hw
        · have hlt := (List.getElem?_eq_some_iff.1 hw).1
          simp only [List.length_append, List.length_singleton] at hlt
          have : j = n := by omega
          subst this
          rw [List.getElem?_append_right (by omega)] at hw
          simp [hx] at hw
          subst hw; exact ⟨k3, k4⟩
      · intro j g' hj hg2
        rcases Nat.lt_or_ge j n with h | h
        · rw [List.getElem?_append_left (by omega), hd j g' h hg2, List.take_append_of_le_length (by omega)]
        · have : j = n := by omega
          subst this
          obtain rfl := Option.some.inj (hg.symm.trans hg2)
          rw [List.getElem?_append_right (by omega), List.take_append_of_le_length (by omega), List.take_of_length_le (by omega), ← k5]; simp [hx])
    (by
      rintro x y ⟨hx, hy, hxy, hy0, hb, hd⟩
      refine ⟨?_, hx, hb, fun j g hg => hd j g (List.getElem?_eq_some_iff.1 hg).1 hg⟩
      apply List.ext_getElem?
      intro j
      rcases Nat.lt_or_ge j l.length with h | h
      · exact hxy j h
      · rw [List.getElem?_eq_none (by omega), List.getElem?_eq_none (by omega)])
  refine ⟨y, h3, h1, ?_, h4, ?_⟩
  · unfold ref_Deep
    rw [hck, Option.bind_some, h2]; rfl
  · intro j g hg
    rw [h5 j g hg]
    obtain ⟨g1, g2, g3, g4⟩ := hok j g hg
    congr 1
    unfold dval
    split
    · rfl
    · rename_i k1
      have e1 : (y.take j).getD g.2.1.toNat 0 = y.getD g.2.1.toNat 0 := by
        rw [List.getD_eq_getElem?_getD, List.getD_eq_getElem?_getD, List.getElem?_take_of_lt (by have := g3 k1; omega)]
      split
      · rw [e1]
      · have e2 : (y.take j).getD g.2.2.toNat 0 = y.getD g.2.2.toNat 0 := by
          rw [List.getD_eq_getElem?_getD, List.getD_eq_getElem?_getD, List.getElem?_take_of_lt (by have := g4 (by omega); omega)]
        rw [e1, e2]

theorem power_eq {x n : Nat} (hn : n ≤ 1000) (h : x ^ n ≤ 9223372036854775807) (hx : 0 < x) : ref_Power (x : Int) (n : Int) = some ((x ^ n : Nat) : Int) := by
  unfold ref_Power
  obtain ⟨y, h1, h2⟩ := forI_inv (body := ref_Power_b1 (x : Int)) (fin := fun x => x) (lo := 0) (hi := (n : Int)) (x := (1 : Int)) (fun i y => y = ((x ^ i.toNat : Nat) : Int)) (fun y => y = ((x ^ n : Nat) : Int)) (by omega) (by omega) (by simp)
    (fun i y h0 hi hy => by
      obtain ⟨j, rfl⟩ := Int.eq_ofNat_of_zero_le h0
      rw [Int.toNat_natCast] at hy
      subst hy
      have ht : ((j : Int) + 1).toNat = j + 1 := by omega
      have hle : x ^ (j + 1) ≤ x ^ n := Nat.pow_le_pow_right hx (by omega)
      have e : ((x ^ j : Nat) : Int) * (x : Int) = ((x ^ (j + 1) : Nat) : Int) := by rw [Nat.pow_succ, Int.natCast_mul]
      unfold ref_Power_b1
      rw [e, w64_id (by omega) (by omega)]
      exact ⟨_, rfl, by rw [ht]⟩)
    (fun i y h0 h1 h2 hy => by
      have : i.toNat = n := by omega
      rw [hy, this])
  rw [h1, h2]; rfl

abbrev T5 := Int × List Int × List Int
def five (t : T5) : Prop := t.2.1.length = 5 ∧ t.2.2.length = 5
def ap5 (b : List Int) (v : Int) : Int := b.getD v.toNat 0
theorem ap5_idx {b : List Int} (hb : b.length = 5) {v : Int} (hv : 0 ≤ v ∧ v < 5) : idx b v = some (ap5 b v) := by
  obtain ⟨u, h1, h2⟩ := idx_get (xs := b) hv.1 (by omega)
  unfold ap5
  rw [h1, List.getD_eq_getElem?_getD, h2]; rfl
theorem ap5_mem {b : List Int} (hb : b.length = 5) {v : Int} (hv : 0 ≤ v ∧ v < 5) : ap5 b v ∈ b := by
  obtain ⟨u, h1, h2⟩ := idx_get (xs := b) hv.1 (by omega)
  unfold ap5
  rw [List.getD_eq_getElem?_getD, h2]; exact List.mem_of_getElem? h2
/-- a list filled place by place -/
theorem fill5 {body : Int → List Int → Option (Flow (List Int) (List Int))} {f : Nat → Int} (hb : ∀ (i : Nat) (x : List Int), i < 5 → x.length = 5 → body (i : Int) x = some (.next (x.set i (f i)))) :
    forI (0 : Int) (5 : Int) body (fun x => x) [(0 : Int), 0, 0, 0, 0] = some [f 0, f 1, f 2, f 3, f 4] := by
  unfold forI
  rw [if_pos ⟨by omega, by omega⟩]
  show loopI body (fun x => x) 5 0 [(0 : Int), 0, 0, 0, 0] = _
  have h0 := hb 0 [0, 0, 0, 0, 0] (by omega) rfl
  have h1 := hb 1 [f 0, 0, 0, 0, 0] (by omega) rfl
  have h2 := hb 2 [f 0, f 1, 0, 0, 0] (by omega) rfl
  have h3 := hb 3 [f 0, f 1, f 2, 0, 0] (by omega) rfl
  have h4 := hb 4 [f 0, f 1, f 2, f 3, 0] (by omega) rfl
  simp only [List.set_cons_zero, List.set_cons_succ] at h0 h1 h2 h3 h4
  have i0 : ((0 : Nat) : Int) = 0 := rfl
  have i1 : ((1 : Nat) : Int) = 0 + 1 := rfl
  have i2 : ((2 : Nat) : Int) = 0 + 1 + 1 := rfl
  have i3 : ((3 : Nat) : Int) = 0 + 1 + 1 + 1 := rfl
  have i4 : ((4 : Nat) : Int) = 0 + 1 + 1 + 1 + 1 := rfl
  rw [i0] at h0; rw [i1] at h1; rw [i2] at h2; rw [i3] at h3; rw [i4] at h4
  simp only [loopI, h0, h1, h2, h3, h4]
theorem wr_then {g : Nat → Int} {b : List Int} (hb : b.length = 5) (hg : ∀ i, i < 5 → 0 ≤ g i ∧ g i < 5) : wide_then [g 0, g 1, g 2, g 3, g 4] b = some [ap5 b (g 0), ap5 b (g 1), ap5 b (g 2), ap5 b (g 3), ap5 b (g 4)] := by
  unfold wide_then
  rw [fill5 (f := fun i => ap5 b (g i)) (fun i x hi hx => ?_)]
  · rfl
  have hgi : idx [g 0, g 1, g 2, g 3, g 4] (i : Int) = some (g i) := by
    have : i = 0 ∨ i = 1 ∨ i = 2 ∨ i = 3 ∨ i = 4 := by omega
    rcases this with rfl | rfl | rfl | rfl | rfl <;> rfl
  have hxi : ∃ q, idx x (i : Int) = some q := by rw [idx_nat]; exact ⟨_, List.getElem?_eq_getElem (by omega)⟩
  obtain ⟨q, hq⟩ := hxi
  unfold wide_then_b1
  rw [hgi, bind_some', ck_ok (hg i hi), bind_some', ap5_idx hb (hg i hi), bind_some', ck_ok (show 0 ≤ (i : Int) ∧ (i : Int) < 5 by omega), bind_some', hq, bind_some', Int.toNat_natCast]
/-- one order -/
def st5 (w : Nat) (v : Int) (t : T5) : Int := ap5 (bif w.testBit t.1.toNat then t.2.2 else t.2.1) v

def id5 : List Int := [0, 1, 2, 3, 4]
def V5 (p : List Int) : Prop := p.length = 5 ∧ ∀ v ∈ p, 0 ≤ v ∧ v < 5
def PV (p : List Int) : Prop := V5 p ∧ p.Nodup
def thn (a b : List Int) : List Int := a.map (ap5 b)
def RL : List (List Int) := [[1, 2, 3, 4, 0], [1, 2, 4, 0, 3], [1, 3, 0, 4, 2], [1, 3, 4, 2, 0], [1, 4, 0, 2, 3], [1, 4, 3, 0, 2], [2, 0, 3, 4, 1], [2, 0, 4, 1, 3], [2, 3, 1, 4, 0], [2, 3, 4, 0, 1], [2, 4, 1, 0, 3], [2, 4, 3, 1, 0], [3, 0, 1, 4, 2], [3, 0, 4, 2, 1], [3, 2, 0, 4, 1], [3, 2, 4, 1, 0], [3, 4, 0, 1, 2], [3, 4, 1, 2, 0], [4, 0, 1, 2, 3], [4, 0, 3, 1, 2], [4, 2, 0, 1, 3], [4, 2, 3, 0, 1], [4, 3, 0, 2, 1], [4, 3, 1, 0, 2]]
theorem five_of {p : List Int} (h : p.length = 5) : ∃ a b c d e, p = [a, b, c, d, e] := by
  match p, h with
  | [a, b, c, d, e], _ => exact ⟨a, b, c, d, e, rfl⟩
theorem rl_pv {r : List Int} (h : r ∈ RL) : PV r := by
  have key : (RL.all fun r => decide (r.length = 5) && (r.all fun v => decide (0 ≤ v ∧ v < 5)) && decide r.Nodup) = true := by decide +kernel
  have := List.all_eq_true.1 key r h
  simp only [Bool.and_eq_true, decide_eq_true_eq, List.all_eq_true] at this
  exact ⟨⟨this.1.1, this.1.2⟩, this.2⟩
theorem id5_pv : PV id5 := by
  refine ⟨⟨rfl, ?_⟩, by decide⟩
  intro v hv
  simp only [id5, List.mem_cons, List.not_mem_nil, or_false] at hv
  rcases hv with rfl | rfl | rfl | rfl | rfl <;> omega
theorem ap5_in {b : List Int} (hb : V5 b) {v : Int} (hv : 0 ≤ v ∧ v < 5) : 0 ≤ ap5 b v ∧ ap5 b v < 5 := hb.2 _ (ap5_mem hb.1 hv)
theorem thn_v5 {a b : List Int} (ha : V5 a) (hb : V5 b) : V5 (thn a b) := by
  refine ⟨by unfold thn; rw [List.length_map]; exact ha.1, fun v hv => ?_⟩
  obtain ⟨u, hu, rfl⟩ := List.mem_map.1 hv
  exact ap5_in hb (ha.2 u hu)
theorem thn_pv {a b : List Int} (ha : PV a) (hb : PV b) : PV (thn a b) := by
  refine ⟨thn_v5 ha.1 hb.1, ?_⟩
  unfold thn List.Nodup
  rw [List.pairwise_map]
  refine List.Pairwise.imp_of_mem (fun {x y} hx hy hne e => hne ?_) ha.2
  have h1 := ha.1.2 x hx
  have h2 := ha.1.2 y hy
  have l1 : x.toNat < b.length := by rw [hb.1.1]; omega
  have l2 : y.toNat < b.length := by rw [hb.1.1]; omega
  unfold ap5 at e
  rw [List.getD_eq_getElem?_getD, List.getD_eq_getElem?_getD, List.getElem?_eq_getElem l1, List.getElem?_eq_getElem l2] at e
  have := (List.getElem_inj hb.2).1 e
  omega
theorem thn_idl {s : List Int} (h : s.length = 5) : thn id5 s = s := by
  obtain ⟨a, b, c, d, e, rfl⟩ := five_of h
  rfl
theorem ap5_id {v : Int} (hv : 0 ≤ v ∧ v < 5) : ap5 id5 v = v := by
  have : v = 0 ∨ v = 1 ∨ v = 2 ∨ v = 3 ∨ v = 4 := by omega
  rcases this with rfl | rfl | rfl | rfl | rfl <;> rfl
theorem thn_idr {a : List Int} (h : V5 a) : thn a id5 = a := by
  unfold thn
  have : a.map (ap5 id5) = a.map id := List.map_congr_left (fun v hv => ap5_id (h.2 v hv))
  rw [this, List.map_id]
theorem ap5_thn {b c : List Int} (hb : b.length = 5) {v : Int} (hv : 0 ≤ v ∧ v < 5) : ap5 (thn b c) v = ap5 c (ap5 b v) := by
  have l1 : v.toNat < b.length := by omega
  have e : ap5 b v = b[v.toNat] := by unfold ap5; rw [List.getD_eq_getElem?_getD, List.getElem?_eq_getElem l1]; rfl
  rw [e]
  show (thn b c).getD v.toNat 0 = _
  unfold thn
  rw [List.getD_eq_getElem?_getD, List.getElem?_map, List.getElem?_eq_getElem l1]; rfl
theorem thn_assoc {a b c : List Int} (ha : V5 a) (hb : b.length = 5) : thn (thn a b) c = thn a (thn b c) := by
  unfold thn
  rw [List.map_map]
  refine List.map_congr_left (fun v hv => ?_)
  exact (ap5_thn hb (ha.2 v hv)).symm
def sel (w : Nat) (t : T5) : List Int := bif w.testBit t.1.toNat then t.2.2 else t.2.1
def EE (w : Nat) (B : List T5) : List Int := B.foldl (fun x t => thn x (sel w t)) id5
def good (n : Int) (B : List T5) : Prop := ∀ t ∈ B, (0 ≤ t.1 ∧ t.1 < n) ∧ PV t.2.1 ∧ PV t.2.2
theorem sel_pv {n : Int} {B : List T5} (h : good n B) {t : T5} (ht : t ∈ B) (w : Nat) : PV (sel w t) := by
  unfold sel
  cases w.testBit t.1.toNat
  · exact (h t ht).2.1
  · exact (h t ht).2.2
theorem fold_pv {n : Int} (w : Nat) : ∀ (B : List T5), good n B → ∀ x, PV x → PV (B.foldl (fun x t => thn x (sel w t)) x)
  | [], _, x, hx => hx
  | t :: B, h, x, hx => fold_pv w B (fun t' ht => h t' (by simp [ht])) _ (thn_pv hx (sel_pv h (by simp) w))
theorem ee_pv {n : Int} {B : List T5} (h : good n B) (w : Nat) : PV (EE w B) := fold_pv w B h _ id5_pv
theorem ee_from {n : Int} (w : Nat) : ∀ (B : List T5), good n B → ∀ x, PV x → B.foldl (fun x t => thn x (sel w t)) x = thn x (EE w B)
  | [], _, x, hx => (thn_idr hx.1).symm
  | t :: B, h, x, hx => by
    have hB : good n B := fun t' ht => h t' (by simp [ht])
    have hs := sel_pv h (t := t) (by simp) w
    have e1 := ee_from w B hB (thn x (sel w t)) (thn_pv hx hs)
    have e2 := ee_from w B hB (sel w t) hs
    have e3 : EE w (t :: B) = thn (sel w t) (EE w B) := by
      unfold EE at e2 ⊢
      rw [List.foldl_cons, thn_idl hs.1.1, e2]
    rw [List.foldl_cons, e1, e3, thn_assoc hx.1 hs.1.1]
theorem ee_app {n : Int} {B C : List T5} (hB : good n B) (hC : good n C) (w : Nat) : EE w (B ++ C) = thn (EE w B) (EE w C) := by
  have : EE w (B ++ C) = C.foldl (fun x t => thn x (sel w t)) (EE w B) := by unfold EE; rw [List.foldl_append]
  rw [this, ee_from w C hC _ (ee_pv hB w)]
theorem good_app {n : Int} {B C : List T5} (hB : good n B) (hC : good n C) : good n (B ++ C) := fun t ht => by
  rcases List.mem_append.1 ht with h | h
  · exact hB t h
  · exact hC t h
theorem then_eq {a b : List Int} (ha : V5 a) (hb : b.length = 5) : wide_then a b = some (thn a b) := by
  obtain ⟨a0, a1, a2, a3, a4, rfl⟩ := five_of ha.1
  refine wr_then (g := fun i => [a0, a1, a2, a3, a4].getD i 0) hb (fun i hi => ?_)
  have := ha.2 ([a0, a1, a2, a3, a4].getD i 0) (by
    have : i = 0 ∨ i = 1 ∨ i = 2 ∨ i = 3 ∨ i = 4 := by omega
    rcases this with rfl | rfl | rfl | rfl | rfl <;> simp)
  exact this
/-- a change behind the orders -/
theorem behind_eq {n : Int} {B : List T5} (hB : good n B) (hne : B ≠ []) (hl : B.length ≤ 1000000) {c : List Int} (hc : PV c) : ∃ B', wide_behind_i2 c B = some (B', B') ∧ good n B' ∧ B' ≠ [] ∧ B'.length = B.length ∧ ∀ w, EE w B' = thn (EE w B) c := by
  obtain ⟨D, t, rfl⟩ : ∃ D t, B = D ++ [t] := ⟨B.dropLast, B.getLast hne, (List.dropLast_concat_getLast hne).symm⟩
  have ht := hB t (by simp)
  have hD : good n D := fun x hx => hB x (by simp [hx])
  have hi : w64 (((D ++ [t]).length : Int) - 1) = (D.length : Int) := by
    rw [List.length_append] at *
    simp only [List.length_cons, List.length_nil] at *
    rw [w64_id (by omega) (by omega)]; omega
  have hlen : ∀ x : T5, (D ++ [x]).length = (D ++ [t]).length := fun x => by simp
  have hget : ∀ x : T5, idx (D ++ [x]) (D.length : Int) = some x := fun x => by rw [idx_nat, List.getElem?_append_right (Nat.le_refl _)]; simp
  have hset : ∀ x y : T5, List.set (D ++ [x]) (Int.toNat (D.length : Int)) y = D ++ [y] := fun x y => by rw [Int.toNat_natCast, List.set_append_right _ _ (Nat.le_refl _)]; simp
  refine ⟨D ++ [(t.1, thn t.2.1 c, thn t.2.2 c)], ?_, ?_, by simp, by simp, fun w => ?_⟩
  · unfold wide_behind_i2
    rw [hi, hget, bind_some', then_eq ht.2.1.1 hc.1.1, bind_some', then_eq ht.2.2.1 hc.1.1, bind_some', hset, hget, bind_some', hset]
  · intro x hx
    rcases List.mem_append.1 hx with hx | hx
    · exact hD x hx
    · obtain rfl : x = _ := by simpa using hx
      exact ⟨ht.1, thn_pv ht.2.1 hc, thn_pv ht.2.2 hc⟩
  · have e : ∀ x : T5, EE w (D ++ [x]) = thn (EE w D) (sel w x) := fun x => by unfold EE; rw [List.foldl_append]; rfl
    rw [e, e]
    have es : sel w (t.1, thn t.2.1 c, thn t.2.2 c) = thn (sel w t) c := by
      unfold sel
      cases w.testBit t.1.toNat <;> rfl
    rw [es, thn_assoc (ee_pv hD w).1 (sel_pv hB (t := t) (by simp) w).1.1]
theorem back_eq5 {r : List Int} (h : r ∈ RL) : ∃ b, wide_back r = some b ∧ b ∈ RL ∧ thn b r = id5 ∧ thn r b = id5 := by
  have key : (RL.all fun r => match wide_back r with | some b => RL.contains b && thn b r == id5 && thn r b == id5 | none => false) = true := by decide +kernel
  have := List.all_eq_true.1 key r h
  split at this
  · rename_i b hb
    simp only [Bool.and_eq_true, List.contains_iff_mem, beq_iff_eq] at this
    exact ⟨b, hb, this.1.1, this.1.2, this.2⟩
  · cases this
def rnds (r : List Int) : Option (List Int × List Int × List Int × List Int) :=
  (wide_then [(1 : Int), 2, 3, 4, 0] [(2 : Int), 4, 1, 0, 3]).bind fun r33 => (wide_back [(1 : Int), 2, 3, 4, 0]).bind fun r35 => (wide_back [(2 : Int), 4, 1, 0, 3]).bind fun r37 =>
  (wide_then r35 r37).bind fun r39 => (wide_then r33 r39).bind fun r41 => (wide_between r r41).bind fun r43 => (wide_both_1 [(1 : Int), 2, 3, 4, 0] r43).bind fun r45 => (wide_both_1 [(2 : Int), 4, 1, 0, 3] r43).bind fun r47 =>
  (wide_back r45).bind fun r55 => (wide_back r47).bind fun r60 => some (r45, r47, r55, r60)
theorem rnds_eq {r : List Int} (h : r ∈ RL) : ∃ f s fb sb, rnds r = some (f, s, fb, sb) ∧ (f ∈ RL ∧ s ∈ RL ∧ fb ∈ RL ∧ sb ∈ RL) ∧ thn (thn (thn f s) fb) sb = r ∧ thn f fb = id5 ∧ thn s sb = id5 := by
  have key : (RL.all fun r => match rnds r with | some (f, s, fb, sb) => RL.contains f && RL.contains s && RL.contains fb && RL.contains sb && thn (thn (thn f s) fb) sb == r && thn f fb == id5 && thn s sb == id5 | none => false) = true := by decide +kernel
  have := List.all_eq_true.1 key r h
  split at this
  · rename_i f s fb sb hb
    simp only [Bool.and_eq_true, List.contains_iff_mem, beq_iff_eq] at this
    obtain ⟨⟨⟨⟨⟨⟨h1, h2⟩, h3⟩, h4⟩, h5⟩, h6⟩, h7⟩ := this
    exact ⟨f, s, fb, sb, hb, ⟨h1, h2, h3, h4⟩, h5, h6, h7⟩
  · cases this
/-- orders that make a round, if so, and nothing else -/
structure Orders (n : Int) (k : Nat) (c : Nat → Bool) (r : List Int) (B : List T5) : Prop where
  ok : good n B
  ne : B ≠ []
  len : B.length ≤ k
  val : ∀ w, EE w B = bif c w then r else id5
theorem behind_orders {n : Int} {k : Nat} (hk : k ≤ 1000000) {c : Nat → Bool} {r b : List Int} {B : List T5} (h : Orders n k c b B) (hr : PV r) (hb : thn b r = id5) : ∃ B', wide_behind_i2 r B = some (B', B') ∧ Orders n k (fun w => !c w) r B' := by
  have hl := h.len
  obtain ⟨B', h1, h2, h3, h4, h5⟩ := behind_eq h.ok h.ne (by omega) hr
  refine ⟨B', h1, h2, h3, by omega, fun w => ?_⟩
  rw [h5, h.val]
  cases c w with
  | true => exact hb
  | false => exact thn_idl hr.1.1
theorem side_eq {n : Int} {k : Nat} (hk : k ≤ 1000000) {rf : List (Int × (Int × Int)) → Int → List Int → Option (List T5)} {l : List (Int × (Int × Int))} {i : Int} {c : Nat → Bool} (hrf : ∀ r ∈ RL, ∃ B, rf l i r = some B ∧ Orders n k c r B) {r : List Int} (hr : r ∈ RL) (nt : Bool) :
    ∃ B, wide_side rf l i r nt = some B ∧ Orders n k (fun w => c w != nt) r B := by
  unfold wide_side
  cases nt with
  | false =>
    obtain ⟨B, h1, h2⟩ := hrf r hr
    refine ⟨B, by rw [cond_false, h1]; rfl, h2.ok, h2.ne, h2.len, fun w => ?_⟩
    rw [h2.val]; simp
  | true =>
    obtain ⟨b, b1, b2, b3, b4⟩ := back_eq5 hr
    obtain ⟨B, h1, h2⟩ := hrf b b2
    obtain ⟨B', g1, g2⟩ := behind_orders hk h2 (rl_pv hr) b3
    refine ⟨B', by rw [cond_true, b1, bind_some', h1, bind_some', g1]; rfl, g2.ok, g2.ne, g2.len, fun w => ?_⟩
    rw [g2.val]; simp
theorem both_eq {n : Int} {k : Nat} (hk : k ≤ 1000) {rf : List (Int × (Int × Int)) → Int → List Int → Option (List T5)} {l : List (Int × (Int × Int))} {i j : Int} {c d : Nat → Bool} (h1 : ∀ r ∈ RL, ∃ B, rf l i r = some B ∧ Orders n k c r B) (h2 : ∀ r ∈ RL, ∃ B, rf l j r = some B ∧ Orders n k d r B) {r : List Int} (hr : r ∈ RL) (nt : Bool) :
    ∃ B, wide_both rf l i j r nt = some B ∧ Orders n (4 * k) (fun w => (c w != nt) && (d w != nt)) r B := by
  obtain ⟨f, s, fb, sb, e, ⟨m1, m2, m3, m4⟩, v1, v2, v3⟩ := rnds_eq hr
  unfold rnds at e
  obtain ⟨r33, q1, e⟩ := bind_of e
  obtain ⟨r35, q2, e⟩ := bind_of e
  obtain ⟨r37, q3, e⟩ := bind_of e
  obtain ⟨r39, q4, e⟩ := bind_of e
  obtain ⟨r41, q5, e⟩ := bind_of e
  obtain ⟨r43, q6, e⟩ := bind_of e
  obtain ⟨r45, q7, e⟩ := bind_of e
  obtain ⟨r47, q8, e⟩ := bind_of e
  obtain ⟨r55, q9, e⟩ := bind_of e
  obtain ⟨r60, q10, e⟩ := bind_of e
  simp only [Option.some.injEq, Prod.mk.injEq] at e
  obtain ⟨rfl, rfl, rfl, rfl⟩ := e
  obtain ⟨B1, p1, o1⟩ := side_eq (by omega) h1 m1 nt
  obtain ⟨B2, p2, o2⟩ := side_eq (by omega) h2 m2 nt
  obtain ⟨B3, p3, o3⟩ := side_eq (by omega) h1 m3 nt
  obtain ⟨B4, p4, o4⟩ := side_eq (by omega) h2 m4 nt
  have l1 := o1.len
  have l2 := o2.len
  have l3 := o3.len
  have l4 := o4.len
  refine ⟨((B1 ++ B2) ++ B3) ++ B4, ?_, good_app (good_app (good_app o1.ok o2.ok) o3.ok) o4.ok, fun hn => o1.ne (List.append_eq_nil_iff.1 (List.append_eq_nil_iff.1 (List.append_eq_nil_iff.1 hn).1).1).1, by simp; omega, fun w => ?_⟩
  · unfold wide_both
    rw [q1, bind_some', q2, bind_some', q3, bind_some', q4, bind_some', q5, bind_some', q6, bind_some', q7, bind_some', q8, bind_some', p1, bind_some', ck_ok (by omega), bind_some', p2, bind_some', ck_ok (by omega), bind_some', q9, bind_some', p3, bind_some',
      ck_ok (by rw [List.length_append]; omega), bind_some', q10, bind_some', p4, bind_some', ck_ok (by rw [List.length_append, List.length_append]; omega), bind_some']
  · rw [ee_app (good_app (good_app o1.ok o2.ok) o3.ok) o4.ok, ee_app (good_app o1.ok o2.ok) o3.ok, ee_app o1.ok o2.ok, o1.val, o2.val, o3.val, o4.val]
    have g1 := rl_pv m1
    have g2 := rl_pv m2
    have g3 := rl_pv m3
    have g4 := rl_pv m4
    cases (c w != nt) <;> cases (d w != nt)
    · rfl
    · simp only [cond_true, cond_false, Bool.false_and]
      rw [thn_idl g2.1.1, thn_idr g2.1, v3]
    · simp only [cond_true, cond_false, Bool.and_false]
      rw [thn_idr g1.1, v2]; rfl
    · exact v1
/-- BARRINGTON: the orders of a gate -/
theorem build_eq {n : Int} {l : List (Int × (Int × Int))} (hok : GatesOk n l) {D : List Int} (hD : ∀ (j : Nat) g, l[j]? = some g → D[j]? = some (dval D g)) (hD0 : ∀ (j : Nat) v, D[j]? = some v → 0 ≤ v) :
    ∀ (i : Nat) g (fuel k : Nat), l[i]? = some g → i < fuel → D[i]? = some (k : Int) → k ≤ 4 → ∀ r ∈ RL, ∃ B, wide_build fuel l (i : Int) r = some B ∧ Orders n (4 ^ k) (fun w => (gall w.testBit l).getD i false) r B := by
  intro i
  induction i using Nat.strongRecOn with
  | ind i ih =>
    intro g fuel k hg hf hk hk4 r hr
    obtain ⟨f, rfl⟩ : ∃ f, fuel = f + 1 := ⟨fuel - 1, by omega⟩
    obtain ⟨h1, h2, h3, h4⟩ := hok i g hg
    have hil := (List.getElem?_eq_some_iff.1 hg).1
    have hidx : idx l (i : Int) = some g := by rw [idx_nat, hg]
    have hdv : (k : Int) = dval D g := by
      have := hD i g hg
      rw [hk] at this
      exact Option.some.inj this
    have hval : ∀ w : Nat, (gall w.testBit l).getD i false = gval w.testBit (gall w.testBit l) g := fun w => by rw [List.getD_eq_getElem?_getD, gall_get' hok w.testBit hg]; rfl
    have hDl : ∀ (j : Nat), j < l.length → ∃ v : Nat, D[j]? = some (v : Int) := by
      intro j hj
      have := hD j l[j] (List.getElem?_eq_getElem hj)
      have h0 := hD0 j _ this
      exact ⟨(dval D l[j]).toNat, by rw [this, Int.toNat_of_nonneg h0]⟩
    -- orders of a gate ahead
    have sub1 : ∀ j : Int, 0 ≤ j → j < (i : Int) → ∀ q : Nat, D.getD j.toNat 0 ≤ (q : Int) → q ≤ 4 → ∀ r ∈ RL, ∃ B, wide_build f l j r = some B ∧ Orders n (4 ^ q) (fun w => (gall w.testBit l).getD j.toNat false) r B := by
      intro j j0 j1 q hq hq4 r hr
      obtain ⟨v, hv⟩ := hDl j.toNat (by omega)
      have hvq : v ≤ q := by
        rw [List.getD_eq_getElem?_getD, hv] at hq
        simp only [Option.getD_some] at hq
        omega
      obtain ⟨B, b1, b2⟩ := ih j.toNat (by omega) l[j.toNat] f v (List.getElem?_eq_getElem (by omega)) (by omega) hv (by omega) r hr
      rw [Int.toNat_of_nonneg j0] at b1
      exact ⟨B, b1, b2.ok, b2.ne, Nat.le_trans b2.len (Nat.pow_le_pow_right (by omega) hvq), b2.val⟩
    show ∃ B, wide_build_step (wide_build f) f l (i : Int) r = some B ∧ _
    unfold wide_build_step
    rw [hidx, bind_some']
    have p4 : ∀ q : Nat, q ≤ 4 → 4 ^ q ≤ 256 := fun q hq => by
      have := Nat.pow_le_pow_right (n := 4) (by omega) hq
      simpa using this
    have hk5 : g.1 = 1 ∨ g.1 = 2 ∨ g.1 = 3 ∨ g.1 = 4 := by omega
    rcases hk5 with e | e | e | e
    · have hin := h2 e
      rw [show (g.1 == (1 : Int)) = true by simp [e], cond_true]
      refine ⟨_, rfl, ?_, by simp, Nat.one_le_pow _ _ (by omega), fun w => ?_⟩
      · intro t ht
        obtain rfl : t = (g.2.1, [0, 1, 2, 3, 4], r) := by simpa using ht
        exact ⟨hin, id5_pv, rl_pv hr⟩
      · rw [hval]
        unfold gval
        rw [if_pos e]
        show thn id5 (sel w (g.2.1, [0, 1, 2, 3, 4], r)) = _
        unfold sel
        simp only
        cases w.testBit g.2.1.toNat with
        | true => exact thn_idl (rl_pv hr).1.1
        | false => rfl
    · have hj := h3 (by omega)
      obtain ⟨q, rfl⟩ : ∃ q, k = q + 1 := ⟨k - 1, by
        unfold dval at hdv
        rw [if_neg (by omega), if_pos e] at hdv
        obtain ⟨v, hv⟩ := hDl g.2.1.toNat (by omega)
        rw [List.getD_eq_getElem?_getD, hv] at hdv
        simp only [Option.getD_some] at hdv
        omega⟩
      have hdq : D.getD g.2.1.toNat 0 ≤ (q : Int) := by
        unfold dval at hdv
        rw [if_neg (by omega), if_pos e] at hdv
        omega
      obtain ⟨b, b1, b2, b3, b4⟩ := back_eq5 hr
      obtain ⟨B, g1, g2⟩ := sub1 g.2.1 hj.1 hj.2 q hdq (by omega) b b2
      have := p4 q (by omega)
      obtain ⟨B', q1, q2⟩ := behind_orders (by omega) g2 (rl_pv hr) b3
      rw [show (g.1 == (1 : Int)) = false by simp [e], cond_false, show (g.1 == (2 : Int)) = true by simp [e], cond_true, b1, bind_some', g1, bind_some', q1, bind_some']
      refine ⟨B', rfl, q2.ok, q2.ne, Nat.le_trans q2.len (Nat.pow_le_pow_right (by omega) (by omega)), fun w => ?_⟩
      rw [q2.val, hval]
      unfold gval
      rw [if_neg (by omega), if_pos e]
    · have hj := h3 (by omega)
      have hj2 := h4 (by omega)
      have hdq : ∃ q : Nat, k = q + 1 ∧ D.getD g.2.1.toNat 0 ≤ (q : Int) ∧ D.getD g.2.2.toNat 0 ≤ (q : Int) := by
        unfold dval at hdv
        rw [if_neg (by omega), if_neg (by omega)] at hdv
        obtain ⟨v, hv⟩ := hDl g.2.1.toNat (by omega)
        have e1 : D.getD g.2.1.toNat 0 = (v : Int) := by rw [List.getD_eq_getElem?_getD, hv]; rfl
        unfold imax at hdv
        refine ⟨k - 1, ?_, ?_, ?_⟩
        · split at hdv <;> omega
        · split at hdv <;> omega
        · split at hdv <;> omega
      obtain ⟨q, rfl, d1, d2⟩ := hdq
      have := p4 q (by omega)
      obtain ⟨B, g1, g2⟩ := both_eq (k := 4 ^ q) (by omega) (sub1 g.2.1 hj.1 hj.2 q d1 (by omega)) (sub1 g.2.2 hj2.1 hj2.2 q d2 (by omega)) hr false
      rw [show (g.1 == (1 : Int)) = false by simp [e], cond_false, show (g.1 == (2 : Int)) = false by simp [e], cond_false, show (g.1 == (3 : Int)) = true by simp [e], cond_true, g1, bind_some']
      refine ⟨B, rfl, g2.ok, g2.ne, by rw [Nat.pow_succ, Nat.mul_comm]; exact g2.len, fun w => ?_⟩
      rw [g2.val, hval]
      unfold gval
      rw [if_neg (by omega), if_neg (by omega), if_pos e]
      simp
    · have hj := h3 (by omega)
      have hj2 := h4 (by omega)
      have hdq : ∃ q : Nat, k = q + 1 ∧ D.getD g.2.1.toNat 0 ≤ (q : Int) ∧ D.getD g.2.2.toNat 0 ≤ (q : Int) := by
        unfold dval at hdv
        rw [if_neg (by omega), if_neg (by omega)] at hdv
        obtain ⟨v, hv⟩ := hDl g.2.1.toNat (by omega)
        have e1 : D.getD g.2.1.toNat 0 = (v : Int) := by rw [List.getD_eq_getElem?_getD, hv]; rfl
        unfold imax at hdv
        refine ⟨k - 1, ?_, ?_, ?_⟩
        · split at hdv <;> omega
        · split at hdv <;> omega
        · split at hdv <;> omega
      obtain ⟨q, rfl, d1, d2⟩ := hdq
      have := p4 q (by omega)
      obtain ⟨b, b1, b2, b3, b4⟩ := back_eq5 hr
      obtain ⟨B, g1, g2⟩ := both_eq (k := 4 ^ q) (by omega) (sub1 g.2.1 hj.1 hj.2 q d1 (by omega)) (sub1 g.2.2 hj2.1 hj2.2 q d2 (by omega)) b2 true
      obtain ⟨B', q1, q2⟩ := behind_orders (by omega) g2 (rl_pv hr) b3
      rw [show (g.1 == (1 : Int)) = false by simp [e], cond_false, show (g.1 == (2 : Int)) = false by simp [e], cond_false, show (g.1 == (3 : Int)) = false by simp [e], cond_false, b1, bind_some', g1, bind_some', q1, bind_some']
      refine ⟨B', rfl, q2.ok, q2.ne, by rw [Nat.pow_succ, Nat.mul_comm]; exact q2.len, fun w => ?_⟩
      rw [q2.val, hval]
      unfold gval
      rw [if_neg (by omega), if_neg (by omega), if_neg (by omega)]
      cases (gall w.testBit l).getD g.2.1.toNat false <;> cases (gall w.testBit l).getD g.2.2.toNat false <;> rfl
theorem ee_fold (w : Nat) : ∀ (B : List T5) (x : List Int), B.foldl (fun x t => thn x (sel w t)) x = x.map (fun v => B.foldl (st5 w) v)
  | [], x => by simp
  | t :: B, x => by
    rw [List.foldl_cons, ee_fold w B]
    unfold thn
    rw [List.map_map]
    rfl

theorem wb_change {p : List Int} (h : PV p) : ref_Change p = some true := by
  have key : ∀ a b c d e : Fin 5, [(a.val : Int), (b.val : Int), (c.val : Int), (d.val : Int), (e.val : Int)].Nodup → ref_Change [(a.val : Int), (b.val : Int), (c.val : Int), (d.val : Int), (e.val : Int)] = some true := by decide +kernel
  obtain ⟨⟨hl, hv⟩, hn⟩ := h
  obtain ⟨a, b, c, d, e, rfl⟩ := five_of hl
  have fin : ∀ v : Int, 0 ≤ v ∧ v < 5 → ∃ q : Fin 5, v = (q.val : Int) := fun v h => ⟨⟨v.toNat, by omega⟩, by simp; omega⟩
  obtain ⟨a, rfl⟩ := fin a (hv a (by simp))
  obtain ⟨b, rfl⟩ := fin b (hv b (by simp))
  obtain ⟨c, rfl⟩ := fin c (hv c (by simp))
  obtain ⟨d, rfl⟩ := fin d (hv d (by simp))
  obtain ⟨e, rfl⟩ := fin e (hv e (by simp))
  exact key a b c d e hn
theorem wb_check {n : Int} {B : List T5} (h0 : 0 ≤ n ∧ n ≤ 5) (hl : B.length ≤ 300) (h : good n B) : ref_WideCheck n B = some 0 := by
  unfold ref_WideCheck
  rw [within_eq, bind_some', decide_eq_true h0, decide_eq_false (by omega : ¬ (B.length : Int) > 300)]
  obtain ⟨y, h1, rfl⟩ := forL_inv (body := ref_WideCheck_b4 n) (fin := fun x57 => (Esc.brk () : Esc Int Unit)) (l := B) (x := ()) (fun _ _ => True) (fun y => y = .brk ()) trivial
    (fun k t x ht _ => by
      obtain ⟨g1, g2, g3⟩ := h t (List.mem_of_getElem? ht)
      refine ⟨.next (), ?_, trivial⟩
      unfold ref_WideCheck_b4
      rw [inside1, bind_some', decide_eq_true g1, wb_change g2, wb_change g3]; rfl) (fun _ _ => rfl)
  rw [h1]; rfl
theorem wb_wide {n : Int} {B : List T5} (hn : n ≤ 63) (h : good n B) {w : Nat} (hw : w < 2 ^ 63) : ref_Wide B (w : Int) = some (EE w B) := by
  unfold ref_Wide
  have inner : ∀ v : Int, 0 ≤ v ∧ v < 5 → forL (ref_Wide_b22 (w : Int)) (fun x269 => x269) B 0 v = some (B.foldl (st5 w) v) := by
    intro v hv
    obtain ⟨y, h1, h2⟩ := forL_inv (body := ref_Wide_b22 (w : Int)) (fin := fun x => x) (l := B) (x := v) (fun k x => x = (B.take k).foldl (st5 w) v ∧ 0 ≤ x ∧ x < 5) (fun y => y = B.foldl (st5 w) v) ⟨rfl, hv⟩
      (by
        rintro k t x ht ⟨hx, x0, x5⟩
        obtain ⟨g1, g2, g3⟩ := h t (List.mem_of_getElem? ht)
        obtain ⟨m, hm⟩ : ∃ m : Nat, t.1 = (m : Int) := ⟨t.1.toNat, by omega⟩
        have hb : ref_Bit (w : Int) t.1 = some (w.testBit m) := by rw [hm]; exact bit_eq hw (by omega)
        have hs : st5 w x t = ap5 (bif w.testBit m then t.2.2 else t.2.1) x := by unfold st5; rw [hm, Int.toNat_natCast]
        have htk : (B.take (k + 1)).foldl (st5 w) v = st5 w x t := by
          rw [List.take_add_one, ht, List.foldl_append, ← hx]; rfl
        refine ⟨.next (st5 w x t), ?_, htk.symm, ?_⟩
        · unfold ref_Wide_b22
          rw [hb, hs]
          cases w.testBit m with
          | true => rw [bind_some', cond_true, ap5_idx g3.1.1 ⟨x0, x5⟩]; rfl
          | false => rw [bind_some', cond_false, ap5_idx g2.1.1 ⟨x0, x5⟩]; rfl
        · rw [hs]
          cases w.testBit m with
          | true => exact ap5_in g3.1 ⟨x0, x5⟩
          | false => exact ap5_in g2.1 ⟨x0, x5⟩)
      (by
        rintro x ⟨hx, _⟩
        rw [hx, List.take_length])
    rw [h1, h2]
  rw [fill5 (f := fun i => B.foldl (st5 w) (i : Int)) (fun i x hi hx => by
    unfold ref_Wide_b25
    rw [inner (i : Int) (by omega), bind_some', ck_ok (by omega), bind_some', idx_nat, List.getElem?_eq_getElem (by omega), bind_some', Int.toNat_natCast])]
  show some _ = some (B.foldl (fun x t => thn x (sel w t)) id5)
  rw [ee_fold]; rfl
theorem WideBuilds_true (a0 : Int) (a1 : List (Int × (Int × Int))) (f0 : Fits (.int .i64) a0) (f1 : Fits (.slice (.pair (.int .i64) (.pair (.int .i64) (.int .i64)))) a1) : ∃ fuel, law_WideBuilds fuel a0 a1 = some true := by
  obtain ⟨fuel, hf⟩ : ∃ f : Nat, 1000 ≤ f := ⟨1000, Nat.le_refl _⟩
  refine ⟨fuel, ?_⟩
  by_cases hz : gcAll a0 a1 = 0
  · obtain ⟨⟨c1, c2, c3⟩, hok⟩ := gc_valid hz
    obtain ⟨D, d1, d2, d3, d4, d5⟩ := deep_both hok (by omega)
    obtain ⟨m, hm⟩ : ∃ m, a1.length = m + 1 := ⟨a1.length - 1, by omega⟩
    have ew : w64 ((List.length a1 : Int) - 1) = (m : Int) := by rw [w64_id (by omega) (by omega)]; omega
    have ewD : w64 ((List.length D : Int) - 1) = (m : Int) := by rw [d1]; exact ew
    obtain ⟨k, hk⟩ : ∃ k : Nat, D[m]? = some (k : Int) := by
      have h1 : D[m]? = some D[m] := List.getElem?_eq_getElem (by omega)
      have := d4 m _ h1
      exact ⟨D[m].toNat, by rw [h1, Int.toNat_of_nonneg this.1]⟩
    have hDi : idx D (m : Int) = some (k : Int) := by rw [idx_nat, hk]
    have hdeep : gate_Deep a0 a1 = some ((k : Int), 0) := by
      unfold gate_Deep
      rw [gc_check, hz, bind_some', show ((0 : Int) != 0) = false from rfl, cond_false, d2, bind_some', ew, hDi]; rfl
    have hg5 : law_WideBuilds_g5 a1 0 = some (decide ((k : Int) > 4)) := by
      unfold law_WideBuilds_g5
      rw [show ((0 : Int) == 0) = true from rfl, cond_true, d3, bind_some', ew, hDi]; rfl
    unfold law_WideBuilds wide_Build
    rw [hdeep, gc_gatecheck, hz]
    simp only [bind_some', show ((0 : Int) != 0) = false from rfl, cond_false, hg5, ew]
    by_cases h4 : (k : Int) > 4
    · rw [decide_eq_true h4]
      simp only [cond_true, bind_some', show ((7 : Int) != 0) = true from rfl]
      rfl
    · rw [decide_eq_false h4]
      have hr : [(1 : Int), 2, 3, 4, 0] ∈ RL := by decide
      obtain ⟨B, b1, b2⟩ := build_eq hok d5 (fun j v hj => (d4 j v hj).1) m a1[m] fuel k (List.getElem?_eq_getElem (by omega)) (by omega) hk (by omega) _ hr
      have p4 : 4 ^ k ≤ 256 := by
        have := Nat.pow_le_pow_right (n := 4) (by omega) (show k ≤ 4 by omega)
        simpa using this
      have hlen := b2.len
      have hg7 : law_WideBuilds_g7 a0 a1 (B, 0) = some false := by
        unfold law_WideBuilds_g7
        simp only
        rw [show ((0 : Int) != 0) = false from rfl, cond_false, wb_check c1 (by omega) b2.ok, bind_some', show ((0 : Int) != 0) = false from rfl, cond_false, d3, bind_some', ew, hDi, bind_some']
        have := power_eq (x := 4) (n := k) (by omega) (by omega) (by omega)
        rw [show ((4 : Nat) : Int) = 4 from rfl] at this
        rw [this, bind_some', decide_eq_false (by omega)]
      simp only [cond_false, bind_some', show ((0 : Int) != 0) = false from rfl, b1, hg7]
      obtain ⟨nn, hnn⟩ : ∃ nn : Nat, a0 = (nn : Int) := ⟨a0.toNat, by omega⟩
      have p32 : 2 ^ nn ≤ 32 := by
        have := Nat.pow_le_pow_right (n := 2) (by omega) (show nn ≤ 5 by omega)
        simpa using this
      obtain ⟨y, h1, rfl⟩ := iter_inv (f := law_WideBuilds_b20 a0 a1 (B, 0)) (Inv := fun i => ∃ n : Nat, i = (n : Int) ∧ n ≤ 2 ^ nn) (m := fun i => (40 - i).toNat) (Post := fun y => y = .brk ())
        (by
          rintro _ ⟨n, rfl, hn⟩
          have ew0 : IntKind.wrap .u64 a0 = (nn : Int) := by rw [hnn]; exact wrap_u64 (by omega) (by omega)
          unfold law_WideBuilds_b20
          simp only
          rw [ew0, ck_ok (by omega), bind_some', bShl_one (by omega)]
          by_cases c : n < 2 ^ nn
          · have hn63 : n < 2 ^ 63 := Nat.lt_of_lt_of_le c (Nat.le_trans p32 (by decide))
            generalize 2 ^ nn = q at *
            have hgl : (gall n.testBit a1).length = a1.length := gall_len _ _
            have hgm : idx (gall n.testBit a1) (m : Int) = some ((gall n.testBit a1).getD m false) := by
              rw [idx_nat, List.getD_eq_getElem?_getD, List.getElem?_eq_getElem (by omega)]; rfl
            have hg18 : law_WideBuilds_g18 a1 (n : Int) [0, 1, 2, 3, 4] = some (bif (gall n.testBit a1).getD m false then [1, 2, 3, 4, 0] else [0, 1, 2, 3, 4]) := by
              unfold law_WideBuilds_g18
              rw [gates_ref hok (by omega) (by omega) n hn63, bind_some', ew, hgm, bind_some']
              cases (gall n.testBit a1).getD m false <;> rfl
            have hsame : ref_Same = some [0, 1, 2, 3, 4] := rfl
            rw [decide_eq_true (by omega), cond_true, hsame, bind_some', hg18, bind_some', wb_wide (by omega) b2.ok hn63, bind_some', b2.val]
            have hd : deqT (.arr 5 tI) (bif (gall n.testBit a1).getD m false then [(1 : Int), 2, 3, 4, 0] else id5) (bif (gall n.testBit a1).getD m false then [(1 : Int), 2, 3, 4, 0] else [0, 1, 2, 3, 4]) = true := by
              cases (gall n.testBit a1).getD m false <;> rfl
            rw [hd, Bool.not_true, cond_false]
            have e : w64 ((n : Int) + 1) = ((n + 1 : Nat) : Int) := by rw [w64_id (by omega) (by omega)]; omega
            exact ⟨_, rfl, ⟨n + 1, e, c⟩, by rw [e]; omega⟩
          · generalize 2 ^ nn = q at *
            rw [decide_eq_false (by omega), cond_false]
            exact ⟨_, rfl, rfl⟩) fuel 0 (by show (40 - (0 : Int)).toNat < fuel; omega) ⟨0, rfl, Nat.zero_le _⟩
      rw [h1]; rfl
  · have e : (gcAll a0 a1 != 0) = true := by simp [hz]
    have e2 : (gcAll a0 a1 == 0) = false := by simp [hz]
    have hdeep : gate_Deep a0 a1 = some (0, gcAll a0 a1) := by
      unfold gate_Deep
      rw [gc_check, bind_some', e, cond_true]
    have hg5 : law_WideBuilds_g5 a1 (gcAll a0 a1) = some false := by
      unfold law_WideBuilds_g5
      rw [e2, cond_false]
    unfold law_WideBuilds wide_Build
    rw [hdeep, gc_gatecheck]
    simp only [bind_some', e, cond_true, hg5, cond_false]
    simp

end Go.Proofs.Ythjdegeajfhakaa.wideBuilds
namespace Go.Proofs.Ythjdegeajfhakaa.wideBuilds
open Go.ChangeShapes Go.WideShapes Go.ChangeAt Go.RowKit
open Go.ChangeMaps (open_string shut_string)
theorem own : ownKnob Try.prog.godebug = none := by kernel_rfl
theorem laidOut : laidOutB Try.prog = true := by kernel_rfl
theorem lifted (os : Os) (started : os.Started) (H : Type) (enc : TypeId × Value → H) :
    ReturnsInHanded {} Try.checked os 7 .any (Rows.wideBuildsSpec.pre6 enc Try.prog Try.f7 Rows.wideBuildsRow.domain false) (Rows.wideBuildsSpec.post enc Try.prog Try.f7 false true false false) := by
  refine returnsInHanded_of_change (C := Try.checked) own started (by kernel_rfl) Try.func7
    (ChangeSpec.witness6 (enc := enc) (C := Try.checked) false ⟨#[], #[.int .i64 0, .slice none 0 0], []⟩ 8 (by kernel_rfl) (by kernel_rfl) (by kernel_rfl) (by kernel_rfl)) ?_
  intro W base args ds gs before hval0 hW hcnd _
  have hval : ∀ (j : Nat) t v, Try.f7.params[j]? = some t → args[j]? = some v → Value.okWide Try.prog W .any base t v := hval0
  have hW' := hW
  obtain ⟨p, q, hA0, hV, rfl, hfz, hnd⟩ := hW
  have hA : DataW.TrodAll enc Try.prog W 0 (fun _ => true) true Try.f7.params.toList args.toList ds p := hA0
  rw [Try.params7] at hA hval
  obtain ⟨v0, vs0, d0, ds0, p0, q0, hargs, rfl, rfl, h0, r0⟩ := trodAll_cons hA
  obtain ⟨v1, vs1, d1, ds1, p1, q1, rfl, rfl, rfl, h1, r1⟩ := trodAll_cons r0
  obtain ⟨rfl, rfl, rfl⟩ := trodAll_nil r1
  obtain rfl : args = #[v0, v1] := by cases args; simp_all
  obtain ⟨rfl, rfl⟩ := trodVars_none hV
  obtain ⟨x0, f0, k0⟩ := Go.Sl.read_arg (u := (.int .i64)) (by kernel_rfl) (by kernel_rfl) (hval 0 3 v0 rfl rfl) h0
  have lt0 : ∀ x ∈ p0, x.block < W.heap.size := by obtain ⟨m, hm⟩ := h0; exact DataW.trod_lt m _ _ _ hm
  obtain ⟨x1, f1, k1⟩ := Go.Sl.read_arg (u := (.slice (.pair (.int .i64) (.pair (.int .i64) (.int .i64))))) (by kernel_rfl) (by kernel_rfl) (hval 1 33 v1 rfl rfl) h1
  have lt1 : ∀ x ∈ p1, x.block < W.heap.size := by obtain ⟨m, hm⟩ := h1; exact DataW.trod_lt m _ _ _ hm
  clear hA0 hval0
  obtain ⟨fuel, hm⟩ := WideBuilds_true x0 x1 f0 f1
  refine (Go.Sl.law_of (vs := [v0, v1]) (law_WideBuilds_ok hm) rfl (.cons (k0 _ _) (.cons (k1 _ _) .nil))).mono fun e W' ⟨he, bel⟩ => ?_
  subst he
  exact ⟨_, rfl, _, _, _, [], _, [], hW', trodAll_mk1 (shut_bool Try.underlying4 _), (trodAll_cons_mk (Below.trod laidOut (by kernel_rfl) (of_decide_eq_true (by kernel_rfl)) h0 bel lt0) (trodAll_cons_mk (Below.trod laidOut (by kernel_rfl) (of_decide_eq_true (by kernel_rfl)) h1 bel lt1) trodAll_mk0)), rfl, bel.frame _, fun h => by cases h⟩
theorem proved : Rows.WideBuildsSaid :=
  OpenClaim.holds_of_wide 7 Try.f7 rfl rfl rfl rfl rfl rfl rfl ⟨rfl, rfl, rfl, rfl, rfl⟩ rfl rfl rfl rfl rfl (by kernel_rfl) Try.func7 (by kernel_rfl)
    (of_decide_eq_true (by kernel_rfl)) (by unfold Func.isWrapper; first | (rw [if_pos (by decide +kernel)]; kernel_rfl) | (rw [if_neg (by decide +kernel)]; exact ⟨rfl, rfl⟩))
    (fun os started H enc _ => lifted os started H enc)
#print axioms proved
end Go.Proofs.Ythjdegeajfhakaa.wideBuilds
