/- For any circuit name.Build returns clauses with exactly one satisfying extension for inputs on which the circuit is true, and none otherwise: NameBuilds returns true and changes nothing; no conditions. -/
import Derived.Test.YtcallckeeohoaaaRows
import Derived.WalkKit
import Derived.ProofKit
import Derived.OpenShut
import Derived.ShutString
import Derived.ChangeOld
import Derived.Below
import Derived.Test.YtcallckeeohoaaaNameBuildsM2
set_option linter.all false
set_option maxRecDepth 100000
namespace Go.Proofs.Ytcallckeeohoaaa.nameBuilds
open Go Go.Sl

theorem within_eq (a b c : Int) : ref_Within a b c = some (decide (a ≤ b ∧ b ≤ c)) := by
  unfold ref_Within
  rw [Bool.decide_and]

theorem inside1 (n v : Int) : ref_Inside n [v] = some (decide (0 ≤ v ∧ v < n)) := by
  unfold ref_Inside
  rw [forL_ex (p := fun v => decide (v < 0) || decide (v ≥ n)) (y := Esc.ret false) (fun i a _ => by unfold ref_Inside_b1; cases (decide (a < 0) || decide (a ≥ n)) <;> rfl)]
  by_cases h : 0 ≤ v ∧ v < n
  · have : (decide (v < 0) || decide (v ≥ n)) = false := by simp only [Bool.or_eq_false_iff, decide_eq_false_iff_not]; omega
    simp [this, h]
  · have : (decide (v < 0) || decide (v ≥ n)) = true := by simp only [Bool.or_eq_true, decide_eq_true_eq]; omega
    simp [this, h]

def gc (a0 : Int) (n : Nat) (v : Int × Int × Int) : Option Int :=
  bif !decide (1 ≤ v.1 ∧ v.1 ≤ 4) then some 6 else bif (v.1 == 1) && !decide (0 ≤ v.2.1 ∧ v.2.1 < a0) then some 4
  else bif (!(v.1 == 1) && !decide (0 ≤ v.2.1 ∧ v.2.1 < n)) || (decide (v.1 ≥ 3) && !decide (0 ≤ v.2.2 ∧ v.2.2 < n)) then some 2 else none
theorem gc_body (a0 : Int) (n : Nat) (v : Int × Int × Int) : ref_GatesCheck_b10 a0 n v () = some (said Esc.ret (gc a0 n v)) := by
  unfold ref_GatesCheck_b10 ref_GatesCheck_g7 gc
  rw [within_eq, inside1, inside1, inside1]
  simp only [bne]
  generalize decide (1 ≤ v.1 ∧ v.1 ≤ 4) = c1
  generalize decide (0 ≤ v.2.1 ∧ v.2.1 < a0) = c2
  generalize decide (0 ≤ v.2.1 ∧ v.2.1 < (n : Int)) = c3
  generalize decide (0 ≤ v.2.2 ∧ v.2.2 < (n : Int)) = c4
  generalize (v.1 == 1) = c5
  generalize decide (v.1 ≥ 3) = c6
  cases c1 <;> cases c2 <;> cases c3 <;> cases c4 <;> cases c5 <;> cases c6 <;> rfl
theorem gc_pos {a0 : Int} {n : Nat} {v : Int × Int × Int} {e : Int} (h : gc a0 n v = some e) : e ≠ 0 := by
  unfold gc at h
  revert h
  generalize (!decide (1 ≤ v.1 ∧ v.1 ≤ 4)) = c1
  generalize ((v.1 == 1) && !decide (0 ≤ v.2.1 ∧ v.2.1 < a0)) = c2
  generalize ((!(v.1 == 1) && !decide (0 ≤ v.2.1 ∧ v.2.1 < (n : Int))) || (decide (v.1 ≥ 3) && !decide (0 ≤ v.2.2 ∧ v.2.2 < (n : Int)))) = c3
  cases c1 <;> cases c2 <;> cases c3 <;> simp <;> rintro rfl <;> decide
theorem gc_ref (a0 : Int) (l : List (Int × Int × Int)) : ref_GatesCheck a0 l = some ((firstOf (gc a0) 0 l).getD 0) := by
  unfold ref_GatesCheck
  rw [forL_findI (f := gc a0) (g := Esc.ret) (fun n a _ => gc_body a0 n a)]
  cases firstOf (gc a0) 0 l <;> rfl
def GatesOk (a0 : Int) (l : List (Int × Int × Int)) : Prop :=
  ∀ (j : Nat) (g : Int × Int × Int), l[j]? = some g → (1 ≤ g.1 ∧ g.1 ≤ 4) ∧ (g.1 = 1 → 0 ≤ g.2.1 ∧ g.2.1 < a0) ∧ (g.1 ≠ 1 → 0 ≤ g.2.1 ∧ g.2.1 < j) ∧ (3 ≤ g.1 → 0 ≤ g.2.2 ∧ g.2.2 < j)
theorem gc_ok {a0 : Int} {l : List (Int × Int × Int)} (h : (firstOf (gc a0) 0 l).getD 0 = 0) : GatesOk a0 l := by
  intro j g hg
  cases hf : firstOf (gc a0) 0 l with
  | some e =>
    rw [hf] at h
    obtain ⟨k, v, _, hv⟩ := firstOf_some hf
    exact (gc_pos hv h).elim
  | none =>
    obtain ⟨h1, h2⟩ := bif_none (firstOf_none hf hg)
    obtain ⟨h2, h3⟩ := bif_none h2
    obtain ⟨h3, _⟩ := bif_none h3
    simp only [Bool.not_eq_false', Bool.and_eq_false_iff, Bool.or_eq_false_iff, decide_eq_true_eq, decide_eq_false_iff_not, beq_eq_false_iff_ne, beq_iff_eq, ne_eq] at h1 h2 h3
    refine ⟨by omega, by omega, by omega, by omega⟩
theorem gc_of {a0 : Int} {l : List (Int × Int × Int)} (h : GatesOk a0 l) : ref_GatesCheck a0 l = some 0 := by
  rw [gc_ref]
  cases hf : firstOf (gc a0) 0 l with
  | none => rfl
  | some e =>
    obtain ⟨k, v, hk, hv⟩ := firstOf_some hf
    obtain ⟨h1, h2, h3, h4⟩ := h k v hk
    have c1 : (!decide (1 ≤ v.1 ∧ v.1 ≤ 4)) = false := by rw [decide_eq_true h1]; rfl
    have c2 : ((v.1 == 1) && !decide (0 ≤ v.2.1 ∧ v.2.1 < a0)) = false := by
      simp only [Bool.not_eq_false', Bool.and_eq_false_iff, decide_eq_true_eq, beq_eq_false_iff_ne, ne_eq]; omega
    have c3 : ((!(v.1 == 1) && !decide (0 ≤ v.2.1 ∧ v.2.1 < (k : Int))) || (decide (v.1 ≥ 3) && !decide (0 ≤ v.2.2 ∧ v.2.2 < (k : Int)))) = false := by
      simp only [Bool.not_eq_false', Bool.and_eq_false_iff, Bool.or_eq_false_iff, decide_eq_true_eq, decide_eq_false_iff_not, beq_iff_eq]; omega
    unfold gc at hv
    rw [c1, c2, c3] at hv
    cases hv
def gcAll (a0 : Int) (l : List (Int × Int × Int)) : Int :=
  if (0 ≤ a0 ∧ a0 ≤ 5) ∧ 1 ≤ (l.length : Int) ∧ (l.length : Int) ≤ 40 then (firstOf (gc a0) 0 l).getD 0 else 1
theorem gc_gatecheck (a0 : Int) (l : List (Int × Int × Int)) : ref_GateCheck a0 l = some (gcAll a0 l) := by
  unfold ref_GateCheck ref_GateCheck_g1 gcAll
  rw [within_eq, within_eq, gc_ref]
  by_cases h1 : 0 ≤ a0 ∧ a0 ≤ 5
  · by_cases h2 : 1 ≤ (l.length : Int) ∧ (l.length : Int) ≤ 40
    · rw [if_pos ⟨h1, h2⟩, decide_eq_true h1, decide_eq_true h2]; rfl
    · rw [if_neg (fun h => h2 h.2), decide_eq_true h1, decide_eq_false h2]; rfl
  · rw [if_neg (fun h => h1 h.1), decide_eq_false h1]; rfl
theorem gc_valid {a0 : Int} {l : List (Int × Int × Int)} (h : gcAll a0 l = 0) : ((0 ≤ a0 ∧ a0 ≤ 5) ∧ 1 ≤ (l.length : Int) ∧ (l.length : Int) ≤ 40) ∧ GatesOk a0 l := by
  unfold gcAll at h
  split at h
  · rename_i hc
    exact ⟨hc, gc_ok h⟩
  · omega
theorem gc_wrong_body (a0 : Int) (n : Nat) (v : Int × Int × Int) : gate_Wrong_b43 a0 n v () = some (said Esc.ret (gc a0 n v)) := by
  have ht : ∀ u : Int, gate_Wrong_1 u (n : Int) = some (decide (0 ≤ u ∧ u < (n : Int))) := by
    intro u
    unfold gate_Wrong_1
    rw [Bool.decide_and]
  unfold gate_Wrong_b43 gate_Wrong_g39 gc
  rw [ht, ht]
  have e : (bif decide (v.2.1 < (0 : Int)) then (some true) else (some (decide (v.2.1 ≥ a0)))) = some (!decide (0 ≤ v.2.1 ∧ v.2.1 < a0)) := by
    by_cases h1 : v.2.1 < 0
    · simp [h1]
    · by_cases h2 : v.2.1 < a0
      · simp [h1, h2, Int.not_lt.1 h1]
      · simp [h1, h2]; omega
  have e1 : (bif decide (v.1 < (1 : Int)) then (some true) else (some (decide (v.1 > (4 : Int))))) = some (!decide (1 ≤ v.1 ∧ v.1 ≤ 4)) := by
    by_cases h1 : 1 ≤ v.1 ∧ v.1 ≤ 4
    · rw [decide_eq_true h1, decide_eq_false (by omega), decide_eq_false (by omega)]; rfl
    · rw [decide_eq_false h1]
      by_cases h2 : v.1 < 1
      · rw [decide_eq_true h2]; rfl
      · rw [decide_eq_false h2, decide_eq_true (by omega)]; rfl
  rw [e, e1]
  by_cases h1 : 1 ≤ v.1 ∧ v.1 ≤ 4
  · rw [decide_eq_true h1]
    have k2 : decide (v.1 > 1) = !(v.1 == 1) := by
      rw [beq_dec, not_dec]; exact decide_eq_decide.2 (by omega)
    have k3 : decide (v.1 > 2) = decide (v.1 ≥ 3) := decide_eq_decide.2 (by omega)
    rw [k2, k3]
    generalize decide (0 ≤ v.2.1 ∧ v.2.1 < a0) = c2
    generalize decide (0 ≤ v.2.1 ∧ v.2.1 < (n : Int)) = c3
    generalize decide (0 ≤ v.2.2 ∧ v.2.2 < (n : Int)) = c4
    generalize (v.1 == 1) = c5
    generalize decide (v.1 ≥ 3) = c6
    cases c2 <;> cases c3 <;> cases c4 <;> cases c5 <;> cases c6 <;> rfl
  · rw [decide_eq_false h1]; rfl
theorem gc_wrong (a0 : Int) (l : List (Int × Int × Int)) : gate_Wrong a0 l = some ((firstOf (gc a0) 0 l).getD 0) := by
  unfold gate_Wrong
  rw [forL_findI (f := gc a0) (g := Esc.ret) (fun n a _ => gc_wrong_body a0 n a)]
  cases firstOf (gc a0) 0 l <;> rfl
theorem gc_check (a0 : Int) (l : List (Int × Int × Int)) : gate_Check a0 l = some (gcAll a0 l) := by
  unfold gate_Check gcAll
  rw [gc_wrong]
  by_cases h : (0 ≤ a0 ∧ a0 ≤ 5) ∧ 1 ≤ (l.length : Int) ∧ (l.length : Int) ≤ 40
  · have hb : ((((decide (a0 < (0 : Int))) || (decide (a0 > (5 : Int)))) || (decide ((List.length l : Int) < (1 : Int)))) || (decide ((List.length l : Int) > (40 : Int)))) = false := by
      simp only [Bool.or_eq_false_iff, decide_eq_false_iff_not]; omega
    rw [bif_f hb, if_pos h]; rfl
  · have hb : ((((decide (a0 < (0 : Int))) || (decide (a0 > (5 : Int)))) || (decide ((List.length l : Int) < (1 : Int)))) || (decide ((List.length l : Int) > (40 : Int)))) = true := by
      simp only [Bool.or_eq_true, decide_eq_true_eq]; omega
    rw [bif_t hb, if_neg h]

theorem bit_eq {w i : Nat} (hw : w < 2 ^ 63) (hi : i < 63) : ref_Bit (w : Int) (i : Int) = some (w.testBit i) := by
  unfold ref_Bit
  have c : (decide ((i : Int) ≥ 0) && decide ((i : Int) < 63)) = true := by simp; omega
  have e : IntKind.wrap .u64 (i : Int) = (i : Int) := wrap_u64 (by omega) (by omega)
  rw [c, e, ck_ok (by omega)]
  simp only [cond_true, Option.bind_some, bit_mask hw hi]

/-- one gate, by the inputs and what those ahead of it are -/
def gval (env : Nat → Bool) (v : List Bool) (g : Int × Int × Int) : Bool :=
  if g.1 = 1 then env g.2.1.toNat else if g.1 = 2 then !(v.getD g.2.1.toNat false)
  else if g.1 = 3 then v.getD g.2.1.toNat false && v.getD g.2.2.toNat false else v.getD g.2.1.toNat false || v.getD g.2.2.toNat false
def gall (env : Nat → Bool) : List (Int × Int × Int) → List Bool := fun l => l.foldl (fun v g => v ++ [gval env v g]) []
theorem gall_snoc (env : Nat → Bool) (l : List (Int × Int × Int)) (g : Int × Int × Int) : gall env (l ++ [g]) = gall env l ++ [gval env (gall env l) g] := by
  unfold gall
  rw [List.foldl_append]; rfl
theorem gall_len (env : Nat → Bool) (l : List (Int × Int × Int)) : (gall env l).length = l.length := by
  induction l using snoc_ind with
  | h0 => rfl
  | h1 l g ih => rw [gall_snoc]; simp [ih]
theorem gall_take (env : Nat → Bool) (l : List (Int × Int × Int)) : ∀ n, (gall env l).take n = gall env (l.take n) := by
  induction l using snoc_ind with
  | h0 => intro n; simp [gall]
  | h1 l g ih =>
    intro n
    rw [gall_snoc]
    rcases Nat.lt_or_ge l.length n with h | h
    · rw [List.take_of_length_le (by simp [gall_len]; omega), List.take_of_length_le (by simp; omega), gall_snoc]
    · rw [List.take_append_of_le_length (by rw [gall_len]; exact h), List.take_append_of_le_length h]
      exact ih n
theorem gall_get (env : Nat → Bool) {l : List (Int × Int × Int)} {n : Nat} {g : Int × Int × Int} (h : l[n]? = some g) : (gall env l)[n]? = some (gval env ((gall env l).take n) g) := by
  have hn := (List.getElem?_eq_some_iff.1 h).1
  have e1 : l.take (n + 1) = l.take n ++ [g] := by
    rw [List.take_add_one, h]; rfl
  have e2 : (gall env l)[n]? = ((gall env l).take (n + 1))[n]? := by rw [List.getElem?_take_of_lt (by omega)]
  rw [e2, gall_take, e1, gall_snoc, List.getElem?_append_right (by rw [gall_len]; simp; omega), gall_len]
  have : n - (l.take n).length = 0 := by simp; omega
  rw [this, gall_take]; rfl
theorem getD_take {v : List Bool} {n k : Nat} (h : k < n) : (v.take n).getD k false = v.getD k false := by
  rw [List.getD_eq_getElem?_getD, List.getD_eq_getElem?_getD, List.getElem?_take_of_lt h]
theorem gval_take {a0 : Int} {l : List (Int × Int × Int)} (hok : GatesOk a0 l) (env : Nat → Bool) (v : List Bool) {n : Nat} {g : Int × Int × Int} (h : l[n]? = some g) : gval env (v.take n) g = gval env v g := by
  obtain ⟨h1, h2, h3, h4⟩ := hok n g h
  unfold gval
  split
  · rfl
  · rename_i k1
    have e1 : (v.take n).getD g.2.1.toNat false = v.getD g.2.1.toNat false := getD_take (by have := h3 k1; omega)
    split
    · rw [e1]
    · rename_i k2
      have e2 : (v.take n).getD g.2.2.toNat false = v.getD g.2.2.toNat false := getD_take (by have := h4 (by omega); omega)
      split
      · rw [e1, e2]
      · rw [e1, e2]
theorem gall_get' {a0 : Int} {l : List (Int × Int × Int)} (hok : GatesOk a0 l) (env : Nat → Bool) {n : Nat} {g : Int × Int × Int} (h : l[n]? = some g) : (gall env l)[n]? = some (gval env (gall env l) g) := by
  rw [gall_get env h, gval_take hok env _ h]
theorem getD_idx {x : List Bool} {i : Int} (h0 : 0 ≤ i) (h : i < (x.length : Int)) : idx x i = some (x.getD i.toNat false) := by
  obtain ⟨b, hb, hb2⟩ := idx_get h0 h
  rw [hb, List.getD_eq_getElem?_getD, hb2]; rfl
/-- what the document's circuit values are -/
theorem gates_ref {a0 : Int} {l : List (Int × Int × Int)} (hok : GatesOk a0 l) (ha : a0 ≤ 63) (hl : l.length ≤ 4294967296) (w : Nat) (hw : w < 2 ^ 63) : ref_Gates l (w : Int) = some (gall w.testBit l) := by
  unfold ref_Gates
  rw [ck_ok (by omega)]
  have hG := gall_len w.testBit l
  obtain ⟨y, hy, rfl⟩ := forL_inv (body := ref_Gates_b7 (w : Int)) (fin := fun x => x) (l := l) (x := List.replicate (Int.toNat (l.length : Int)) false)
    (fun n x => x.length = l.length ∧ ∀ j, j < n → x[j]? = (gall w.testBit l)[j]?) (fun y => y = gall w.testBit l) ⟨by simp, fun j hj => by omega⟩
    (by
      rintro n g x hg ⟨hx, hv⟩
      have hn := (List.getElem?_eq_some_iff.1 hg).1
      obtain ⟨h1, h2, h3, h4⟩ := hok n g hg
      obtain ⟨old, ho, _⟩ := idx_get (xs := x) (i := (n : Int)) (by omega) (by omega)
      have same : ∀ k, k < n → x.getD k false = (gall w.testBit l).getD k false := by
        intro k hk
        rw [List.getD_eq_getElem?_getD, List.getD_eq_getElem?_getD, hv k hk]
      have step : ref_Gates_b7 (w : Int) (n : Int) g x = some (.next (x.set n (gval w.testBit (gall w.testBit l) g))) := by
        unfold ref_Gates_b7 ref_Gates_g5 gval
        by_cases k1 : g.1 = 1
        · obtain ⟨i, hi⟩ := Int.eq_ofNat_of_zero_le (h2 k1).1
          have := (h2 k1).2
          simp [k1, hi, bit_eq hw (show i < 63 by omega), ho]
        · have b1 : (g.1 == 1) = false := by simp [k1]
          have a1 := h3 k1
          have e1 : idx x g.2.1 = some ((gall w.testBit l).getD g.2.1.toNat false) := by
            rw [getD_idx a1.1 (by omega), same _ (by omega)]
          rw [b1, if_neg k1]
          by_cases k2 : g.1 = 2
          · simp [k2, e1, ho]
          · have b2 : (g.1 == 2) = false := by simp [k2]
            have a2 := h4 (by omega)
            have e2 : idx x g.2.2 = some ((gall w.testBit l).getD g.2.2.toNat false) := by
              rw [getD_idx a2.1 (by omega), same _ (by omega)]
            rw [b2, if_neg k2]
            rw [e1, e2, ho]
            generalize (gall w.testBit l).getD g.2.1.toNat false = p
            generalize (gall w.testBit l).getD g.2.2.toNat false = q
            by_cases k3 : g.1 = 3
            · cases p <;> cases q <;> simp [k3]
            · have k4 : g.1 = 4 := by omega
              cases p <;> cases q <;> simp [k4]
      refine ⟨_, step, by simpa using hx, ?_⟩
      intro j hj
      rcases Nat.lt_or_ge j n with hjn | hjn
      · rw [List.getElem?_set_ne (by omega)]; exact hv j hjn
      · have : j = n := by omega
        subst this
        rw [List.getElem?_set_self (by omega), gall_get' hok _ hg])
    (by
      rintro x ⟨hx, hv⟩
      apply List.ext_getElem?
      intro j
      rcases Nat.lt_or_ge j l.length with h | h
      · exact hv j h
      · rw [List.getElem?_eq_none (by omega), List.getElem?_eq_none (by omega)])
  rw [hy]; rfl

theorem nm_idx {x : List Bool} {i : Int} (h0 : 0 ≤ i) (h : i < (x.length : Int)) : idx x i = some (x.getD i.toNat false) := by
  obtain ⟨b, h1, h2⟩ := idx_get h0 h
  rw [h1, List.getD_eq_getElem?_getD, h2]; rfl
def clT (b : List Bool) (v : List Int × List Int) : Bool := v.1.any (fun x => b.getD x.toNat false) || v.2.any (fun x => !b.getD x.toNat false)

abbrev NC := List (List Int × List Int)
/-- the ways to fill in what is open -/
def ext : List Int → List (List Bool)
  | [] => [[]]
  | c :: v => if c < 0 then (ext v).map (false :: ·) ++ (ext v).map (true :: ·) else (ext v).map ((c == 1) :: ·)
theorem ext_mem : ∀ (v : List Int) (x : List Bool), x ∈ ext v ↔ x.length = v.length ∧ ∀ (i : Nat) (c : Int), v[i]? = some c → 0 ≤ c → x.getD i false = (c == 1)
  | [], x => by simp [ext]
  | c :: v, [] => by
    simp only [ext]
    split <;> simp
  | c :: v, b :: x => by
    have ih := ext_mem v x
    have key : (b :: x).length = (c :: v).length ∧ (∀ (i : Nat) (d : Int), (c :: v)[i]? = some d → 0 ≤ d → (b :: x).getD i false = (d == 1)) ↔ (0 ≤ c → b = (c == 1)) ∧ x ∈ ext v := by
      rw [ih]
      constructor
      · rintro ⟨h1, h2⟩
        exact ⟨fun hc => by simpa using h2 0 c rfl hc, by simpa using h1, fun i d hd h0 => by simpa using h2 (i + 1) d (by simpa using hd) h0⟩
      · rintro ⟨h1, h2, h3⟩
        refine ⟨by simpa using h2, fun i d hd h0 => ?_⟩
        cases i with
        | zero =>
          obtain rfl : c = d := by simpa using hd
          simpa using h1 h0
        | succ i => simpa using h3 i d (by simpa using hd) h0
    rw [key]
    simp only [ext]
    split
    · rename_i hc
      simp only [List.mem_append, List.mem_map, List.cons.injEq]
      constructor
      · rintro (⟨y, hy, _, rfl⟩ | ⟨y, hy, _, rfl⟩) <;> exact ⟨fun h => by omega, hy⟩
      · rintro ⟨_, hx⟩
        cases b
        · exact .inl ⟨x, hx, rfl, rfl⟩
        · exact .inr ⟨x, hx, rfl, rfl⟩
    · rename_i hc
      simp only [List.mem_map, List.cons.injEq]
      constructor
      · rintro ⟨y, hy, h, rfl⟩; exact ⟨fun _ => h.symm, hy⟩
      · rintro ⟨h, hx⟩; exact ⟨x, hx, (h (by omega)).symm, rfl⟩
def ncnt (p : List Bool → Bool) (v : List Int) : Nat := (ext v).countP p
theorem ncnt_split : ∀ (v : List Int) (i : Nat) (c : Int) (p : List Bool → Bool), v[i]? = some c → c < 0 → ncnt p v = ncnt p (v.set i 0) + ncnt p (v.set i 1)
  | [], i, c, p, h, _ => by simp at h
  | d :: v, 0, c, p, h, hc => by
    obtain rfl : d = c := by simpa using h
    have e0 : ext ((d :: v).set 0 0) = (ext v).map (false :: ·) := rfl
    have e1 : ext ((d :: v).set 0 1) = (ext v).map (true :: ·) := rfl
    unfold ncnt
    rw [e0, e1]
    simp only [ext, if_pos hc, List.countP_append]
  | d :: v, i + 1, c, p, h, hc => by
    have ih := fun p => ncnt_split v i c p (by simpa using h) hc
    unfold ncnt at ih ⊢
    simp only [List.set_cons_succ, ext]
    split
    · simp only [List.countP_append, List.countP_map]
      rw [ih, ih]; omega
    · simp only [List.countP_map]
      exact ih _
theorem ncnt_zero {p : List Bool → Bool} {v : List Int} (h : ∀ x ∈ ext v, p x = false) : ncnt p v = 0 := by
  unfold ncnt
  rw [List.countP_eq_zero]
  intro x hx
  simp [h x hx]
theorem set_getD {v : List Int} {i j : Nat} (b : Int) (h : i < v.length) : (v.set i b).getD j 0 = if i = j then b else v.getD j 0 := by
  rw [List.getD_eq_getElem?_getD, List.getD_eq_getElem?_getD, List.getElem?_set]
  by_cases e : i = j
  · subst e; simp [h]
  · simp [e]
theorem ext_set {v : List Int} {i : Nat} {c b : Int} (hi : v[i]? = some c) (hc : c < 0) (hb : 0 ≤ b) {x : List Bool} (hx : x ∈ ext (v.set i b)) : x ∈ ext v ∧ x.getD i false = (b == 1) := by
  have hil := (List.getElem?_eq_some_iff.1 hi).1
  obtain ⟨h1, h2⟩ := (ext_mem _ _).1 hx
  refine ⟨(ext_mem _ _).2 ⟨by simpa using h1, fun j d hd h0 => h2 j d ?_ h0⟩, h2 i b (by simp [hil]) hb⟩
  rw [List.getElem?_set]
  by_cases e : i = j
  · subst e; rw [hi] at hd; have := Option.some.inj hd; omega
  · rw [if_neg e]; exact hd
theorem ncnt_forced {p : List Bool → Bool} {v : List Int} {i : Nat} {c : Int} (hi : v[i]? = some c) (hc : c < 0) (s : Bool) (h : ∀ x ∈ ext v, p x = true → x.getD i false = s) : ncnt p v = ncnt p (v.set i (bif s then 1 else 0)) := by
  rw [ncnt_split v i c p hi hc]
  have other : ∀ b : Int, 0 ≤ b → (b == 1) = !s → ncnt p (v.set i b) = 0 := fun b hb hs => ncnt_zero (fun x hx => by
    obtain ⟨h1, h2⟩ := ext_set hi hc hb hx
    cases hp : p x with
    | false => rfl
    | true =>
      have := h x h1 hp
      rw [h2, hs] at this
      cases s <;> cases this)
  cases s with
  | false => rw [other 1 (by omega) rfl]; rfl
  | true => rw [other 0 (by omega) rfl]; simp
def un (v : List Int) : Nat := v.countP (· < 0)
theorem un_set : ∀ (v : List Int) (i : Nat) (c b : Int), v[i]? = some c → c < 0 → 0 ≤ b → un (v.set i b) + 1 = un v
  | [], i, c, b, h, _, _ => by simp at h
  | d :: v, 0, c, b, h, hc, hb => by
    obtain rfl : d = c := by simpa using h
    unfold un
    have h1 : decide (b < 0) = false := decide_eq_false (by omega)
    simp [List.set_cons_zero, List.countP_cons, h1, hc]
  | d :: v, i + 1, c, b, h, hc, hb => by
    have ih := un_set v i c b (by simpa using h) hc hb
    unfold un at ih ⊢
    rw [List.set_cons_succ, List.countP_cons, List.countP_cons]; omega
theorem un_le (v : List Int) : un v ≤ v.length := List.countP_le_length
theorem un_none {v : List Int} (h : un v = 0) : ∀ c ∈ v, 0 ≤ c := by
  intro c hc
  have := List.countP_eq_zero.1 h c hc
  simpa using this
theorem ext_full : ∀ (v : List Int), (∀ c ∈ v, 0 ≤ c) → ext v = [v.map (· == 1)]
  | [], _ => rfl
  | c :: v, h => by
    have h0 := h c (by simp)
    simp only [ext, if_neg (show ¬ c < 0 by omega), ext_full v (fun d hd => h d (by simp [hd]))]
    rfl
/-- signs -/
def sgn (s : Bool) : Int := bif s then 1 else 0
def lits (c : List Int × List Int) : List (Int × Bool) := c.1.map (·, true) ++ c.2.map (·, false)
structure Gd (N : Nat) (v : List Int) : Prop where
  len : v.length = N
  v3 : ∀ c ∈ v, c = -1 ∨ c = 0 ∨ c = 1
theorem Gd.get {N : Nat} {v : List Int} (h : Gd N v) {i : Int} (hi : 0 ≤ i ∧ i < (N : Int)) : idx v i = some (v.getD i.toNat 0) ∧ v[i.toNat]? = some (v.getD i.toNat 0) ∧ (v.getD i.toNat 0 = -1 ∨ v.getD i.toNat 0 = 0 ∨ v.getD i.toNat 0 = 1) := by
  obtain ⟨c, h1, h2⟩ := idx_get (xs := v) hi.1 (by rw [h.len]; exact hi.2)
  have e : v.getD i.toNat 0 = c := by rw [List.getD_eq_getElem?_getD, h2]; rfl
  rw [e]
  exact ⟨h1, h2, h.v3 c (List.mem_of_getElem? h2)⟩
theorem Gd.set {N : Nat} {v : List Int} (h : Gd N v) (i : Nat) (s : Bool) : Gd N (v.set i (sgn s)) := by
  refine ⟨by rw [List.length_set]; exact h.len, fun c hc => ?_⟩
  rcases List.mem_or_eq_of_mem_set hc with hc | rfl
  · exact h.v3 c hc
  · cases s
    · exact .inr (.inl rfl)
    · exact .inr (.inr rfl)
def inR (N : Nat) (c : List Int × List Int) : Prop := (∀ x ∈ c.1, 0 ≤ x ∧ x < (N : Int)) ∧ (∀ x ∈ c.2, 0 ≤ x ∧ x < (N : Int))
theorem inR.lit {N : Nat} {c : List Int × List Int} (h : inR N c) : ∀ q ∈ lits c, 0 ≤ q.1 ∧ q.1 < (N : Int) := by
  intro q hq
  unfold lits at hq
  rcases List.mem_append.1 hq with hq | hq
  · obtain ⟨x, hx, rfl⟩ := List.mem_map.1 hq; exact h.1 x hx
  · obtain ⟨x, hx, rfl⟩ := List.mem_map.1 hq; exact h.2 x hx
theorem clT_lits (x : List Bool) (c : List Int × List Int) : clT x c = true ↔ ∃ q ∈ lits c, x.getD q.1.toNat false = q.2 := by
  unfold clT lits
  rw [Bool.or_eq_true, List.any_eq_true, List.any_eq_true]
  constructor
  · rintro (⟨l, hl, h⟩ | ⟨l, hl, h⟩)
    · exact ⟨(l, true), List.mem_append_left _ (List.mem_map.2 ⟨l, hl, rfl⟩), h⟩
    · exact ⟨(l, false), List.mem_append_right _ (List.mem_map.2 ⟨l, hl, rfl⟩), by simpa using h⟩
  · rintro ⟨q, hq, h⟩
    rcases List.mem_append.1 hq with hq | hq
    · obtain ⟨l, hl, rfl⟩ := List.mem_map.1 hq; exact .inl ⟨l, hl, h⟩
    · obtain ⟨l, hl, rfl⟩ := List.mem_map.1 hq; exact .inr ⟨l, hl, by simpa using h⟩
abbrev ST := Int × Int × Int × Bool
structure LInv (v : List Int) (done : List (Int × Bool)) (st : ST) : Prop where
  lo : 0 ≤ st.2.2.1
  hi : st.2.2.1 ≤ done.length
  sat : st.2.2.2 = true → ∃ q ∈ done, v.getD q.1.toNat 0 = sgn q.2
  uns : st.2.2.2 = false → ∀ q ∈ done, v.getD q.1.toNat 0 ≠ sgn q.2
  zero : st.2.2.1 = 0 → ∀ q ∈ done, 0 ≤ v.getD q.1.toNat 0
  pos : 0 < st.2.2.1 → ∃ q ∈ done, v.getD q.1.toNat 0 < 0
  one : st.2.2.1 = 1 → ∃ s, (st.1, s) ∈ done ∧ st.2.1 = sgn s ∧ v.getD st.1.toNat 0 < 0 ∧ ∀ q ∈ done, q ≠ (st.1, s) → 0 ≤ v.getD q.1.toNat 0
def lstep (v : List Int) (st : ST) (q : Int × Bool) : ST :=
  bif decide (v.getD q.1.toNat 0 < 0) then (q.1, sgn q.2, st.2.2.1 + 1, st.2.2.2 || (v.getD q.1.toNat 0 == sgn q.2)) else (st.1, st.2.1, st.2.2.1, st.2.2.2 || (v.getD q.1.toNat 0 == sgn q.2))
theorem LInv.step {v : List Int} {done : List (Int × Bool)} {st : ST} (h : LInv v done st) (q : Int × Bool) : LInv v (done ++ [q]) (lstep v st q) := by
  have hs0 : ∀ s, 0 ≤ sgn s := fun s => by cases s <;> simp [sgn]
  have mem1 : ∀ {r}, r ∈ done ++ [q] → r ∈ done ∨ r = q := fun hr => by simpa using hr
  unfold lstep
  by_cases hc : v.getD q.1.toNat 0 < 0
  · have hne : (v.getD q.1.toNat 0 == sgn q.2) = false := by
      have := hs0 q.2
      simp only [beq_eq_false_iff_ne]; omega
    rw [decide_eq_true hc, cond_true, hne, Bool.or_false]
    refine ⟨by dsimp only; have := h.lo; omega, by dsimp only; rw [List.length_append, List.length_singleton]; have := h.hi; omega, fun hs => ?_, fun hs r hr => ?_, fun hz => ?_, fun _ => ⟨q, by simp, hc⟩, fun h1 => ?_⟩
    · obtain ⟨r, hr, e⟩ := h.sat hs; exact ⟨r, by simp [hr], e⟩
    · rcases mem1 hr with hr | rfl
      · exact h.uns hs r hr
      · have := hs0 r.2; omega
    · dsimp only at hz; have := h.lo; omega
    · dsimp only at h1
      refine ⟨q.2, by simp, rfl, hc, fun r hr hne => ?_⟩
      rcases mem1 hr with hr | rfl
      · exact h.zero (by omega) r hr
      · exact (hne rfl).elim
  · rw [decide_eq_false hc, cond_false]
    refine ⟨h.lo, by dsimp only; rw [List.length_append, List.length_singleton]; have := h.hi; omega, fun hs => ?_, fun hs r hr => ?_, fun hz r hr => ?_, fun hp => ?_, fun h1 => ?_⟩
    · dsimp only at hs
      rcases Bool.or_eq_true_iff.1 hs with hs | hs
      · obtain ⟨r, hr, e⟩ := h.sat hs; exact ⟨r, by simp [hr], e⟩
      · exact ⟨q, by simp, by simpa using hs⟩
    · dsimp only at hs
      obtain ⟨h1, h2⟩ := Bool.or_eq_false_iff.1 hs
      rcases mem1 hr with hr | rfl
      · exact h.uns h1 r hr
      · simpa using h2
    · rcases mem1 hr with hr | rfl
      · exact h.zero hz r hr
      · omega
    · obtain ⟨r, hr, e⟩ := h.pos hp; exact ⟨r, by simp [hr], e⟩
    · obtain ⟨s, h2, h3, h4, h5⟩ := h.one h1
      refine ⟨s, by simp [h2], h3, h4, fun r hr hne => ?_⟩
      rcases mem1 hr with hr | rfl
      · exact h5 r hr hne
      · omega
theorem ch_step1 {N : Nat} {v : List Int} (h : Gd N v) {ch : Bool} {st : ST} (hst : 0 ≤ st.2.2.1 ∧ st.2.2.1 ≤ 1000000) {l : Int} (hl : 0 ≤ l ∧ l < (N : Int)) (i : Int) :
    ref_choices_b894 (ch, v) i l st = some (.next (lstep v st (l, true))) := by
  obtain ⟨h1, _, h3⟩ := h.get hl
  unfold ref_choices_b894 ref_choices_g892 lstep
  dsimp only
  rw [h1]
  have e : (bif st.2.2.2 then some true else (some (v.getD l.toNat 0)).bind fun v7987 => some (v7987 == (1 : Int))) = some (st.2.2.2 || (v.getD l.toNat 0 == 1)) := by cases st.2.2.2 <;> rfl
  rw [e]
  simp only [bind_some']
  rw [w64_id (by omega) (by omega)]
  cases decide (v.getD l.toNat 0 < 0) <;> rfl
theorem ch_step0 {N : Nat} {v : List Int} (h : Gd N v) {ch : Bool} {st : ST} (hst : 0 ≤ st.2.2.1 ∧ st.2.2.1 ≤ 1000000) {l : Int} (hl : 0 ≤ l ∧ l < (N : Int)) (i : Int) :
    ref_choices_b912 (ch, v) i l st = some (.next (lstep v st (l, false))) := by
  obtain ⟨h1, _, h3⟩ := h.get hl
  unfold ref_choices_b912 ref_choices_g910 lstep
  dsimp only
  rw [h1]
  have e : (bif st.2.2.2 then some true else (some (v.getD l.toNat 0)).bind fun v7987 => some (v7987 == (0 : Int))) = some (st.2.2.2 || (v.getD l.toNat 0 == 0)) := by cases st.2.2.2 <;> rfl
  rw [e]
  simp only [bind_some']
  rw [w64_id (by omega) (by omega)]
  cases decide (v.getD l.toNat 0 < 0) <;> rfl
/-- a clause that has something true, or something open -/
def Okc (v : List Int) (c : List Int × List Int) : Prop := (∃ q ∈ lits c, v.getD q.1.toNat 0 = sgn q.2) ∨ ∃ q ∈ lits c, v.getD q.1.toNat 0 < 0
def sz (c : List Int × List Int) : Prop := c.1.length ≤ 1000 ∧ c.2.length ≤ 1000
theorem lit_false {N : Nat} {v : List Int} (h : Gd N v) {x : List Bool} (hx : x ∈ ext v) {q : Int × Bool} (hq : 0 ≤ q.1 ∧ q.1 < (N : Int)) (h0 : 0 ≤ v.getD q.1.toNat 0) (hn : v.getD q.1.toNat 0 ≠ sgn q.2) : x.getD q.1.toNat false ≠ q.2 := by
  obtain ⟨_, h2, h3⟩ := h.get hq
  have := ((ext_mem _ _).1 hx).2 _ _ h2 h0
  rw [this]
  obtain ⟨l, s⟩ := q
  dsimp only at *
  rcases h3 with e | e | e
  · omega
  · rw [e] at hn ⊢; cases s
    · exact (hn rfl).elim
    · decide
  · rw [e] at hn ⊢; cases s
    · decide
    · exact (hn rfl).elim
theorem ch_clause {N : Nat} {v : List Int} (h : Gd N v) (ch : Bool) {c : List Int × List Int} (hc : inR N c) (hsz : sz c) :
    (ref_choices_g915 (ch, v) c = some (.brk (ch, v)) ∧ Okc v c) ∨
    (ref_choices_g915 (ch, v) c = some (.ret 0) ∧ ∀ x ∈ ext v, clT x c = false) ∨
    (∃ (i : Nat) (d : Int) (s : Bool), ref_choices_g915 (ch, v) c = some (.brk (true, v.set i (sgn s))) ∧ v[i]? = some d ∧ d < 0 ∧ ∀ x ∈ ext v, clT x c = true → x.getD i false = s) := by
  obtain ⟨h1, h2⟩ := hc
  obtain ⟨st, p1, p2⟩ := forL_inv (body := ref_choices_b894 (ch, v)) (fin := fun x7947 => (x7947.1, x7947.2.1, x7947.2.2.1, x7947.2.2.2)) (l := c.1) (x := ((-1 : Int), (0 : Int), (0 : Int), false))
    (fun n st => LInv v ((c.1.take n).map (·, true)) st) (fun st => LInv v (c.1.map (·, true)) st)
    ⟨by simp, by simp, by simp, by simp, by simp, by simp, by simp⟩
    (fun n l st hl hst => by
      have hlt := (List.getElem?_eq_some_iff.1 hl).1
      have hh := hst.hi
      have hz := hsz.1
      rw [List.length_map, List.length_take] at hh
      refine ⟨_, ch_step1 h ⟨hst.lo, by omega⟩ (h1 l (List.mem_of_getElem? hl)) _, ?_⟩
      rw [List.take_add_one, hl, List.map_append]
      exact hst.step (l, true))
    (fun st hst => by rw [List.take_length] at hst; exact hst)
  obtain ⟨st2, q1, q2⟩ := forL_inv (body := ref_choices_b912 (ch, v)) (fin := fun x8107 => (x8107.1, x8107.2.1, x8107.2.2.1, x8107.2.2.2)) (l := c.2) (x := (st.1, st.2.1, st.2.2.1, st.2.2.2))
    (fun n st => LInv v (c.1.map (·, true) ++ (c.2.take n).map (·, false)) st) (fun st => LInv v (lits c) st)
    (by rw [List.take_zero, List.map_nil, List.append_nil]; exact p2)
    (fun n l st hl hst => by
      have hlt := (List.getElem?_eq_some_iff.1 hl).1
      have hh := hst.hi
      have hz := hsz.1
      have hz2 := hsz.2
      rw [List.length_append, List.length_map, List.length_map, List.length_take] at hh
      refine ⟨_, ch_step0 h ⟨hst.lo, by omega⟩ (h2 l (List.mem_of_getElem? hl)) _, ?_⟩
      rw [List.take_add_one, hl, List.map_append, ← List.append_assoc]
      exact hst.step (l, false))
    (fun st hst => by rw [List.take_length] at hst; exact hst)
  have hr := inR.lit ⟨h1, h2⟩
  unfold ref_choices_g915
  rw [p1, bind_some', q1, bind_some']
  cases hs : st2.2.2.2 with
  | true => exact .inl ⟨rfl, .inl (q2.sat hs)⟩
  | false =>
    rw [cond_false]
    by_cases h0 : st2.2.2.1 = 0
    · have e : (st2.2.2.1 == (0 : Int)) = true := by simp [h0]
      rw [e, cond_true]
      refine .inr (.inl ⟨rfl, fun x hx => ?_⟩)
      cases hx2 : clT x c with
      | false => rfl
      | true =>
        obtain ⟨q, hq, e⟩ := (clT_lits x c).1 hx2
        exact (lit_false h hx (hr q hq) (q2.zero h0 q hq) (q2.uns hs q hq) e).elim
    · have e : (st2.2.2.1 == (0 : Int)) = false := by simp [h0]
      rw [e, cond_false]
      by_cases h01 : st2.2.2.1 = 1
      · have e : (st2.2.2.1 == (1 : Int)) = true := by simp [h01]
        rw [e, cond_true]
        obtain ⟨s, a1, a2, a3, a4⟩ := q2.one h01
        obtain ⟨g1, g2, _⟩ := h.get (hr _ a1)
        dsimp only at g1 g2
        rw [g1, bind_some', a2]
        refine .inr (.inr ⟨st2.1.toNat, _, s, rfl, g2, a3, fun x hx hx2 => ?_⟩)
        obtain ⟨q, hq, e⟩ := (clT_lits x c).1 hx2
        by_cases hqe : q = (st2.1, s)
        · rw [hqe] at e; exact e
        · exact (lit_false h hx (hr q hq) (a4 q hq hqe) (q2.uns hs q hq) e).elim
      · have e : (st2.2.2.1 == (1 : Int)) = false := by simp [h01]
        rw [e, cond_false]
        exact .inl ⟨rfl, .inr (q2.pos (by have := q2.lo; omega))⟩
def allT (cl : NC) (x : List Bool) : Bool := cl.all (clT x)
structure ClOk (N : Nat) (cl : NC) : Prop where
  inr : ∀ c ∈ cl, inR N c
  sz : ∀ c ∈ cl, sz c
  len : N ≤ 45
theorem ch_pass {N : Nat} {cl : NC} (hcl : ClOk N cl) {v0 : List Int} (h0 : Gd N v0) :
    ∃ y, forL ref_choices_b918 (fun x7268 => (.brk (x7268.1, x7268.2))) cl 0 (false, v0) = some y ∧
      match y with
      | .ret r => r = 0 ∧ ncnt (allT cl) v0 = 0
      | .brk z => Gd N z.2 ∧ ncnt (allT cl) z.2 = ncnt (allT cl) v0 ∧ un z.2 ≤ un v0 ∧ (z.1 = true → un z.2 < un v0) ∧ (z.1 = false → z.2 = v0 ∧ ∀ c ∈ cl, Okc v0 c) := by
  refine forL_inv (fun n z => Gd N z.2 ∧ ncnt (allT cl) z.2 = ncnt (allT cl) v0 ∧ un z.2 ≤ un v0 ∧ (z.1 = true → un z.2 < un v0) ∧ (z.1 = false → z.2 = v0 ∧ ∀ c ∈ cl.take n, Okc v0 c)) _
    ⟨h0, rfl, Nat.le_refl _, (fun e => by cases e), fun _ => ⟨rfl, by simp⟩⟩ ?_ ?_
  · rintro n c ⟨ch, v⟩ hc ⟨i1, i2, i3, i4, i5⟩
    dsimp only at i1 i2 i3 i4 i5
    have hmem := List.mem_of_getElem? hc
    unfold ref_choices_b918
    rcases ch_clause i1 ch (hcl.inr c hmem) (hcl.sz c hmem) with ⟨e1, e2⟩ | ⟨e1, e2⟩ | ⟨i, d, s, e1, e2, e3, e4⟩
    · rw [e1]
      refine ⟨_, rfl, i1, i2, i3, i4, fun hf => ?_⟩
      obtain ⟨rfl, k2⟩ := i5 hf
      refine ⟨rfl, fun c' hc' => ?_⟩
      rw [List.take_add_one, hc] at hc'
      rcases List.mem_append.1 hc' with hc' | hc'
      · exact k2 c' hc'
      · obtain rfl : c' = c := by simpa using hc'
        exact e2
    · rw [e1]
      refine ⟨_, rfl, rfl, ?_⟩
      rw [← i2]
      refine ncnt_zero (fun x hx => ?_)
      unfold allT
      rw [List.all_eq_false]
      exact ⟨c, hmem, by simp [e2 x hx]⟩
    · rw [e1]
      have hu := un_set v i d (sgn s) e2 e3 (by cases s <;> simp [sgn])
      refine ⟨_, rfl, i1.set i s, ?_, by dsimp only; omega, fun _ => by dsimp only; omega, fun hf => by cases hf⟩
      dsimp only
      rw [← i2]
      exact (ncnt_forced e2 e3 s (fun x hx hp => e4 x hx (List.all_eq_true.1 hp c hmem))).symm
  · rintro ⟨ch, v⟩ ⟨i1, i2, i3, i4, i5⟩
    rw [List.take_length] at i5
    exact ⟨i1, i2, i3, i4, i5⟩
theorem ch_while {N : Nat} {cl : NC} (hcl : ClOk N cl) {v0 : List Int} (h0 : Gd N v0) {fuel : Nat} (hf : 100 ≤ fuel) :
    ∃ y, iter (ref_choices_b922 cl) fuel (true, v0) = some y ∧
      match y with
      | .ret r => r = 0 ∧ ncnt (allT cl) v0 = 0
      | .brk v => Gd N v ∧ ncnt (allT cl) v = ncnt (allT cl) v0 ∧ un v ≤ un v0 ∧ ∀ c ∈ cl, Okc v c := by
  have hu := un_le v0
  rw [h0.len] at hu
  have hN := hcl.len
  refine iter_inv (fun z => Gd N z.2 ∧ ncnt (allT cl) z.2 = ncnt (allT cl) v0 ∧ un z.2 ≤ un v0 ∧ (z.1 = false → ∀ c ∈ cl, Okc z.2 c)) (fun z => 2 * un z.2 + (bif z.1 then 1 else 0)) _ ?_ fuel (true, v0) (by dsimp only [cond_true]; omega) ⟨h0, rfl, Nat.le_refl _, fun e => by cases e⟩
  rintro ⟨ch, v⟩ ⟨i1, i2, i3, i4⟩
  dsimp only at i1 i2 i3 i4
  unfold ref_choices_b922
  cases ch with
  | false => exact ⟨_, rfl, i1, i2, i3, i4 rfl⟩
  | true =>
    obtain ⟨y, e1, e2⟩ := ch_pass hcl i1
    dsimp only
    rw [cond_true, e1, bind_some']
    cases y with
    | ret r => exact ⟨_, rfl, e2.1, by rw [← i2]; exact e2.2⟩
    | brk z =>
      obtain ⟨k1, k2, k3, k4, k5⟩ := e2
      refine ⟨_, rfl, ⟨k1, k2.trans i2, by dsimp only; omega, fun hf => ?_⟩, ?_⟩
      · obtain ⟨e, k6⟩ := k5 hf
        dsimp only; rw [e]; exact k6
      · obtain ⟨zc, zv⟩ := z
        dsimp only at *
        cases zc with
        | true => have := k4 rfl; simp only [cond_true]; omega
        | false => simp only [cond_true, cond_false]; omega
theorem ch_done {N : Nat} {cl : NC} (hcl : ClOk N cl) {v : List Int} (h : Gd N v) (hok : ∀ c ∈ cl, Okc v c) (h0 : ∀ c ∈ v, 0 ≤ c) : ncnt (allT cl) v = 1 := by
  unfold ncnt
  rw [ext_full v h0]
  have : allT cl (v.map (· == 1)) = true := by
    unfold allT
    rw [List.all_eq_true]
    intro c hc
    rw [clT_lits]
    have hr := inR.lit (hcl.inr c hc)
    rcases hok c hc with ⟨q, hq, e⟩ | ⟨q, hq, e⟩
    · refine ⟨q, hq, ?_⟩
      obtain ⟨_, g2, _⟩ := h.get (hr q hq)
      rw [List.getD_eq_getElem?_getD, List.getElem?_map, g2, e]
      cases q.2 <;> rfl
    · obtain ⟨_, g2, _⟩ := h.get (hr q hq)
      have := h0 _ (List.mem_of_getElem? g2)
      omega
  simp [this]
/-- one round, whatever the calls are -/
theorem ch_round {N : Nat} {cl : NC} (hcl : ClOk N cl) {v : List Int} (h : Gd N v) {rf0 rf1 : NC → List Int → Option Int} (hok : ∀ c ∈ cl, Okc v c)
    (h0 : ∀ u, Gd N u → un u < un v → rf0 cl u = some ((min 2 (ncnt (allT cl) u) : Nat) : Int)) (h1 : ∀ u, Gd N u → un u < un v → rf1 cl u = some ((min 2 (ncnt (allT cl) u) : Nat) : Int)) :
    (forL (ref_choices_i2_b926 cl v rf0 rf1) (fun x8212 => (.brk ())) v 0 ()).bind (fun v8227 => match v8227 with
      | .ret v8232 => some v8232
      | .brk v8233 => some (1 : Int)) = some ((min 2 (ncnt (allT cl) v) : Nat) : Int) := by
  obtain ⟨y, e1, e2⟩ := forL_inv (body := ref_choices_i2_b926 cl v rf0 rf1) (fin := fun x8212 => (.brk () : Esc Int Unit)) (l := v) (x := ())
    (fun n _ => ∀ (j : Nat) (d : Int), j < n → v[j]? = some d → 0 ≤ d) (fun y => match y with | .ret r => r = ((min 2 (ncnt (allT cl) v) : Nat) : Int) | .brk _ => ∀ (j : Nat) (d : Int), v[j]? = some d → 0 ≤ d) (fun j d hj => by omega)
    (by
      rintro n d ⟨⟩ hd hI
      have hlt := (List.getElem?_eq_some_iff.1 hd).1
      unfold ref_choices_i2_b926
      by_cases hc : d ≥ 0
      · rw [decide_eq_true hc, cond_true]
        refine ⟨_, rfl, fun j d' hj hd' => ?_⟩
        by_cases e : j = n
        · subst e; rw [hd] at hd'; have := Option.some.inj hd'; omega
        · exact hI j d' (by omega) hd'
      · have g0 := h.set n false
        have g1 := h.set n true
        have u0 := un_set v n d 0 hd (by omega) (by omega)
        have u1 := un_set v n d 1 hd (by omega) (by omega)
        have hsp := ncnt_split v n d (allT cl) hd (by omega)
        have r0 := h0 (v.set n 0) g0 (by omega)
        have r1 := h1 (v.set n 1) g1 (by omega)
        rw [decide_eq_false hc, cond_false, Int.toNat_natCast, r0, bind_some']
        generalize ncnt (allT cl) (v.set n 0) = c0 at *
        generalize ncnt (allT cl) (v.set n 1) = c1 at *
        have hi : idx (v.set n 0) (n : Int) = some 0 := by rw [idx_nat]; simp [hlt]
        rw [hsp]
        by_cases hgt : c0 ≥ 2
        · rw [decide_eq_true (by omega), cond_true]
          exact ⟨_, rfl, by show (2 : Int) = _; omega⟩
        · rw [decide_eq_false (by omega), cond_false, hi, bind_some', List.set_set, r1, bind_some', w64_id (by omega) (by omega)]
          by_cases hg2 : ((min 2 c0 : Nat) : Int) + ((min 2 c1 : Nat) : Int) > 2
          · rw [decide_eq_true hg2, cond_true]
            exact ⟨_, rfl, by show (2 : Int) = _; omega⟩
          · rw [decide_eq_false hg2, cond_false]
            exact ⟨_, rfl, by show ((min 2 c0 : Nat) : Int) + ((min 2 c1 : Nat) : Int) = _; omega⟩)
    (fun x hx j d hd => hx j d (List.getElem?_eq_some_iff.1 hd).1 hd)
  rw [e1, bind_some']
  cases y with
  | ret r => rw [show r = _ from e2]
  | brk u =>
    have := ch_done hcl h hok (fun c hc => by
      obtain ⟨j, hj, e⟩ := List.getElem_of_mem hc
      exact e2 j c (by rw [List.getElem?_eq_getElem hj, e]))
    rw [this]; rfl
theorem ch_i2 {N : Nat} {cl : NC} (hcl : ClOk N cl) {K : Nat} {rf : NC → List Int → Option Int} (hrf : ∀ u, Gd N u → un u < K → rf cl u = some ((min 2 (ncnt (allT cl) u) : Nat) : Int)) :
    ∀ (fuel : Nat) (v : List Int), Gd N v → un v ≤ K → un v + 101 ≤ fuel → ref_choices_i2 rf fuel cl v = some ((min 2 (ncnt (allT cl) v) : Nat) : Int)
  | 0, v, _, _, h => by omega
  | fuel + 1, v, h, hK, hf => by
    show ref_choices_i2_step rf (ref_choices_i2 rf fuel) fuel cl v = _
    have hN := hcl.len
    have hck : ck ((0 : Int) + (List.length v : Int) ≤ 4294967296) = some () := ck_ok (by rw [h.len]; omega)
    unfold ref_choices_i2_step
    rw [hck, bind_some', List.nil_append]
    obtain ⟨y, e1, e2⟩ := ch_while hcl h (fuel := fuel) (by omega)
    have e1 : iter (ref_choices_i2_b922 cl) fuel (true, v) = some y := e1
    rw [e1, bind_some']
    cases y with
    | ret r =>
      obtain ⟨rfl, e3⟩ := e2
      rw [e3]; rfl
    | brk v' =>
      obtain ⟨k1, k2, k3, k4⟩ := e2
      rw [← k2]
      exact ch_round hcl k1 k4 (fun u hu hlt => ch_i2 hcl hrf fuel u hu (by omega) (by omega)) (fun u hu hlt => hrf u hu (by omega))
theorem ch_main {N : Nat} {cl : NC} (hcl : ClOk N cl) :
    ∀ (fuel : Nat) (v : List Int), Gd N v → un v + 102 ≤ fuel → ref_choices fuel cl v = some ((min 2 (ncnt (allT cl) v) : Nat) : Int)
  | 0, v, _, h => by omega
  | fuel + 1, v, h, hf => by
    show ref_choices_step (ref_choices fuel) fuel cl v = _
    have hN := hcl.len
    have hck : ck ((0 : Int) + (List.length v : Int) ≤ 4294967296) = some () := ck_ok (by rw [h.len]; omega)
    unfold ref_choices_step
    rw [hck, bind_some', List.nil_append]
    obtain ⟨y, e1, e2⟩ := ch_while hcl h (fuel := fuel) (by omega)
    rw [e1, bind_some']
    cases y with
    | ret r =>
      obtain ⟨rfl, e3⟩ := e2
      rw [e3]; rfl
    | brk v' =>
      obtain ⟨k1, k2, k3, k4⟩ := e2
      rw [← k2]
      have hrf : ∀ u, Gd N u → un u < un v' → ref_choices fuel cl u = some ((min 2 (ncnt (allT cl) u) : Nat) : Int) := fun u hu hlt => ch_main hcl fuel u hu (by omega)
      exact ch_round (rf0 := ref_choices_i2 (ref_choices fuel) fuel) (rf1 := ref_choices fuel) hcl k1 k4 (fun u hu hlt => ch_i2 hcl hrf fuel u hu (by omega) (by omega)) hrf

theorem iter_seq {X Y : Type} {f : X → Option (Flow X Y)} {s : Nat → X} {y : Y} {n : Nat} (hs : ∀ j, j < n → f (s j) = some (.next (s (j + 1)))) (hf : f (s n) = some (.done y)) : ∀ (k j fuel : Nat), j + k = n → k < fuel → iter f fuel (s j) = some y
  | k, j, 0, _, h => by omega
  | 0, j, fuel + 1, h, _ => by
    have : j = n := by omega
    subst this
    simp only [iter, hf]
  | k + 1, j, fuel + 1, h, hk => by
    simp only [iter, hs j (by omega)]
    exact iter_seq hs hf k (j + 1) fuel (by omega) (by omega)

abbrev GT := Int × (Int × Int)
structure BI (A : Nat) (l : List GT) (n : Nat) (next : Nat) (vars : List Int) (cls : NC) : Prop where
  lo : A ≤ next
  hi : next ≤ A + n
  vlen : vars.length = n
  vr : ∀ j, j < n → 0 ≤ vars.getD j 0 ∧ vars.getD j 0 < (next : Int)
  clen : cls.length ≤ 3 * n
  cr : ∀ c ∈ cls, inR next c ∧ c.1.length + c.2.length ≤ 3
  sem : ∀ bits : List Bool, bits.length = A → ∃ xs : List Bool, xs.length = next ∧ xs.take A = bits ∧ (∀ x : List Bool, next ≤ x.length → x.take A = bits → (allT cls x = true ↔ x.take next = xs)) ∧
    ∀ j, j < n → xs.getD (vars.getD j 0).toNat false = (gall (fun i => bits.getD i false) (l.take n)).getD j false
theorem allT_app (c d : NC) (x : List Bool) : allT (c ++ d) x = (allT c x && allT d x) := by unfold allT; rw [List.all_append]
theorem getD_app_lt {α : Type} {l m : List α} {i : Nat} {d : α} (h : i < l.length) : (l ++ m).getD i d = l.getD i d := by
  rw [List.getD_eq_getElem?_getD, List.getD_eq_getElem?_getD, List.getElem?_append_left h]
theorem getD_app_eq {α : Type} {l : List α} {a d : α} {i : Nat} (h : i = l.length) : (l ++ [a]).getD i d = a := by
  subst h; rw [List.getD_eq_getElem?_getD, List.getElem?_append_right (Nat.le_refl _)]; simp
theorem inR.up {N M : Nat} (h : N ≤ M) {c : List Int × List Int} (hc : inR N c) : inR M c :=
  ⟨fun x hx => ⟨(hc.1 x hx).1, by have := (hc.1 x hx).2; omega⟩, fun x hx => ⟨(hc.2 x hx).1, by have := (hc.2 x hx).2; omega⟩⟩
theorem take_snoc {x : List Bool} {n : Nat} (h : n < x.length) : x.take (n + 1) = x.take n ++ [x.getD n false] := by
  rw [List.take_add_one, List.getElem?_eq_getElem h, List.getD_eq_getElem?_getD, List.getElem?_eq_getElem h]; rfl
theorem BI.gate {A : Nat} {l : List GT} {n next : Nat} {vars : List Int} {cls : NC} (h : BI A l n next vars cls) {g : GT} (hg : l[n]? = some g) (D : NC) (val : List Bool → Bool) (hD : D.length ≤ 3) (hDr : ∀ c ∈ D, inR (next + 1) c ∧ c.1.length + c.2.length ≤ 3)
    (hval : ∀ x, allT D x = true ↔ x.getD next false = val x) (hloc : ∀ x, val (x.take next) = val x)
    (hsem : ∀ env xs, (∀ j, j < n → xs.getD (vars.getD j 0).toNat false = (gall env (l.take n)).getD j false) → val xs = gval env (gall env (l.take n)) g) :
    BI A l (n + 1) (next + 1) (vars ++ [(next : Int)]) (cls ++ D) := by
  have hn := (List.getElem?_eq_some_iff.1 hg).1
  refine ⟨by have := h.lo; omega, by have := h.hi; omega, by rw [List.length_append, h.vlen]; rfl, fun j hj => ?_, by rw [List.length_append]; have := h.clen; omega, fun c hc => ?_, fun bits hb => ?_⟩
  · by_cases e : j = n
    · rw [getD_app_eq (by rw [h.vlen]; exact e)]; omega
    · rw [getD_app_lt (by rw [h.vlen]; omega)]
      have := h.vr j (by omega); omega
  · rcases List.mem_append.1 hc with hc | hc
    · exact ⟨(h.cr c hc).1.up (by omega), (h.cr c hc).2⟩
    · exact hDr c hc
  · obtain ⟨xs, s1, s2, s3, s4⟩ := h.sem bits hb
    have hlo := h.lo
    have htk : l.take (n + 1) = l.take n ++ [g] := by rw [List.take_add_one, hg]; rfl
    refine ⟨xs ++ [val xs], by rw [List.length_append, s1]; rfl, by rw [List.take_append_of_le_length (by omega)]; exact s2, fun x hx hxb => ?_, fun j hj => ?_⟩
    · rw [allT_app, Bool.and_eq_true, s3 x (by omega) hxb, hval, take_snoc (by omega)]
      constructor
      · rintro ⟨h1, h2⟩
        rw [h2, h1, ← hloc x, h1]
      · intro h1
        have hlen : (x.take next).length = xs.length := by rw [List.length_take, s1]; omega
        obtain ⟨h2, h3⟩ := List.append_inj h1 hlen
        refine ⟨h2, ?_⟩
        have h3 : x.getD next false = val xs := by simpa using h3
        rw [h3, ← h2, hloc]
    · rw [htk, gall_snoc]
      have hgl := gall_len (fun i => bits.getD i false) (l.take n)
      rw [List.length_take] at hgl
      by_cases e : j = n
      · have ev : (vars ++ [(next : Int)]).getD j 0 = (next : Int) := getD_app_eq (by rw [h.vlen]; exact e)
        have eg : (gall (fun i => bits.getD i false) (l.take n) ++ [gval (fun i => bits.getD i false) (gall (fun i => bits.getD i false) (l.take n)) g]).getD j false = gval (fun i => bits.getD i false) (gall (fun i => bits.getD i false) (l.take n)) g := getD_app_eq (by omega)
        rw [ev, Int.toNat_natCast, getD_app_eq s1.symm, eg]
        exact hsem _ xs s4
      · have hv := h.vr j (by omega)
        have ev : (vars ++ [(next : Int)]).getD j 0 = vars.getD j 0 := getD_app_lt (by rw [h.vlen]; omega)
        rw [ev, getD_app_lt (by omega), getD_app_lt (by omega)]
        exact s4 j (by omega)
theorem nb_add {a b : List Int} {c : NC} (h : c.length ≤ 1000) : name_Build_1_i3 a b c = some (c ++ [(a, b)]) := by
  have hck : ck ((List.length c : Int) + 1 ≤ 4294967296) = some () := ck_ok (by omega)
  unfold name_Build_1_i3
  rw [hck]; rfl
theorem getD_takeB {x : List Bool} {n k : Nat} (h : k < n) : (x.take n).getD k false = x.getD k false := by
  rw [List.getD_eq_getElem?_getD, List.getD_eq_getElem?_getD, List.getElem?_take_of_lt h]
theorem vidx {v : List Int} {i : Int} (h0 : 0 ≤ i) (h : i < (v.length : Int)) : idx v i = some (v.getD i.toNat 0) := by
  obtain ⟨b, h1, h2⟩ := idx_get h0 h
  rw [h1, List.getD_eq_getElem?_getD, h2]; rfl
theorem nb_step {A : Nat} {l : List GT} (hA : A ≤ 5) (hl : l.length ≤ 40) (hok : GatesOk (A : Int) l) {n next : Nat} {vars : List Int} {cls : NC} (h : BI A l n next vars cls) {g : GT} (hg : l[n]? = some g) (i : Int) :
    ∃ next' vars' cls', name_Build_b7 i g ((next : Int), vars, cls) = some (.next ((next' : Nat), vars', cls')) ∧ BI A l (n + 1) next' vars' cls' := by
  have hn := (List.getElem?_eq_some_iff.1 hg).1
  obtain ⟨t1, t2, t3, t4⟩ := hok n g hg
  have hcl := h.clen
  have hvl := h.vlen
  have hhi := h.hi
  have hck : ck ((List.length vars : Int) + 1 ≤ 4294967296) = some () := ck_ok (by omega)
  have hw : w64 ((next : Int) + 1) = ((next + 1 : Nat) : Int) := by rw [w64_id (by omega) (by omega)]; rfl
  unfold name_Build_b7 name_Build_g5
  dsimp only
  rw [hck]
  by_cases k1 : g.1 = 1
  · have e1 : (g.1 == (1 : Int)) = true := by simp [k1]
    rw [e1]
    refine ⟨next, vars ++ [g.2.1], cls, rfl, h.lo, by omega, by rw [List.length_append, hvl]; rfl, fun j hj => ?_, by omega, h.cr, fun bits hb => ?_⟩
    · have := t2 k1
      have := h.lo
      by_cases e : j = n
      · rw [getD_app_eq (by omega)]; omega
      · rw [getD_app_lt (by omega)]; exact h.vr j (by omega)
    · obtain ⟨xs, s1, s2, s3, s4⟩ := h.sem bits hb
      have hlo := h.lo
      have htk : l.take (n + 1) = l.take n ++ [g] := by rw [List.take_add_one, hg]; rfl
      refine ⟨xs, s1, s2, s3, fun j hj => ?_⟩
      rw [htk, gall_snoc]
      have hgl := gall_len (fun i => bits.getD i false) (l.take n)
      rw [List.length_take] at hgl
      by_cases e : j = n
      · have := t2 k1
        have ev : (vars ++ [g.2.1]).getD j 0 = g.2.1 := getD_app_eq (by omega)
        have eg : (gall (fun i => bits.getD i false) (l.take n) ++ [gval (fun i => bits.getD i false) (gall (fun i => bits.getD i false) (l.take n)) g]).getD j false = gval (fun i => bits.getD i false) (gall (fun i => bits.getD i false) (l.take n)) g := getD_app_eq (by omega)
        rw [ev, eg]
        unfold gval
        rw [if_pos k1, ← s2]
        exact (getD_takeB (by omega)).symm
      · have ev : (vars ++ [g.2.1]).getD j 0 = vars.getD j 0 := getD_app_lt (by omega)
        rw [ev, getD_app_lt (by omega)]
        exact s4 j (by omega)
  · have e1 : (g.1 == (1 : Int)) = false := by simp [k1]
    have r1 := t3 k1
    obtain ⟨u0, u1⟩ := h.vr g.2.1.toNat (by omega)
    rw [e1, cond_false, vidx r1.1 (by omega), bind_some', bind_some']
    generalize hU : vars.getD g.2.1.toNat 0 = U at *
    by_cases k2 : g.1 = 2
    · have e2 : (g.1 == (2 : Int)) = true := by simp [k2]
      rw [e2, cond_true, nb_add (by omega), bind_some', nb_add (by simp; omega), bind_some', bind_some', hw, List.append_assoc]
      refine ⟨next + 1, _, _, rfl, h.gate hg _ (fun x => !x.getD U.toNat false) (by simp) ?_ ?_ ?_ ?_⟩
      · intro c hc
        simp only [List.cons_append, List.nil_append, List.mem_cons, List.not_mem_nil, or_false] at hc
        rcases hc with rfl | rfl <;> (refine ⟨⟨fun x hx => ?_, fun x hx => ?_⟩, by simp⟩ <;> simp at hx <;> omega)
      · intro x
        simp only [allT, clT, List.cons_append, List.nil_append, List.all_cons, List.all_nil, List.any_cons, List.any_nil, Int.toNat_natCast]
        cases x.getD next false <;> cases x.getD U.toNat false <;> simp
      · intro x; rw [getD_takeB (by omega)]
      · intro env xs hxs
        have := hxs g.2.1.toNat (by omega)
        rw [hU] at this
        unfold gval
        rw [if_neg k1, if_pos k2, this]
    · have e2 : (g.1 == (2 : Int)) = false := by simp [k2]
      have r2 := t4 (by omega)
      obtain ⟨w0, w1⟩ := h.vr g.2.2.toNat (by omega)
      rw [e2, cond_false]
      have hV0 : idx (vars ++ [(next : Int)]) g.2.2 = some (vars.getD g.2.2.toNat 0) := by
        rw [vidx r2.1 (by rw [List.length_append]; simp; omega), getD_app_lt (by omega)]
      rw [hV0]
      generalize hV : vars.getD g.2.2.toNat 0 = V at *
      by_cases k3 : g.1 = 3
      · have e3 : (g.1 == (3 : Int)) = true := by simp [k3]
        rw [e3, cond_true, bind_some', nb_add (by omega), bind_some', nb_add (by simp; omega), bind_some', nb_add (by simp; omega), bind_some', bind_some', hw, List.append_assoc, List.append_assoc]
        refine ⟨next + 1, _, _, rfl, h.gate hg _ (fun x => x.getD U.toNat false && x.getD V.toNat false) (by simp) ?_ ?_ ?_ ?_⟩
        · intro c hc
          simp only [List.cons_append, List.nil_append, List.mem_cons, List.not_mem_nil, or_false] at hc
          rcases hc with rfl | rfl | rfl <;> (refine ⟨⟨fun x hx => ?_, fun x hx => ?_⟩, by simp⟩ <;> simp at hx <;> omega)
        · intro x
          simp only [allT, clT, List.cons_append, List.nil_append, List.all_cons, List.all_nil, List.any_cons, List.any_nil, Int.toNat_natCast]
          cases x.getD next false <;> cases x.getD U.toNat false <;> cases x.getD V.toNat false <;> simp
        · intro x; rw [getD_takeB (by omega), getD_takeB (by omega)]
        · intro env xs hxs
          have q1 := hxs g.2.1.toNat (by omega)
          have q2 := hxs g.2.2.toNat (by omega)
          rw [hU] at q1
          rw [hV] at q2
          unfold gval
          rw [if_neg k1, if_neg k2, if_pos k3, q1, q2]
      · have e3 : (g.1 == (3 : Int)) = false := by simp [k3]
        have e4 : (g.1 == (4 : Int)) = true := by simp; omega
        rw [e3, cond_false, e4, cond_true, bind_some', nb_add (by omega), bind_some', nb_add (by simp; omega), bind_some', nb_add (by simp; omega), bind_some', bind_some', hw, List.append_assoc, List.append_assoc]
        refine ⟨next + 1, _, _, rfl, h.gate hg _ (fun x => x.getD U.toNat false || x.getD V.toNat false) (by simp) ?_ ?_ ?_ ?_⟩
        · intro c hc
          simp only [List.cons_append, List.nil_append, List.mem_cons, List.not_mem_nil, or_false] at hc
          rcases hc with rfl | rfl | rfl <;> (refine ⟨⟨fun x hx => ?_, fun x hx => ?_⟩, by simp⟩ <;> simp at hx <;> omega)
        · intro x
          simp only [allT, clT, List.cons_append, List.nil_append, List.all_cons, List.all_nil, List.any_cons, List.any_nil, Int.toNat_natCast]
          cases x.getD next false <;> cases x.getD U.toNat false <;> cases x.getD V.toNat false <;> simp
        · intro x; rw [getD_takeB (by omega), getD_takeB (by omega)]
        · intro env xs hxs
          have q1 := hxs g.2.1.toNat (by omega)
          have q2 := hxs g.2.2.toNat (by omega)
          rw [hU] at q1
          rw [hV] at q2
          unfold gval
          rw [if_neg k1, if_neg k2, if_neg k3, q1, q2]
theorem ext_one : ∀ (v : List Int) (x : List Bool), x ∈ ext v → (ext v).countP (fun y => decide (y = x)) = 1
  | [], x, h => by
    have : x = [] := by simpa [ext] using h
    subst this; rfl
  | c :: v, [], h => by
    have := ((ext_mem _ _).1 h).1
    simp at this
  | c :: v, b :: x, h => by
    have none : ∀ d : Bool, d ≠ b → ((ext v).map (d :: ·)).countP (fun y => decide (y = b :: x)) = 0 := fun d hd => by
      rw [List.countP_eq_zero]
      intro y hy
      obtain ⟨z, _, rfl⟩ := List.mem_map.1 hy
      simp [hd]
    have one : x ∈ ext v → ((ext v).map (b :: ·)).countP (fun y => decide (y = b :: x)) = 1 := fun hx => by
      rw [List.countP_map]
      have ih := ext_one v x hx
      have e : ((fun y => decide (y = b :: x)) ∘ (b :: ·)) = fun y => decide (y = x) := by funext y; simp
      rw [e]; exact ih
    simp only [ext] at h ⊢
    split at h
    · rename_i hc
      rw [if_pos hc, List.countP_append]
      rcases List.mem_append.1 h with h | h
      · obtain ⟨z, hz, e⟩ := List.mem_map.1 h
        simp only [List.cons.injEq] at e
        obtain ⟨rfl, rfl⟩ := e
        rw [one hz, none true (by simp)]
      · obtain ⟨z, hz, e⟩ := List.mem_map.1 h
        simp only [List.cons.injEq] at e
        obtain ⟨rfl, rfl⟩ := e
        rw [one hz, none false (by simp)]
    · rename_i hc
      rw [if_neg hc]
      obtain ⟨z, hz, e⟩ := List.mem_map.1 h
      simp only [List.cons.injEq] at e
      obtain ⟨e1, rfl⟩ := e
      rw [e1]
      exact one hz
def v0 (N : Nat) (bits : List Bool) : List Int := (List.range N).map fun i => if i < bits.length then (bif bits.getD i false then 1 else 0) else -1
theorem v0_get {N i : Nat} {bits : List Bool} (h : i < N) : (v0 N bits)[i]? = some (if i < bits.length then (bif bits.getD i false then 1 else 0) else -1) := by
  unfold v0; simp [h]
theorem v0_gd (N : Nat) (bits : List Bool) : Gd N (v0 N bits) := by
  refine ⟨by simp [v0], fun c hc => ?_⟩
  obtain ⟨i, hi, rfl⟩ := List.mem_map.1 hc
  split
  · cases bits.getD i false
    · exact .inr (.inl rfl)
    · exact .inr (.inr rfl)
  · exact .inl rfl
theorem v0_ext {N : Nat} {bits : List Bool} (h : bits.length ≤ N) (x : List Bool) : x ∈ ext (v0 N bits) ↔ x.length = N ∧ x.take bits.length = bits := by
  rw [ext_mem, (v0_gd N bits).len]
  constructor
  · rintro ⟨h1, h2⟩
    refine ⟨h1, ?_⟩
    apply List.ext_getElem?
    intro i
    by_cases hi : i < bits.length
    · have := h2 i _ (v0_get (by omega)) (by rw [if_pos hi]; cases bits.getD i false <;> simp)
      rw [if_pos hi] at this
      rw [List.getElem?_take_of_lt hi, List.getElem?_eq_getElem (by omega), List.getElem?_eq_getElem hi]
      rw [List.getD_eq_getElem?_getD, List.getElem?_eq_getElem (by omega), List.getD_eq_getElem?_getD, List.getElem?_eq_getElem hi] at this
      simp only [Option.getD_some] at this
      rw [this]
      cases bits[i] <;> rfl
    · rw [List.getElem?_eq_none (by simp; omega), List.getElem?_eq_none (by omega)]
  · rintro ⟨h1, h2⟩
    refine ⟨h1, fun i c hc h0 => ?_⟩
    have hi := (List.getElem?_eq_some_iff.1 hc).1
    rw [(v0_gd N bits).len] at hi
    rw [v0_get hi] at hc
    have hc := Option.some.inj hc
    by_cases hb : i < bits.length
    · rw [if_pos hb] at hc
      rw [← hc, ← getD_takeB hb, h2]
      cases bits.getD i false <;> rfl
    · rw [if_neg hb] at hc; omega
theorem nb_choices {N : Nat} {cl : NC} (hcl : ClOk N cl) {bits : List Bool} (hb : bits.length ≤ N) : ref_Choices 1000 (N : Int) cl bits = some ((min 2 (ncnt (allT cl) (v0 N bits)) : Nat) : Int) := by
  have hN := hcl.len
  have hck : ck (0 ≤ (N : Int) ∧ (N : Int) = (N : Int) ∧ (N : Int) ≤ 4294967296) = some () := ck_ok ⟨by omega, rfl, by omega⟩
  unfold ref_Choices
  rw [hck, bind_some']
  obtain ⟨y, h1, h2⟩ := forI_inv (body := ref_Choices_b7 bits) (fin := fun x71 => x71) (lo := 0) (hi := (N : Int)) (x := List.replicate (Int.toNat (N : Int)) (0 : Int))
    (fun i x => ∃ n : Nat, i = (n : Int) ∧ x.length = N ∧ ∀ j, j < n → x[j]? = (v0 N bits)[j]?) (fun y => y = v0 N bits) (by omega) (by omega) ⟨0, rfl, by simp, fun j hj => by omega⟩
    (by
      rintro _ x _ hlt ⟨n, rfl, hx, hxj⟩
      have hnN : n < N := by omega
      obtain ⟨c, r1, _⟩ := idx_get (xs := x) (i := (n : Int)) (by omega) (by omega)
      have fin : ∀ c : Int, (v0 N bits)[n]? = some c → ∀ z : List Int, z = x.set n c → ∃ m : Nat, (n : Int) + 1 = (m : Int) ∧ z.length = N ∧ ∀ j, j < m → z[j]? = (v0 N bits)[j]? := by
        rintro c hc z rfl
        refine ⟨n + 1, rfl, by simpa using hx, fun j hj => ?_⟩
        rw [List.getElem?_set]
        by_cases e : n = j
        · subst e; rw [if_pos rfl, if_pos (by omega), hc]
        · rw [if_neg e]; exact hxj j (by omega)
      have i1 : idx (x.set n (-1)) (n : Int) = some (-1) := by rw [idx_nat]; simp [hx, hnN]
      have i2 : idx ((x.set n (-1)).set n 0) (n : Int) = some 0 := by rw [idx_nat]; simp [hx, hnN]
      unfold ref_Choices_b7 ref_Choices_g5
      rw [r1, bind_some', Int.toNat_natCast]
      by_cases hbn : n < bits.length
      · rw [decide_eq_true (by omega), cond_true, i1, bind_some', idx_nat, List.getElem?_eq_getElem hbn, bind_some']
        have hg : bits.getD n false = bits[n] := by rw [List.getD_eq_getElem?_getD, List.getElem?_eq_getElem hbn]; rfl
        have hv := v0_get (bits := bits) hnN
        rw [if_pos hbn, hg] at hv
        cases hq : bits[n] with
        | true =>
          rw [hq] at hv
          rw [cond_true, i2, bind_some', bind_some']
          refine ⟨_, rfl, fin 1 hv _ ?_⟩
          rw [List.set_set, List.set_set]
        | false =>
          rw [hq] at hv
          rw [cond_false, bind_some']
          refine ⟨_, rfl, fin 0 hv _ ?_⟩
          rw [List.set_set]
      · rw [decide_eq_false (by omega), cond_false, bind_some']
        have hv := v0_get (bits := bits) hnN
        rw [if_neg hbn] at hv
        exact ⟨_, rfl, fin (-1) hv _ rfl⟩)
    (by
      rintro i x _ hi _ ⟨n, rfl, hx, hxj⟩
      have hn : n = N := by omega
      subst hn
      apply List.ext_getElem?
      intro j
      by_cases hj : j < n
      · exact hxj j hj
      · rw [List.getElem?_eq_none (by omega), List.getElem?_eq_none (by rw [(v0_gd n bits).len]; omega)])
  have hu := un_le (v0 N bits)
  rw [(v0_gd N bits).len] at hu
  rw [h1, bind_some', h2, ch_main hcl 1000 (v0 N bits) (v0_gd N bits) (by omega)]
  rfl
theorem nb_inside (N : Nat) (l : List Int) (h : ∀ x ∈ l, 0 ≤ x ∧ x < (N : Int)) : ref_Inside (N : Int) l = some true := by
  unfold ref_Inside
  rw [forL_ex (p := fun _ => false) (y := Esc.ret false) (fun i a ha => by
    have := h a ha
    unfold ref_Inside_b1
    rw [decide_eq_false (by omega), decide_eq_false (by omega)]; rfl)]
  have : (l.any fun _ => false) = false := by simp
  rw [this]; rfl
theorem nb_bits {k m : Nat} (hk : k ≤ 8) (hm : m < 2 ^ 8) : ref_Bits (k : Int) (m : Int) = some (bitsOf k m) := by
  unfold ref_Bits
  obtain ⟨y, h1, h2⟩ := forI_inv (body := ref_Bits_b1 (m : Int)) (fin := fun x => x) (lo := 0) (hi := (k : Int)) (x := []) (fun i x => x = bitsOf i.toNat m) (fun y => y = bitsOf k m) (by omega) (by omega) rfl (fun i x h0 h1 hx => by
    obtain ⟨n, rfl⟩ := Int.eq_ofNat_of_zero_le h0
    simp only [Int.toNat_natCast] at hx
    subst hx
    have hl : (bitsOf n m).length = n := by simp [bitsOf]
    refine ⟨.next (bitsOf n m ++ [m.testBit n]), ?_, ?_⟩
    · unfold ref_Bits_b1
      rw [bit_eq (by omega) (by omega), bind_some', ck_ok (by rw [hl]; omega), bind_some']
    show bitsOf n m ++ [m.testBit n] = bitsOf ((n : Int) + 1).toNat m
    have ht : ((n : Int) + 1).toNat = n + 1 := by omega
    rw [ht]
    unfold bitsOf
    rw [List.range_succ, List.map_append]; rfl) (fun i x h0 h1 h2 hx => by
    have : i = k := by omega
    subst this
    simpa using hx)
  rw [h1, h2]; rfl
theorem gall_env {e e' : Nat → Bool} {A : Int} {l : List GT} (hok : GatesOk A l) (h : ∀ i : Nat, (i : Int) < A → e i = e' i) : ∀ n, n ≤ l.length → gall e (l.take n) = gall e' (l.take n)
  | 0, _ => rfl
  | n + 1, hn => by
    have hg : l[n]? = some l[n] := List.getElem?_eq_getElem (by omega)
    have htk : l.take (n + 1) = l.take n ++ [l[n]] := by rw [List.take_add_one, hg]; rfl
    rw [htk, gall_snoc, gall_snoc, gall_env hok h n (by omega)]
    congr 2
    obtain ⟨t1, t2, t3, t4⟩ := hok n _ hg
    unfold gval
    by_cases k1 : (l[n]).1 = 1
    · rw [if_pos k1, if_pos k1]
      have := t2 k1
      exact h _ (by omega)
    · rw [if_neg k1, if_neg k1]
theorem NameBuilds_true (a0 : Int) (a1 : List GT) (f0 : Fits (.int .i64) a0) (f1 : Fits (.slice (.pair (.int .i64) (.pair (.int .i64) (.int .i64)))) a1) : ∃ fuel, law_NameBuilds fuel a0 a1 = some true := by
  refine ⟨1000, ?_⟩
  unfold law_NameBuilds name_Build
  rw [gc_check, gc_gatecheck]
  by_cases hz : gcAll a0 a1 = 0
  · obtain ⟨⟨hA, hB⟩, hok⟩ := gc_valid hz
    obtain ⟨A, rfl⟩ := Int.eq_ofNat_of_zero_le hA.1
    obtain ⟨m, hm⟩ : ∃ m, a1.length = m + 1 := ⟨a1.length - 1, by omega⟩
    rw [hz, bind_some', show ((0 : Int) != 0) = false from rfl, cond_false]
    obtain ⟨y, h1, next, vars, cls, rfl, hBI⟩ := forL_inv (body := name_Build_b7) (fin := fun x201 => (x201.1, x201.2.1, x201.2.2)) (l := a1) (x := ((A : Int), ([] : List Int), ([] : NC)))
      (fun n x => ∃ (next : Nat) (vars : List Int) (cls : NC), x = ((next : Int), vars, cls) ∧ BI A a1 n next vars cls) (fun y => ∃ (next : Nat) (vars : List Int) (cls : NC), y = ((next : Int), vars, cls) ∧ BI A a1 a1.length next vars cls)
      ⟨A, [], [], rfl, Nat.le_refl _, by omega, rfl, fun j hj => by omega, by simp, by simp, fun bits hb => ⟨bits, hb, by rw [← hb, List.take_length], fun x _ hx => by simp [allT, hx], fun j hj => by omega⟩⟩
      (by
        rintro n g x hg ⟨next, vars, cls, rfl, hBI⟩
        obtain ⟨next', vars', cls', e1, e2⟩ := nb_step (by omega) (by omega) hok hBI hg (n : Int)
        exact ⟨_, e1, next', vars', cls', rfl, e2⟩)
      (by rintro x ⟨next, vars, cls, rfl, hBI⟩; exact ⟨next, vars, cls, rfl, hBI⟩)
    have hvl := hBI.vlen
    have hcl := hBI.clen
    have hhi := hBI.hi
    have hlo := hBI.lo
    obtain ⟨v1, v2⟩ := hBI.vr m (by omega)
    rw [h1, bind_some']
    dsimp only
    have hlast : idx vars (w64 ((List.length vars : Int) - (1 : Int))) = some (vars.getD m 0) := by
      rw [hvl, hm, idx_last (by omega), List.getD_eq_getElem?_getD, List.getElem?_eq_getElem (by omega)]; rfl
    rw [hlast, bind_some', nb_add (by omega), bind_some', bind_some', bind_some', show ((0 : Int) != 0) = false from rfl, cond_false]
    generalize hVL : vars.getD m 0 = VL at *
    have hcr : ∀ c ∈ cls ++ [([VL], [])], inR next c ∧ c.1.length + c.2.length ≤ 3 := fun c hc => by
      rcases List.mem_append.1 hc with hc | hc
      · exact hBI.cr c hc
      · obtain rfl : c = ([VL], []) := by simpa using hc
        exact ⟨⟨fun x hx => by (obtain rfl : x = VL := by simpa using hx); exact ⟨v1, v2⟩, fun x hx => by simp at hx⟩, by simp⟩
    have hClOk : ClOk next (cls ++ [([VL], [])]) := ⟨fun c hc => (hcr c hc).1, fun c hc => ⟨by have := (hcr c hc).2; omega, by have := (hcr c hc).2; omega⟩, by omega⟩
    have g1 : law_NameBuilds_g1 (A : Int) a1 ((next : Int), cls ++ [([VL], [])], 0) = some false := by
      unfold law_NameBuilds_g1
      dsimp only
      rw [show ((0 : Int) != 0) = false from rfl, cond_false, within_eq, bind_some', w64_id (n := (A : Int) + (a1.length : Int)) (by omega) (by omega), w64_id (n := 4 * (a1.length : Int)) (by omega) (by omega), w64_id (by omega) (by omega),
        decide_eq_true (by omega), decide_eq_false (by rw [List.length_append]; simp; omega)]
      rfl
    rw [g1, bind_some', cond_false]
    dsimp only
    rw [forL_ex (p := fun _ => false) (y := Esc.ret false) (fun i c hc => by
      obtain ⟨q1, q2⟩ := hcr c hc
      unfold law_NameBuilds_b8 law_NameBuilds_g6
      dsimp only
      rw [w64_id (by omega) (by omega), decide_eq_false (by omega), cond_false, nb_inside _ _ q1.1, bind_some', nb_inside _ _ q1.2]
      rfl)]
    have hany : ((cls ++ [([VL], [])] : NC).any fun _ => false) = false := by simp
    rw [hany, cond_false, bind_some']
    have hp : 2 ^ A ≤ 32 := by
      have := Nat.pow_le_pow_right (n := 2) (by omega) (show A ≤ 5 by omega)
      simpa using this
    have hw : IntKind.wrap .u64 (A : Int) = (A : Int) := wrap_u64 (by omega) (by omega)
    have hck : ck (0 ≤ (A : Int)) = some () := ck_ok (by omega)
    have hb : ∀ w : Nat, w < 2 ^ A → law_NameBuilds_b20 (A : Int) a1 ((next : Int), cls ++ [([VL], [])], 0) 1000 (w : Int) = some (.next ((w + 1 : Nat) : Int)) := by
      intro w hwA
      have hbl : (bitsOf A w).length = A := by simp [bitsOf]
      obtain ⟨xs, s1, s2, s3, s4⟩ := hBI.sem (bitsOf A w) hbl
      have hgl := gall_len w.testBit a1
      have henv : gall (fun i => (bitsOf A w).getD i false) (a1.take a1.length) = gall w.testBit (a1.take a1.length) := gall_env hok (fun i hi => bitsOf_getD (by omega)) a1.length (Nat.le_refl _)
      have hout := s4 m (by omega)
      rw [henv, List.take_length, hVL] at hout
      have hG : (gall w.testBit a1)[m]? = some ((gall w.testBit a1).getD m false) := by rw [List.getD_eq_getElem?_getD, List.getElem?_eq_getElem (by omega)]; rfl
      have hcnt : ncnt (allT (cls ++ [([VL], [])])) (v0 next (bitsOf A w)) = (bif (gall w.testBit a1).getD m false then 1 else 0) := by
        have hp : ∀ x ∈ ext (v0 next (bitsOf A w)), allT (cls ++ [([VL], [])]) x = (decide (x = xs) && (gall w.testBit a1).getD m false) := fun x hx => by
          obtain ⟨x1, x2⟩ := (v0_ext (by omega) x).1 hx
          rw [hbl] at x2
          have hs := s3 x (by omega) x2
          rw [← x1, List.take_length] at hs
          rw [allT_app]
          have e1 : allT cls x = decide (x = xs) := by
            rw [Bool.eq_iff_iff, decide_eq_true_eq]; exact hs
          have e2 : allT [([VL], [])] x = x.getD VL.toNat false := by simp [allT, clT]
          rw [e1, e2]
          by_cases e : x = xs
          · rw [e, hout]
          · rw [decide_eq_false e]; rfl
        have hxs : xs ∈ ext (v0 next (bitsOf A w)) := (v0_ext (by omega) xs).2 ⟨s1, by rw [hbl]; exact s2⟩
        have hone := ext_one _ _ hxs
        unfold ncnt
        rw [List.countP_congr (q := fun x => decide (x = xs) && (gall w.testBit a1).getD m false) (fun x hx => by rw [hp x hx])]
        cases (gall w.testBit a1).getD m false with
        | true => simpa using hone
        | false => simp
      have hlen : w64 ((List.length a1 : Int) - (1 : Int)) = (m : Int) := by rw [hm, w64_id (by omega) (by omega)]; omega
      unfold law_NameBuilds_b20
      dsimp only
      rw [hw, hck, bind_some', bShl_one (by omega), decide_eq_true (by omega), cond_true, gates_ref hok (by omega) (by omega) w (by omega), bind_some', hlen, idx_nat, hG, bind_some', nb_bits (by omega) (by omega), w64_id (by omega) (by omega)]
      have hch := nb_choices hClOk (bits := bitsOf A w) (by omega)
      rw [hcnt] at hch
      simp only [bind_some', hch, bif_some]
      cases (gall w.testBit a1).getD m false <;> rfl
    have hit := iter_seq (f := law_NameBuilds_b20 (A : Int) a1 ((next : Int), cls ++ [([VL], [])], 0) 1000) (s := fun (w : Nat) => (w : Int)) (n := 2 ^ A) (y := Esc.brk ()) hb (by
      unfold law_NameBuilds_b20
      dsimp only
      rw [hw, hck, bind_some', bShl_one (by omega), decide_eq_false (by omega)]
      rfl) (2 ^ A) 0 1000 (by omega) (by omega)
    have hit : iter (law_NameBuilds_b20 (A : Int) a1 ((next : Int), cls ++ [([VL], [])], 0) 1000) 1000 (0 : Int) = _ := hit
    dsimp only
    rw [hit]; rfl
  · have e1 : (gcAll a0 a1 != 0) = true := by simp [hz]
    rw [bind_some', e1, cond_true, bind_some', bind_some', e1, cond_true]
    simp

end Go.Proofs.Ytcallckeeohoaaa.nameBuilds
namespace Go.Proofs.Ytcallckeeohoaaa.nameBuilds
open Go.ChangeShapes Go.WideShapes Go.ChangeAt Go.RowKit
open Go.ChangeMaps (open_string shut_string)
theorem own : ownKnob Try.prog.godebug = none := by kernel_rfl
theorem laidOut : laidOutB Try.prog = true := by kernel_rfl
theorem lifted (os : Os) (started : os.Started) (H : Type) (enc : TypeId × Value → H) :
    ReturnsInHanded {} Try.checked os 3 .any (Rows.nameBuildsSpec.pre6 enc Try.prog Try.f3 Rows.nameBuildsRow.domain false) (Rows.nameBuildsSpec.post enc Try.prog Try.f3 false true false false) := by
  refine returnsInHanded_of_change (C := Try.checked) own started (by kernel_rfl) Try.func3
    (ChangeSpec.witness6 (enc := enc) (C := Try.checked) false ⟨#[], #[.int .i64 0, .slice none 0 0], []⟩ 8 (by kernel_rfl) (by kernel_rfl) (by kernel_rfl) (by kernel_rfl)) ?_
  intro W base args ds gs before hval0 hW hcnd _
  have hval : ∀ (j : Nat) t v, Try.f3.params[j]? = some t → args[j]? = some v → Value.okWide Try.prog W .any base t v := hval0
  have hW' := hW
  obtain ⟨p, q, hA0, hV, rfl, hfz, hnd⟩ := hW
  have hA : DataW.TrodAll enc Try.prog W 0 (fun _ => true) true Try.f3.params.toList args.toList ds p := hA0
  rw [Try.params3] at hA hval
  obtain ⟨v0, vs0, d0, ds0, p0, q0, hargs, rfl, rfl, h0, r0⟩ := trodAll_cons hA
  obtain ⟨v1, vs1, d1, ds1, p1, q1, rfl, rfl, rfl, h1, r1⟩ := trodAll_cons r0
  obtain ⟨rfl, rfl, rfl⟩ := trodAll_nil r1
  obtain rfl : args = #[v0, v1] := by cases args; simp_all
  obtain ⟨rfl, rfl⟩ := trodVars_none hV
  obtain ⟨x0, f0, k0⟩ := Go.Sl.read_arg (u := (.int .i64)) (by kernel_rfl) (by kernel_rfl) (hval 0 3 v0 rfl rfl) h0
  have lt0 : ∀ x ∈ p0, x.block < W.heap.size := by obtain ⟨m, hm⟩ := h0; exact DataW.trod_lt m _ _ _ hm
  obtain ⟨x1, f1, k1⟩ := Go.Sl.read_arg (u := (.slice (.pair (.int .i64) (.pair (.int .i64) (.int .i64))))) (by kernel_rfl) (by kernel_rfl) (hval 1 22 v1 rfl rfl) h1
  have lt1 : ∀ x ∈ p1, x.block < W.heap.size := by obtain ⟨m, hm⟩ := h1; exact DataW.trod_lt m _ _ _ hm
  clear hA0 hval0
  obtain ⟨fuel, hm⟩ := NameBuilds_true x0 x1 f0 f1
  refine (Go.Sl.law_of (vs := [v0, v1]) (law_NameBuilds_ok hm) rfl (.cons (k0 _ _) (.cons (k1 _ _) .nil))).mono fun e W' ⟨he, bel⟩ => ?_
  subst he
  exact ⟨_, rfl, _, _, _, [], _, [], hW', trodAll_mk1 (shut_bool Try.underlying4 _), (trodAll_cons_mk (Below.trod laidOut (by kernel_rfl) (of_decide_eq_true (by kernel_rfl)) h0 bel lt0) (trodAll_cons_mk (Below.trod laidOut (by kernel_rfl) (of_decide_eq_true (by kernel_rfl)) h1 bel lt1) trodAll_mk0)), rfl, bel.frame _, fun h => by cases h⟩
theorem proved : Rows.NameBuildsSaid :=
  OpenClaim.holds_of_wide 3 Try.f3 rfl rfl rfl rfl rfl rfl rfl ⟨rfl, rfl, rfl, rfl, rfl⟩ rfl rfl rfl rfl rfl (by kernel_rfl) Try.func3 (by kernel_rfl)
    (of_decide_eq_true (by kernel_rfl)) (by unfold Func.isWrapper; first | (rw [if_pos (by decide +kernel)]; kernel_rfl) | (rw [if_neg (by decide +kernel)]; exact ⟨rfl, rfl⟩))
    (fun os started H enc _ => lifted os started H enc)
#print axioms proved
end Go.Proofs.Ytcallckeeohoaaa.nameBuilds
