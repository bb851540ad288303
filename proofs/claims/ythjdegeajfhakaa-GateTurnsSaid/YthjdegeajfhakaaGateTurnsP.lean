/- GateTurns holds for every input: no conditions. -/
import Derived.Test.YthjdegeajfhakaaRows
import Derived.WalkKit
import Derived.ProofKit
import Derived.OpenShut
import Derived.ShutString
import Derived.ChangeOld
import Derived.Below
import Derived.Test.YthjdegeajfhakaaGateTurnsM
set_option linter.all false
set_option maxRecDepth 100000
namespace Go.Proofs.Ythjdegeajfhakaa.gateTurns
open Go Go.Sl
theorem within_eq (a b c : Int) : ref_Within a b c = some (decide (a ≤ b ∧ b ≤ c)) := by
  unfold ref_Within
  rw [Bool.decide_and]

theorem inside1 (n v : Int) : ref_Inside n [v] = some (decide (0 ≤ v ∧ v < n)) := by
  unfold ref_Inside
  rw [forL_ex (p := fun v => decide (v < 0) || decide (v ≥ n)) (y := Esc.ret false) (fun i a _ => by unfold ref_Inside_b1; cases (decide (a < 0) || decide (a ≥ n)) <;> rfl)]
  by_cases h : 0 ≤ v ∧ v < n
  · have : (decide (v < 0) || decide (v ≥ n)) = false := by simp only [Bool.or_eq_false_iff, decide_eq_false_iff_not]; omega
    simp [this, h]
  · have : (decide (v < 0) || decide (v ≥ n)) = true := by simp only [Bool.or_eq_true, decide_eq_true_eq]; omega
    simp [this, h]

def gc (a0 : Int) (n : Nat) (v : Int × Int × Int) : Option Int :=
  bif !decide (1 ≤ v.1 ∧ v.1 ≤ 4) then some 6 else bif (v.1 == 1) && !decide (0 ≤ v.2.1 ∧ v.2.1 < a0) then some 4
  else bif (!(v.1 == 1) && !decide (0 ≤ v.2.1 ∧ v.2.1 < n)) || (decide (v.1 ≥ 3) && !decide (0 ≤ v.2.2 ∧ v.2.2 < n)) then some 2 else none
theorem gc_body (a0 : Int) (n : Nat) (v : Int × Int × Int) : ref_GatesCheck_b10 a0 n v () = some (said Esc.ret (gc a0 n v)) := by
  unfold ref_GatesCheck_b10 ref_GatesCheck_g7 gc
  rw [within_eq, inside1, inside1, inside1]
  simp only [bne]
  generalize decide (1 ≤ v.1 ∧ v.1 ≤ 4) = c1
  generalize decide (0 ≤ v.2.1 ∧ v.2.1 < a0) = c2
  generalize decide (0 ≤ v.2.1 ∧ v.2.1 < (n : Int)) = c3
  generalize decide (0 ≤ v.2.2 ∧ v.2.2 < (n : Int)) = c4
  generalize (v.1 == 1) = c5
  generalize decide (v.1 ≥ 3) = c6
  cases c1 <;> cases c2 <;> cases c3 <;> cases c4 <;> cases c5 <;> cases c6 <;> rfl
theorem gc_pos {a0 : Int} {n : Nat} {v : Int × Int × Int} {e : Int} (h : gc a0 n v = some e) : e ≠ 0 := by
  unfold gc at h
  revert h
  generalize (!decide (1 ≤ v.1 ∧ v.1 ≤ 4)) = c1
  generalize ((v.1 == 1) && !decide (0 ≤ v.2.1 ∧ v.2.1 < a0)) = c2
  generalize ((!(v.1 == 1) && !decide (0 ≤ v.2.1 ∧ v.2.1 < (n : Int))) || (decide (v.1 ≥ 3) && !decide (0 ≤ v.2.2 ∧ v.2.2 < (n : Int)))) = c3
  cases c1 <;> cases c2 <;> cases c3 <;> simp <;> rintro rfl <;> decide
theorem gc_ref (a0 : Int) (l : List (Int × Int × Int)) : ref_GatesCheck a0 l = some ((firstOf (gc a0) 0 l).getD 0) := by
  unfold ref_GatesCheck
  rw [forL_findI (f := gc a0) (g := Esc.ret) (fun n a _ => gc_body a0 n a)]
  cases firstOf (gc a0) 0 l <;> rfl
def GatesOk (a0 : Int) (l : List (Int × Int × Int)) : Prop :=
  ∀ (j : Nat) (g : Int × Int × Int), l[j]? = some g → (1 ≤ g.1 ∧ g.1 ≤ 4) ∧ (g.1 = 1 → 0 ≤ g.2.1 ∧ g.2.1 < a0) ∧ (g.1 ≠ 1 → 0 ≤ g.2.1 ∧ g.2.1 < j) ∧ (3 ≤ g.1 → 0 ≤ g.2.2 ∧ g.2.2 < j)
theorem gc_ok {a0 : Int} {l : List (Int × Int × Int)} (h : (firstOf (gc a0) 0 l).getD 0 = 0) : GatesOk a0 l := by
  intro j g hg
  cases hf : firstOf (gc a0) 0 l with
  | some e =>
    rw [hf] at h
    obtain ⟨k, v, _, hv⟩ := firstOf_some hf
    exact (gc_pos hv h).elim
  | none =>
    obtain ⟨h1, h2⟩ := bif_none (firstOf_none hf hg)
    obtain ⟨h2, h3⟩ := bif_none h2
    obtain ⟨h3, _⟩ := bif_none h3
    simp only [Bool.not_eq_false', Bool.and_eq_false_iff, Bool.or_eq_false_iff, decide_eq_true_eq, decide_eq_false_iff_not, beq_eq_false_iff_ne, beq_iff_eq, ne_eq] at h1 h2 h3
    refine ⟨by omega, by omega, by omega, by omega⟩
theorem gc_of {a0 : Int} {l : List (Int × Int × Int)} (h : GatesOk a0 l) : ref_GatesCheck a0 l = some 0 := by
  rw [gc_ref]
  cases hf : firstOf (gc a0) 0 l with
  | none => rfl
  | some e =>
    obtain ⟨k, v, hk, hv⟩ := firstOf_some hf
    obtain ⟨h1, h2, h3, h4⟩ := h k v hk
    have c1 : (!decide (1 ≤ v.1 ∧ v.1 ≤ 4)) = false := by rw [decide_eq_true h1]; rfl
    have c2 : ((v.1 == 1) && !decide (0 ≤ v.2.1 ∧ v.2.1 < a0)) = false := by
      simp only [Bool.not_eq_false', Bool.and_eq_false_iff, decide_eq_true_eq, beq_eq_false_iff_ne, ne_eq]; omega
    have c3 : ((!(v.1 == 1) && !decide (0 ≤ v.2.1 ∧ v.2.1 < (k : Int))) || (decide (v.1 ≥ 3) && !decide (0 ≤ v.2.2 ∧ v.2.2 < (k : Int)))) = false := by
      simp only [Bool.not_eq_false', Bool.and_eq_false_iff, Bool.or_eq_false_iff, decide_eq_true_eq, decide_eq_false_iff_not, beq_iff_eq]; omega
    unfold gc at hv
    rw [c1, c2, c3] at hv
    cases hv

def gcAll (a0 : Int) (l : List (Int × Int × Int)) : Int :=
  if (0 ≤ a0 ∧ a0 ≤ 5) ∧ 1 ≤ (l.length : Int) ∧ (l.length : Int) ≤ 40 then (firstOf (gc a0) 0 l).getD 0 else 1
theorem gc_gatecheck (a0 : Int) (l : List (Int × Int × Int)) : ref_GateCheck a0 l = some (gcAll a0 l) := by
  unfold ref_GateCheck ref_GateCheck_g1 gcAll
  rw [within_eq, within_eq, gc_ref]
  by_cases h1 : 0 ≤ a0 ∧ a0 ≤ 5
  · by_cases h2 : 1 ≤ (l.length : Int) ∧ (l.length : Int) ≤ 40
    · rw [if_pos ⟨h1, h2⟩, decide_eq_true h1, decide_eq_true h2]; rfl
    · rw [if_neg (fun h => h2 h.2), decide_eq_true h1, decide_eq_false h2]; rfl
  · rw [if_neg (fun h => h1 h.1), decide_eq_false h1]; rfl
theorem gc_valid {a0 : Int} {l : List (Int × Int × Int)} (h : gcAll a0 l = 0) : ((0 ≤ a0 ∧ a0 ≤ 5) ∧ 1 ≤ (l.length : Int) ∧ (l.length : Int) ≤ 40) ∧ GatesOk a0 l := by
  unfold gcAll at h
  split at h
  · rename_i hc
    exact ⟨hc, gc_ok h⟩
  · omega
theorem gc_wrong_body (a0 : Int) (n : Nat) (v : Int × Int × Int) : gate_Wrong_b43 a0 n v () = some (said Esc.ret (gc a0 n v)) := by
  have ht : ∀ u : Int, gate_Wrong_1 u (n : Int) = some (decide (0 ≤ u ∧ u < (n : Int))) := by
    intro u
    unfold gate_Wrong_1
    rw [Bool.decide_and]
  unfold gate_Wrong_b43 gate_Wrong_g39 gc
  rw [ht, ht]
  have e : (bif decide (v.2.1 < (0 : Int)) then (some true) else (some (decide (v.2.1 ≥ a0)))) = some (!decide (0 ≤ v.2.1 ∧ v.2.1 < a0)) := by
    by_cases h1 : v.2.1 < 0
    · simp [h1]
    · by_cases h2 : v.2.1 < a0
      · simp [h1, h2, Int.not_lt.1 h1]
      · simp [h1, h2]; omega
  have e1 : (bif decide (v.1 < (1 : Int)) then (some true) else (some (decide (v.1 > (4 : Int))))) = some (!decide (1 ≤ v.1 ∧ v.1 ≤ 4)) := by
    by_cases h1 : 1 ≤ v.1 ∧ v.1 ≤ 4
    · rw [decide_eq_true h1, decide_eq_false (by omega), decide_eq_false (by omega)]; rfl
    · rw [decide_eq_false h1]
      by_cases h2 : v.1 < 1
      · rw [decide_eq_true h2]; rfl
      · rw [decide_eq_false h2, decide_eq_true (by omega)]; rfl
  rw [e, e1]
  by_cases h1 : 1 ≤ v.1 ∧ v.1 ≤ 4
  · rw [decide_eq_true h1]
    have k2 : decide (v.1 > 1) = !(v.1 == 1) := by
      rw [beq_dec, not_dec]; exact decide_eq_decide.2 (by omega)
    have k3 : decide (v.1 > 2) = decide (v.1 ≥ 3) := decide_eq_decide.2 (by omega)
    rw [k2, k3]
    generalize decide (0 ≤ v.2.1 ∧ v.2.1 < a0) = c2
    generalize decide (0 ≤ v.2.1 ∧ v.2.1 < (n : Int)) = c3
    generalize decide (0 ≤ v.2.2 ∧ v.2.2 < (n : Int)) = c4
    generalize (v.1 == 1) = c5
    generalize decide (v.1 ≥ 3) = c6
    cases c2 <;> cases c3 <;> cases c4 <;> cases c5 <;> cases c6 <;> rfl
  · rw [decide_eq_false h1]; rfl
theorem gc_wrong (a0 : Int) (l : List (Int × Int × Int)) : gate_Wrong a0 l = some ((firstOf (gc a0) 0 l).getD 0) := by
  unfold gate_Wrong
  rw [forL_findI (f := gc a0) (g := Esc.ret) (fun n a _ => gc_wrong_body a0 n a)]
  cases firstOf (gc a0) 0 l <;> rfl
theorem gc_check (a0 : Int) (l : List (Int × Int × Int)) : gate_Check a0 l = some (gcAll a0 l) := by
  unfold gate_Check gcAll
  rw [gc_wrong]
  by_cases h : (0 ≤ a0 ∧ a0 ≤ 5) ∧ 1 ≤ (l.length : Int) ∧ (l.length : Int) ≤ 40
  · have hb : ((((decide (a0 < (0 : Int))) || (decide (a0 > (5 : Int)))) || (decide ((List.length l : Int) < (1 : Int)))) || (decide ((List.length l : Int) > (40 : Int)))) = false := by
      simp only [Bool.or_eq_false_iff, decide_eq_false_iff_not]; omega
    rw [bif_f hb, if_pos h]; rfl
  · have hb : ((((decide (a0 < (0 : Int))) || (decide (a0 > (5 : Int)))) || (decide ((List.length l : Int) < (1 : Int)))) || (decide ((List.length l : Int) > (40 : Int)))) = true := by
      simp only [Bool.or_eq_true, decide_eq_true_eq]; omega
    rw [bif_t hb, if_neg h]


theorem bit_eq {w i : Nat} (hw : w < 2 ^ 63) (hi : i < 63) : ref_Bit (w : Int) (i : Int) = some (w.testBit i) := by
  unfold ref_Bit
  have c : (decide ((i : Int) ≥ 0) && decide ((i : Int) < 63)) = true := by simp; omega
  have e : IntKind.wrap .u64 (i : Int) = (i : Int) := wrap_u64 (by omega) (by omega)
  rw [c, e, ck_ok (by omega)]
  simp only [cond_true, Option.bind_some, bit_mask hw hi]

/-- one gate, by the inputs and what those ahead of it are -/
def gval (env : Nat → Bool) (v : List Bool) (g : Int × Int × Int) : Bool :=
  if g.1 = 1 then env g.2.1.toNat else if g.1 = 2 then !(v.getD g.2.1.toNat false)
  else if g.1 = 3 then v.getD g.2.1.toNat false && v.getD g.2.2.toNat false else v.getD g.2.1.toNat false || v.getD g.2.2.toNat false
def gall (env : Nat → Bool) : List (Int × Int × Int) → List Bool := fun l => l.foldl (fun v g => v ++ [gval env v g]) []
theorem gall_snoc (env : Nat → Bool) (l : List (Int × Int × Int)) (g : Int × Int × Int) : gall env (l ++ [g]) = gall env l ++ [gval env (gall env l) g] := by
  unfold gall
  rw [List.foldl_append]; rfl
theorem gall_len (env : Nat → Bool) (l : List (Int × Int × Int)) : (gall env l).length = l.length := by
  induction l using snoc_ind with
  | h0 => rfl
  | h1 l g ih => rw [gall_snoc]; simp [ih]
theorem gall_take (env : Nat → Bool) (l : List (Int × Int × Int)) : ∀ n, (gall env l).take n = gall env (l.take n) := by
  induction l using snoc_ind with
  | h0 => intro n; simp [gall]
  | h1 l g ih =>
    intro n
    rw [gall_snoc]
    rcases Nat.lt_or_ge l.length n with h | h
    · rw [List.take_of_length_le (by simp [gall_len]; omega), List.take_of_length_le (by simp; omega), gall_snoc]
    · rw [List.take_append_of_le_length (by rw [gall_len]; exact h), List.take_append_of_le_length h]
      exact ih n
theorem gall_get (env : Nat → Bool) {l : List (Int × Int × Int)} {n : Nat} {g : Int × Int × Int} (h : l[n]? = some g) : (gall env l)[n]? = some (gval env ((gall env l).take n) g) := by
  have hn := (List.getElem?_eq_some_iff.1 h).1
  have e1 : l.take (n + 1) = l.take n ++ [g] := by
    rw [List.take_add_one, h]; rfl
  have e2 : (gall env l)[n]? = ((gall env l).take (n + 1))[n]? := by rw [List.getElem?_take_of_lt (by omega)]
  rw [e2, gall_take, e1, gall_snoc, List.getElem?_append_right (by rw [gall_len]; simp; omega), gall_len]
  have : n - (l.take n).length = 0 := by simp; omega
  rw [this, gall_take]; rfl
theorem getD_take {v : List Bool} {n k : Nat} (h : k < n) : (v.take n).getD k false = v.getD k false := by
  rw [List.getD_eq_getElem?_getD, List.getD_eq_getElem?_getD, List.getElem?_take_of_lt h]
theorem gval_take {a0 : Int} {l : List (Int × Int × Int)} (hok : GatesOk a0 l) (env : Nat → Bool) (v : List Bool) {n : Nat} {g : Int × Int × Int} (h : l[n]? = some g) : gval env (v.take n) g = gval env v g := by
  obtain ⟨h1, h2, h3, h4⟩ := hok n g h
  unfold gval
  split
  · rfl
  · rename_i k1
    have e1 : (v.take n).getD g.2.1.toNat false = v.getD g.2.1.toNat false := getD_take (by have := h3 k1; omega)
    split
    · rw [e1]
    · rename_i k2
      have e2 : (v.take n).getD g.2.2.toNat false = v.getD g.2.2.toNat false := getD_take (by have := h4 (by omega); omega)
      split
      · rw [e1, e2]
      · rw [e1, e2]
theorem gall_get' {a0 : Int} {l : List (Int × Int × Int)} (hok : GatesOk a0 l) (env : Nat → Bool) {n : Nat} {g : Int × Int × Int} (h : l[n]? = some g) : (gall env l)[n]? = some (gval env (gall env l) g) := by
  rw [gall_get env h, gval_take hok env _ h]
theorem getD_idx {x : List Bool} {i : Int} (h0 : 0 ≤ i) (h : i < (x.length : Int)) : idx x i = some (x.getD i.toNat false) := by
  obtain ⟨b, hb, hb2⟩ := idx_get h0 h
  rw [hb, List.getD_eq_getElem?_getD, hb2]; rfl
/-- what the document's circuit values are -/
theorem gates_ref {a0 : Int} {l : List (Int × Int × Int)} (hok : GatesOk a0 l) (ha : a0 ≤ 63) (hl : l.length ≤ 4294967296) (w : Nat) (hw : w < 2 ^ 63) : ref_Gates l (w : Int) = some (gall w.testBit l) := by
  unfold ref_Gates
  rw [ck_ok (by omega)]
  have hG := gall_len w.testBit l
  obtain ⟨y, hy, rfl⟩ := forL_inv (body := ref_Gates_b7 (w : Int)) (fin := fun x => x) (l := l) (x := List.replicate (Int.toNat (l.length : Int)) false)
    (fun n x => x.length = l.length ∧ ∀ j, j < n → x[j]? = (gall w.testBit l)[j]?) (fun y => y = gall w.testBit l) ⟨by simp, fun j hj => by omega⟩
    (by
      rintro n g x hg ⟨hx, hv⟩
      have hn := (List.getElem?_eq_some_iff.1 hg).1
      obtain ⟨h1, h2, h3, h4⟩ := hok n g hg
      obtain ⟨old, ho, _⟩ := idx_get (xs := x) (i := (n : Int)) (by omega) (by omega)
      have same : ∀ k, k < n → x.getD k false = (gall w.testBit l).getD k false := by
        intro k hk
        rw [List.getD_eq_getElem?_getD, List.getD_eq_getElem?_getD, hv k hk]
      have step : ref_Gates_b7 (w : Int) (n : Int) g x = some (.next (x.set n (gval w.testBit (gall w.testBit l) g))) := by
        unfold ref_Gates_b7 ref_Gates_g5 gval
        by_cases k1 : g.1 = 1
        · obtain ⟨i, hi⟩ := Int.eq_ofNat_of_zero_le (h2 k1).1
          have := (h2 k1).2
          simp [k1, hi, bit_eq hw (show i < 63 by omega), ho]
        · have b1 : (g.1 == 1) = false := by simp [k1]
          have a1 := h3 k1
          have e1 : idx x g.2.1 = some ((gall w.testBit l).getD g.2.1.toNat false) := by
            rw [getD_idx a1.1 (by omega), same _ (by omega)]
          rw [b1, if_neg k1]
          by_cases k2 : g.1 = 2
          · simp [k2, e1, ho]
          · have b2 : (g.1 == 2) = false := by simp [k2]
            have a2 := h4 (by omega)
            have e2 : idx x g.2.2 = some ((gall w.testBit l).getD g.2.2.toNat false) := by
              rw [getD_idx a2.1 (by omega), same _ (by omega)]
            rw [b2, if_neg k2]
            rw [e1, e2, ho]
            generalize (gall w.testBit l).getD g.2.1.toNat false = p
            generalize (gall w.testBit l).getD g.2.2.toNat false = q
            by_cases k3 : g.1 = 3
            · cases p <;> cases q <;> simp [k3]
            · have k4 : g.1 = 4 := by omega
              cases p <;> cases q <;> simp [k4]
      refine ⟨_, step, by simpa using hx, ?_⟩
      intro j hj
      rcases Nat.lt_or_ge j n with hjn | hjn
      · rw [List.getElem?_set_ne (by omega)]; exact hv j hjn
      · have : j = n := by omega
        subst this
        rw [List.getElem?_set_self (by omega), gall_get' hok _ hg])
    (by
      rintro x ⟨hx, hv⟩
      apply List.ext_getElem?
      intro j
      rcases Nat.lt_or_ge j l.length with h | h
      · exact hv j h
      · rw [List.getElem?_eq_none (by omega), List.getElem?_eq_none (by omega)])
  rw [hy]; rfl


theorem mget_mput {α β : Type} {eq : α → α → Bool} [DecidableEq α] (heq : ∀ a b, eq a b = true ↔ a = b) : ∀ (l : List (α × β)) (x : α) (y : β) (z : α), mGet eq (mPut eq l x y) z = if z = x then some y else mGet eq l z
  | [], x, y, z => by
    by_cases h : z = x
    · simp [mPut, mGet, h, (heq x x).2 rfl]
    · have : eq z x = false := by cases hh : eq z x with | false => rfl | true => exact (h ((heq _ _).1 hh)).elim
      simp [mPut, mGet, h, this]
  | p :: l, x, y, z => by
    have hf : ∀ {a b}, a ≠ b → eq a b = false := by
      intro a b h
      cases hh : eq a b with | false => rfl | true => exact (h ((heq _ _).1 hh)).elim
    by_cases hp : x = p.1
    · have e1 : eq x p.1 = true := (heq _ _).2 hp
      by_cases h : z = x
      · simp [mPut, mGet, e1, h, (heq x x).2 rfl]
      · simp [mPut, mGet, e1, h, hf h, hf (fun e => h (e.trans hp.symm))]
    · have e1 : eq x p.1 = false := hf hp
      by_cases hz : z = p.1
      · have e2 : eq z p.1 = true := (heq _ _).2 hz
        have hzx : z ≠ x := fun e => hp (e ▸ hz)
        simp [mPut, mGet, e1, e2, hzx]
      · simp only [mPut, e1, Bool.false_eq_true, if_false, mGet, hf hz]
        exact mget_mput heq l x y z
theorem deqI {k : IntKind} (a b : Int) : deqT (.int k) a b = true ↔ a = b := by simp [deqT]

abbrev Gt : Type := Int × Int × Int
abbrev GMap : Type := Option (List (Gt × Int))
theorem deqG (a b : Gt) : deqT (.pair tI (.pair tI tI)) a b = true ↔ a = b := by
  obtain ⟨a1, a2, a3⟩ := a
  obtain ⟨b1, b2, b3⟩ := b
  simp [deqT, tI]
/-- the map holds each gate's place -/
def MOk (L : List Gt) (m : GMap) : Prop :=
  ∀ (g : Gt) (y : Int), mGet (deqT (.pair tI (.pair tI tI))) (m.getD []) g = some y ↔ ∃ i : Nat, y = i ∧ L[i]? = some g
theorem mok_nil : MOk [] none := by
  intro g y; constructor
  · intro h; simp [mGet] at h
  · rintro ⟨i, _, h⟩; simp at h
theorem mok_put {L : List Gt} {m : GMap} (h : MOk L m) (hl : L.length < 4294967295) (a b c : Int) :
    ∃ (i : Nat) (L' : List Gt) (m' : GMap), gate_Maker_Put_i2 a b c L m = some ((i : Int), L', m') ∧ MOk L' m' ∧ L'[i]? = some (a, b, c) ∧
      ((L' = L ∧ (a, b, c) ∈ L) ∨ (L' = L ++ [(a, b, c)] ∧ (a, b, c) ∉ L)) := by
  obtain ⟨m2, hm2⟩ : ∃ m2 : List (Gt × Int), m2 = m.getD [] := ⟨_, rfl⟩
  have e1 : (bif Option.isNone m then (some (some [] : Option (List ((Int × (Int × Int)) × Int)))) else (some m)) = some (some m2) := by
    cases m with
    | none => subst hm2; rfl
    | some x => subst hm2; rfl
  have h2 : MOk L (some m2) := by
    subst hm2; exact h
  unfold gate_Maker_Put_i2 gate_Maker_Put_i2_g1
  rw [e1]
  rw [Option.bind_some]
  rw [show Option.getD (some m2) ([] : List (Gt × Int)) = m2 from rfl]
  cases hg : mGet (deqT (.pair tI (.pair tI tI))) m2 (a, b, c) with
  | some y =>
    obtain ⟨i, hi, hL⟩ := (h2 _ _).1 hg
    refine ⟨i, L, some m2, ?_, h2, hL, Or.inl ⟨rfl, List.mem_of_getElem? hL⟩⟩
    subst hi; rfl
  | none =>
    have hno : (a, b, c) ∉ L := by
      intro hm
      obtain ⟨i, hi⟩ := List.getElem?_of_mem hm
      have := (h2 (a, b, c) i).2 ⟨i, rfl, hi⟩
      rw [show Option.getD (some m2) ([] : List (Gt × Int)) = m2 from rfl, hg] at this
      cases this
    refine ⟨L.length, L ++ [(a, b, c)], some (mPut (deqT (.pair tI (.pair tI tI))) m2 (a, b, c) (L.length : Int)), ?_, ?_, by simp, Or.inr ⟨rfl, hno⟩⟩
    · have c1 : ck ((L.length : Int) + 1 ≤ 4294967296) = some () := ck_ok (by omega)
      have c2 : ck (Option.isSome (some m2) = true) = some () := ck_ok rfl
      rw [bif_t (show (!(Option.isSome (none : Option Int))) = true from rfl), c1, bind_some', c2, bind_some']; rfl
    · intro g y
      rw [show Option.getD (some (mPut (deqT (.pair tI (.pair tI tI))) m2 (a, b, c) (L.length : Int))) ([] : List (Gt × Int)) = mPut (deqT (.pair tI (.pair tI tI))) m2 (a, b, c) (L.length : Int) from rfl,
        mget_mput deqG]
      by_cases hgx : g = (a, b, c)
      · rw [if_pos hgx]
        constructor
        · intro hy; injection hy with hy
          exact ⟨L.length, hy.symm, by rw [hgx]; simp⟩
        · rintro ⟨i, rfl, hi⟩
          rcases Nat.lt_or_ge i L.length with h3 | h3
          · rw [List.getElem?_append_left h3] at hi
            exact (hno (hgx ▸ List.mem_of_getElem? hi)).elim
          · have := (List.getElem?_eq_some_iff.1 hi).1
            simp at this
            rw [show i = L.length by omega]
      · rw [if_neg hgx]
        have := h2 g y
        rw [show Option.getD (some m2) ([] : List (Gt × Int)) = m2 from rfl] at this
        rw [this]
        constructor
        · rintro ⟨i, rfl, hi⟩
          exact ⟨i, rfl, by rw [List.getElem?_append_left (List.getElem?_eq_some_iff.1 hi).1]; exact hi⟩
        · rintro ⟨i, rfl, hi⟩
          refine ⟨i, rfl, ?_⟩
          rcases Nat.lt_or_ge i L.length with h3 | h3
          · rw [List.getElem?_append_left h3] at hi; exact hi
          · rw [List.getElem?_append_right h3] at hi
            have := (List.getElem?_eq_some_iff.1 hi).1
            simp at this
            rw [show i - L.length = 0 by omega] at hi
            simp at hi
            exact (hgx (by rw [← hi])).elim
/-- may g stand at place j behind L -/
def GOk (a0 : Int) (j : Nat) (g : Gt) : Prop := (1 ≤ g.1 ∧ g.1 ≤ 4) ∧ (g.1 = 1 → 0 ≤ g.2.1 ∧ g.2.1 < a0) ∧ (g.1 ≠ 1 → 0 ≤ g.2.1 ∧ g.2.1 < j) ∧ (3 ≤ g.1 → 0 ≤ g.2.2 ∧ g.2.2 < j)
theorem gok_snoc {a0 : Int} {L : List Gt} (h : GatesOk a0 L) {g : Gt} (hg : GOk a0 L.length g) : GatesOk a0 (L ++ [g]) := by
  intro j g' hj
  rcases Nat.lt_or_ge j L.length with h3 | h3
  · rw [List.getElem?_append_left h3] at hj; exact h j g' hj
  · rw [List.getElem?_append_right h3] at hj
    have := (List.getElem?_eq_some_iff.1 hj).1
    simp at this
    rw [show j - L.length = 0 by omega] at hj
    simp at hj
    subst hj
    rw [show j = L.length by omega]; exact hg
/-- a circuit under way: the gates are in order, the map is right -/
structure MkrOk (a0 : Int) (L : List Gt) (m : GMap) : Prop where
  ok : GatesOk a0 L
  mp : MOk L m
theorem gval_ext (env : Nat → Bool) {v w : List Bool} {g : Gt} (h1 : g.1 ≠ 1 → v.getD g.2.1.toNat false = w.getD g.2.1.toNat false) (h2 : g.1 ≠ 1 → g.1 ≠ 2 → v.getD g.2.2.toNat false = w.getD g.2.2.toNat false) : gval env v g = gval env w g := by
  unfold gval
  by_cases k1 : g.1 = 1
  · rw [if_pos k1, if_pos k1]
  · rw [if_neg k1, if_neg k1, h1 k1]
    by_cases k2 : g.1 = 2
    · rw [if_pos k2, if_pos k2]
    · rw [if_neg k2, if_neg k2, h2 k1 k2]
theorem gall_pre (env : Nat → Bool) {L L' : List Gt} (h : L <+: L') {p : Nat} (hp : p < L.length) : (gall env L').getD p false = (gall env L).getD p false := by
  obtain ⟨t, rfl⟩ := h
  have : gall env L = (gall env (L ++ t)).take L.length := by rw [gall_take]; simp
  rw [this, getD_take hp]
/-- a gate put: its value, by the values of what it names -/
theorem mk_put {a0 : Int} {L : List Gt} {m : GMap} (h : MkrOk a0 L m) (hl : L.length < 4294967295) (a b c : Int) (hg : GOk a0 L.length (a, b, c)) :
    ∃ (i : Nat) (L' : List Gt) (m' : GMap), gate_Maker_Put_i2 a b c L m = some ((i : Int), L', m') ∧ MkrOk a0 L' m' ∧ L <+: L' ∧ L'.length ≤ L.length + 1 ∧ i < L'.length ∧ L'[i]? = some (a, b, c) ∧
      ((L' = L ∧ (a, b, c) ∈ L) ∨ (L' = L ++ [(a, b, c)] ∧ (a, b, c) ∉ L)) ∧
      ∀ env, (gall env L').getD i false = gval env (gall env L) (a, b, c) := by
  obtain ⟨i, L', m', h1, h2, h3, h4⟩ := mok_put h.mp hl a b c
  have hi := (List.getElem?_eq_some_iff.1 h3).1
  have hpre : L <+: L' := by
    rcases h4 with ⟨rfl, _⟩ | ⟨rfl, _⟩
    · exact List.prefix_rfl
    · exact List.prefix_append _ _
  have hok : GatesOk a0 L' := by
    rcases h4 with ⟨rfl, _⟩ | ⟨rfl, _⟩
    · exact h.ok
    · exact gok_snoc h.ok hg
  refine ⟨i, L', m', h1, ⟨hok, h2⟩, hpre, ?_, hi, h3, h4, ?_⟩
  · rcases h4 with ⟨rfl, _⟩ | ⟨rfl, _⟩ <;> simp
  · intro env
    rw [List.getD_eq_getElem?_getD, gall_get' hok env h3]
    refine gval_ext env ?_ ?_
    · intro k1; exact gall_pre env hpre (by have := hg.2.2.1 k1; omega)
    · intro k1 k2; exact gall_pre env hpre (by have h5 := hg.1; have := hg.2.2.2 (by omega); omega)

theorem gval_at3 (env : Nat → Bool) (v : List Bool) {a b c : Int} (h : a = 3) : gval env v (a, b, c) = (v.getD b.toNat false && v.getD c.toNat false) := by subst h; rfl
theorem gval_at4 (env : Nat → Bool) (v : List Bool) {a b c : Int} (h : a = 4) : gval env v (a, b, c) = (v.getD b.toNat false || v.getD c.toNat false) := by subst h; rfl
def NotIn (L : List Gt) : Prop := ∀ (j : Nat) (g : Gt), L[j]? = some g → g.1 = 2 → ∃ h, L[g.2.1.toNat]? = some h ∧ h.1 = 1
theorem pre_get {L L' : List Gt} (h : L <+: L') {j : Nat} {g : Gt} (hj : L[j]? = some g) : L'[j]? = some g := by
  obtain ⟨t, rfl⟩ := h
  rw [List.getElem?_append_left (List.getElem?_eq_some_iff.1 hj).1]; exact hj
theorem notin_put {L L' : List Gt} {g : Gt} (h : NotIn L) (hp : (L' = L ∧ g ∈ L) ∨ (L' = L ++ [g] ∧ g ∉ L)) (hg : g.1 = 2 → ∃ h, L[g.2.1.toNat]? = some h ∧ h.1 = 1) : NotIn L' := by
  rcases hp with ⟨rfl, _⟩ | ⟨rfl, _⟩
  · exact h
  · intro j g' hj h2
    rcases Nat.lt_or_ge j L.length with h3 | h3
    · rw [List.getElem?_append_left h3] at hj
      obtain ⟨k, hk, hk1⟩ := h j g' hj h2
      exact ⟨k, pre_get (List.prefix_append _ _) hk, hk1⟩
    · rw [List.getElem?_append_right h3] at hj
      have := (List.getElem?_eq_some_iff.1 hj).1
      simp at this
      rw [show j - L.length = 0 by omega] at hj
      simp at hj
      subst hj
      obtain ⟨k, hk, hk1⟩ := hg h2
      exact ⟨k, pre_get (List.prefix_append _ _) hk, hk1⟩
def TInv (a0 : Int) (a1 : List Gt) (n : Nat) (x : List Int × List Int × List Gt × GMap) : Prop :=
  x.1.length = n ∧ x.2.1.length = n ∧ MkrOk a0 x.2.2.1 x.2.2.2 ∧ NotIn x.2.2.1 ∧ x.2.2.1.length ≤ 2 * n ∧
  ∀ j, j < n → ∃ p q : Nat, x.1[j]? = some (p : Int) ∧ x.2.1[j]? = some (q : Int) ∧ p < x.2.2.1.length ∧ q < x.2.2.1.length ∧
    ∀ env, (gall env x.2.2.1).getD p false = (gall env a1).getD j false ∧ (gall env x.2.2.1).getD q false = !(gall env a1).getD j false
theorem idx_nat {xs : List Int} {i : Int} {j : Nat} {p : Int} (h0 : 0 ≤ i) (hi : i.toNat = j) (h : xs[j]? = some p) : idx xs i = some p := by
  have hj := (List.getElem?_eq_some_iff.1 h).1
  obtain ⟨y, hy, hy2⟩ := idx_get (xs := xs) (i := i) h0 (by omega)
  rw [hi, h] at hy2
  injection hy2 with e
  rw [hy, e]
theorem turn_step {a0 : Int} {a1 : List Gt} (hok : GatesOk a0 a1) {n : Nat} {g : Gt} (hg : a1[n]? = some g) (hn : n < 1000) {x : List Int × List Int × List Gt × GMap} (h : TInv a0 a1 n x) :
    ∃ (p q : Nat) (L' : List Gt) (m' : GMap), gate_Turn_g7 x g = some ((p : Int), (q : Int), L', m') ∧ MkrOk a0 L' m' ∧ NotIn L' ∧ x.2.2.1 <+: L' ∧ L'.length ≤ x.2.2.1.length + 2 ∧ p < L'.length ∧ q < L'.length ∧
      ∀ env, (gall env L').getD p false = gval env (gall env a1) g ∧ (gall env L').getD q false = !gval env (gall env a1) g := by
  obtain ⟨hy, hn', hmk, hni, hlen, hv⟩ := h
  obtain ⟨yes, no, L, m⟩ := x
  simp only at hy hn' hmk hni hlen hv ⊢
  obtain ⟨o1, o2, o3, o4⟩ := hok n g hg
  unfold gate_Turn_g7
  by_cases k1 : g.1 = 1
  · have b1 : (g.1 == (1 : Int)) = true := by simp [k1]
    rw [bif_t b1]
    obtain ⟨p, L1, m1, e1, hk1, p1, l1, i1, g1, s1, v1⟩ := mk_put hmk (by omega) 1 g.2.1 0 ⟨by simp, fun _ => o2 k1, by simp, by simp⟩
    obtain ⟨q, L2, m2, e2, hk2, p2, l2, i2, g2, s2, v2⟩ := mk_put hk1 (by omega) 2 (p : Int) 0 ⟨by simp, by simp, fun _ => by simp; omega, by simp⟩
    have n1 := notin_put hni s1 (by simp)
    have n2 := notin_put n1 s2 (fun _ => ⟨_, by simpa using g1, rfl⟩)
    refine ⟨p, q, L2, m2, ?_, hk2, n2, p1.trans p2, by omega, ?_, i2, ?_⟩
    · rw [e1, bind_some']; simp only []
      rw [e2, bind_some']
    · have := p2.length_le; omega
    · intro env
      have h1 : (gall env L2).getD p false = (gall env L1).getD p false := gall_pre env p2 i1
      have h2 : gval env (gall env a1) g = env g.2.1.toNat := by unfold gval; rw [if_pos k1]
      rw [h1, v1, v2, h2]
      refine ⟨by simp [gval], ?_⟩
      simp only [gval]
      simp only [show ¬ ((2 : Int) = 1) by decide, if_false, if_true, Int.toNat_natCast]
      rw [v1]; simp [gval]
  · have b1 : (g.1 == (1 : Int)) = false := by simp [k1]
    rw [b1, cond_false]
    have a1' := o3 k1
    obtain ⟨p, q, hp, hq, hp1, hq1, hpq⟩ := hv g.2.1.toNat (by omega)
    have ip : idx yes g.2.1 = some (p : Int) := idx_nat a1'.1 rfl hp
    have iq : idx no g.2.1 = some (q : Int) := idx_nat a1'.1 rfl hq
    by_cases k2 : g.1 = 2
    · have b2 : (g.1 == (2 : Int)) = true := by simp [k2]
      rw [bif_t b2, ip, iq]
      refine ⟨q, p, L, m, rfl, hmk, hni, List.prefix_rfl, by omega, hq1, hp1, ?_⟩
      intro env
      have h2 : gval env (gall env a1) g = !(gall env a1).getD g.2.1.toNat false := by unfold gval; rw [if_neg k1, if_pos k2]
      rw [h2, (hpq env).1, (hpq env).2]; simp
    · have b2 : (g.1 == (2 : Int)) = false := by simp [k2]
      rw [b2, cond_false]
      have a2' := o4 (by omega)
      obtain ⟨p', q', hp', hq', hp1', hq1', hpq'⟩ := hv g.2.2.toNat (by omega)
      have ip' : idx yes g.2.2 = some (p' : Int) := idx_nat a2'.1 rfl hp'
      have iq' : idx no g.2.2 = some (q' : Int) := idx_nat a2'.1 rfl hq'
      rw [ip, ip', iq, iq']
      simp only [Option.bind_some]
      have hw : w64 ((7 : Int) - g.1) = 7 - g.1 := w64_id (by omega) (by omega)
      rw [hw]
      obtain ⟨r, L1, m1, e1, hk1, p1, l1, i1, g1, s1, v1⟩ := mk_put hmk (by omega) g.1 (p : Int) (p' : Int) ⟨o1, by simp; omega, fun _ => by simp; omega, fun _ => by simp; omega⟩
      have p1l := p1.length_le
      obtain ⟨s, L2, m2, e2, hk2, p2, l2, i2, g2, s2, v2⟩ := mk_put hk1 (by omega) (7 - g.1) (q : Int) (q' : Int) ⟨by simp; omega, by simp; omega, fun _ => by simp; omega, fun _ => by simp; omega⟩
      have n1 := notin_put hni s1 (by intro h; exact (k2 h).elim)
      have n2 := notin_put n1 s2 (by intro h; simp at h; omega)
      refine ⟨r, s, L2, m2, ?_, hk2, n2, p1.trans p2, by omega, ?_, i2, ?_⟩
      · rw [e1, bind_some']; simp only []
        rw [e2, bind_some']
      · have := p2.length_le; omega
      · intro env
        have h1 : (gall env L2).getD r false = (gall env L1).getD r false := gall_pre env p2 i1
        have hq2 : (gall env L1).getD q false = (gall env L).getD q false := gall_pre env p1 hq1
        have hq2' : (gall env L1).getD q' false = (gall env L).getD q' false := gall_pre env p1 hq1'
        rw [h1, v1, v2]
        have k34 : g.1 = 3 ∨ g.1 = 4 := by omega
        rcases k34 with k | k
        · have e3 : gval env (gall env a1) g = ((gall env a1).getD g.2.1.toNat false && (gall env a1).getD g.2.2.toNat false) := gval_at3 env _ k
          rw [gval_at3 env _ k, gval_at4 env _ (show 7 - g.1 = 4 by omega), e3]
          simp only [Int.toNat_natCast]
          rw [hq2, hq2', (hpq env).1, (hpq env).2, (hpq' env).1, (hpq' env).2]
          refine ⟨rfl, ?_⟩
          generalize (gall env a1).getD g.2.1.toNat false = u
          generalize (gall env a1).getD g.2.2.toNat false = v
          cases u <;> cases v <;> rfl
        · have e3 : gval env (gall env a1) g = ((gall env a1).getD g.2.1.toNat false || (gall env a1).getD g.2.2.toNat false) := gval_at4 env _ k
          rw [gval_at4 env _ k, gval_at3 env _ (show 7 - g.1 = 3 by omega), e3]
          simp only [Int.toNat_natCast]
          rw [hq2, hq2', (hpq env).1, (hpq env).2, (hpq' env).1, (hpq' env).2]
          refine ⟨rfl, ?_⟩
          generalize (gall env a1).getD g.2.1.toNat false = u
          generalize (gall env a1).getD g.2.2.toNat false = v
          cases u <;> cases v <;> rfl
theorem turn_loop {a0 : Int} {a1 : List Gt} (hok : GatesOk a0 a1) (hl : a1.length ≤ 40) :
    ∃ y : List Int × List Gt × GMap, forL gate_Turn_b9 (fun x277 => (x277.1, x277.2.2.1, x277.2.2.2)) a1 0 ([], [], [], (none : GMap)) = some y ∧ ∃ no, TInv a0 a1 a1.length (y.1, no, y.2.1, y.2.2) := by
  refine forL_inv (TInv a0 a1) (fun (y : List Int × List Gt × GMap) => ∃ no, TInv a0 a1 a1.length (y.1, no, y.2.1, y.2.2)) ?_ ?_ ?_
  · refine ⟨rfl, rfl, ⟨fun j g h => by simp at h, mok_nil⟩, fun j g h => by simp at h, by simp, fun j hj => by omega⟩
  · intro n g x hg h
    have hn := (List.getElem?_eq_some_iff.1 hg).1
    obtain ⟨p, q, L', m', e, hk, hni, hpre, hlen, hp, hq, hv⟩ := turn_step hok hg (by omega) h
    obtain ⟨hy, hno, hmk, hni0, hlen0, hv0⟩ := h
    obtain ⟨yes, no, L, m⟩ := x
    simp only at hy hno hmk hni0 hlen0 hv0 hpre hlen
    refine ⟨.next (yes ++ [(p : Int)], no ++ [(q : Int)], L', m'), ?_, ?_⟩
    · unfold gate_Turn_b9
      rw [e, bind_some']
      have c1 : ck ((List.length yes : Int) + 1 ≤ 4294967296) = some () := ck_ok (by omega)
      have c2 : ck ((List.length no : Int) + 1 ≤ 4294967296) = some () := ck_ok (by omega)
      rw [c1, bind_some', c2, bind_some']
    · refine ⟨by simp [hy], by simp [hno], hk, hni, by simp only; omega, ?_⟩
      intro j hj
      simp only
      rcases Nat.lt_or_ge j n with hjn | hjn
      · obtain ⟨p', q', h1, h2, h3, h4, h5⟩ := hv0 j hjn
        have hl := hpre.length_le
        refine ⟨p', q', by rw [List.getElem?_append_left (by omega)]; exact h1, by rw [List.getElem?_append_left (by omega)]; exact h2, by omega, by omega, ?_⟩
        intro env
        rw [gall_pre env hpre h3, gall_pre env hpre h4]
        exact h5 env
      · have : j = n := by omega
        subst this
        refine ⟨p, q, by rw [List.getElem?_append_right (by omega)]; simp [hy], by rw [List.getElem?_append_right (by omega)]; simp [hno], hp, hq, ?_⟩
        intro env
        have : (gall env a1).getD j false = gval env (gall env a1) g := by
          rw [List.getD_eq_getElem?_getD, gall_get' hok env hg]; rfl
        rw [this]; exact hv env
  · rintro ⟨yes, no, L, m⟩ h
    exact ⟨no, h⟩
theorem ok_take {a0 : Int} {L : List Gt} (h : GatesOk a0 L) (n : Nat) : GatesOk a0 (L.take n) := by
  intro j g hj
  rw [List.getElem?_take] at hj
  split at hj
  · exact h j g hj
  · cases hj
theorem turn_main {a0 : Int} {a1 : List Gt} (hv : gcAll a0 a1 = 0) :
    ∃ r : List Gt, gate_Turn a0 a1 = some (r, 0) ∧ 1 ≤ r.length ∧ r.length ≤ 2 * a1.length ∧ GatesOk a0 r ∧ NotIn r ∧
      ∀ env, (gall env r).getD (r.length - 1) false = (gall env a1).getD (a1.length - 1) false := by
  obtain ⟨⟨h1, h2, h3⟩, hok⟩ := gc_valid hv
  unfold gate_Turn
  rw [gc_check, bind_some', hv]
  rw [show ((0 : Int) != 0) = false from rfl, cond_false]
  obtain ⟨y, hy, no, hyl, hnol, hmk, hni, hlen, hvv⟩ := turn_loop hok (by omega)
  rw [hy, bind_some']
  obtain ⟨yes, L, m⟩ := y
  simp only at hyl hnol hmk hni hlen hvv ⊢
  obtain ⟨p, q, hp, hq, hp1, hq1, hpq⟩ := hvv (a1.length - 1) (by omega)
  have e1 : idx yes (w64 ((List.length a1 : Int) - (1 : Int))) = some (p : Int) := by
    rw [w64_id (by omega) (by omega)]
    exact idx_nat (by omega) (by omega) hp
  have e2 : w64 ((p : Int) + 1) = ((p + 1 : Nat) : Int) := by rw [w64_id (by omega) (by omega)]; omega
  rw [e1, bind_some', e2]
  have c : ck (0 ≤ (0 : Int) ∧ (0 : Int) ≤ ((p + 1 : Nat) : Int) ∧ ((p + 1 : Nat) : Int) ≤ (List.length L : Int)) = some () := ck_ok (by omega)
  rw [c, bind_some']
  have e3 : sub L (0 : Int) ((p + 1 : Nat) : Int) = L.take (p + 1) := by
    simp [sub]
  rw [e3]
  have e4 : slices_Clone_LapiGateapiGate (L.take (p + 1)) = some (L.take (p + 1)) := by
    unfold slices_Clone_LapiGateapiGate
    have : ck ((0 : Int) + (List.length (L.take (p + 1)) : Int) ≤ 4294967296) = some () := ck_ok (by rw [List.length_take]; omega)
    rw [this, bind_some']; rfl
  rw [e4]
  have hL : (L.take (p + 1)).length = p + 1 := by rw [List.length_take]; omega
  refine ⟨L.take (p + 1), rfl, by omega, by omega, ok_take hmk.ok _, ?_, ?_⟩
  · intro j g hj hg2
    rw [List.getElem?_take] at hj
    split at hj
    · rename_i hjp
      obtain ⟨h, hh, hh1⟩ := hni j g hj hg2
      have := (hmk.ok j g hj).2.2.1 (by omega)
      exact ⟨h, by rw [List.getElem?_take_of_lt (by omega)]; exact hh, hh1⟩
    · cases hj
  · intro env
    rw [hL, show p + 1 - 1 = p by omega, ← gall_take, getD_take (by omega)]
    exact (hpq env).1
theorem turn_bad {a0 : Int} {a1 : List Gt} (hv : gcAll a0 a1 ≠ 0) : gate_Turn a0 a1 = some ([], gcAll a0 a1) := by
  unfold gate_Turn
  rw [gc_check, bind_some', bif_t (by simp [hv])]
theorem GateTurns_true (a0 : Int) (a1 : List (Int × (Int × Int))) (f0 : Fits (.int .i64) a0) (f1 : Fits (.slice (.pair (.int .i64) (.pair (.int .i64) (.int .i64)))) a1) : ∃ fuel, law_GateTurns fuel a0 a1 = some true := by
  by_cases hv : gcAll a0 a1 = 0
  · refine ⟨33, ?_⟩
    obtain ⟨⟨h1, h2, h3⟩, hok⟩ := gc_valid hv
    obtain ⟨r, hr, r1, r2, r3, r4, r5⟩ := turn_main hv
    unfold law_GateTurns
    rw [hr, bind_some', gc_gatecheck, bind_some', hv]
    rw [show ((0 : Int) != 0) = false from rfl, cond_false]
    have g1 : law_GateTurns_g1 a0 a1 (r, 0) = some false := by
      unfold law_GateTurns_g1
      have hw : w64 ((2 : Int) * (List.length a1 : Int)) = 2 * (a1.length : Int) := w64_id (by omega) (by omega)
      simp only [hw]
      have : ((((0 : Int) != (0 : Int)) || ((List.length r : Int) == (0 : Int))) || (decide ((List.length r : Int) > 2 * (a1.length : Int)))) = false := by
        simp only [Bool.or_eq_false_iff, decide_eq_false_iff_not, beq_eq_false_iff_ne, bne_self_eq_false, true_and]; omega
      rw [this, cond_false, gc_of r3]; rfl
    rw [g1, bind_some', cond_false]
    have g2 : forL (law_GateTurns_b5 (r, 0)) (fun x51 => (.brk ())) r 0 () = some (.brk ()) := by
      obtain ⟨y, hy, rfl⟩ := forL_inv (body := law_GateTurns_b5 (r, 0)) (fin := fun x51 => (Esc.brk () : Esc Bool Unit)) (l := r) (x := ()) (fun _ _ => True) (fun y => y = .brk ()) trivial
        (by
          intro n g x hg _
          refine ⟨.next (), ?_, trivial⟩
          unfold law_GateTurns_b5
          by_cases k : g.1 = 2
          · obtain ⟨h, hh, hh1⟩ := r4 n g hg k
            have o := (r3 n g hg).2.2.1 (by omega)
            have hn := (List.getElem?_eq_some_iff.1 hg).1
            have : idx r g.2.1 = some h := by
              obtain ⟨y, hy, hy2⟩ := idx_get (xs := r) (i := g.2.1) o.1 (by omega)
              rw [hh] at hy2; injection hy2 with e; rw [hy, e]
            simp only [k, this]
            simp [hh1]
          · have : (g.1 == (2 : Int)) = false := by simp [k]
            rw [this]; rfl)
        (by intro x _; rfl)
      exact hy
    rw [g2, bind_some']
    have hsh : bShl .i64 (1 : Int) (IntKind.wrap .u64 a0) = ((2 ^ a0.toNat : Nat) : Int) := by
      obtain ⟨k, rfl⟩ := Int.eq_ofNat_of_zero_le h1.1
      have : IntKind.wrap .u64 ((k : Nat) : Int) = (k : Int) := by
        exact (show ∀ k : Nat, k < 6 → IntKind.wrap .u64 ((k : Nat) : Int) = (k : Int) by decide) k (by omega)
      rw [this, bShl_one (by omega)]; rfl
    have hck : ck (0 ≤ IntKind.wrap .u64 a0) = some () := by
      apply ck_ok
      obtain ⟨k, rfl⟩ := Int.eq_ofNat_of_zero_le h1.1
      exact (show ∀ k : Nat, k < 6 → 0 ≤ IntKind.wrap .u64 ((k : Nat) : Int) by decide) k (by omega)
    have hpow : 2 ^ a0.toNat ≤ 32 := by
      have : a0.toNat ≤ 5 := by omega
      exact Nat.pow_le_pow_right (n := 2) (by decide) this
    have g3 : iter (law_GateTurns_b9 a0 a1 (r, 0)) 33 (0 : Int) = some (.brk ()) := by
      obtain ⟨y, hy, rfl⟩ := iter_inv (f := law_GateTurns_b9 a0 a1 (r, 0)) (fun x => 0 ≤ x ∧ x ≤ 2 ^ a0.toNat) (fun x => (2 ^ a0.toNat - x).toNat) (fun y => y = .brk ())
        (by
          rintro x ⟨hx0, hx1⟩
          obtain ⟨w, rfl⟩ := Int.eq_ofNat_of_zero_le hx0
          unfold law_GateTurns_b9
          rw [hck, bind_some', hsh]
          by_cases hlt : w < 2 ^ a0.toNat
          · rw [bif_t (by simpa using (by exact_mod_cast hlt : (w : Int) < ((2 ^ a0.toNat : Nat) : Int)))]
            have hw63 : w < 2 ^ 63 := by
              have : (32 : Nat) < 2 ^ 63 := by decide
              omega
            rw [gates_ref hok (by omega) (by omega) w hw63, bind_some']
            have hG := gall_len w.testBit a1
            have hR := gall_len w.testBit r
            have i1 : idx (gall w.testBit a1) (w64 ((List.length a1 : Int) - (1 : Int))) = some ((gall w.testBit a1).getD (a1.length - 1) false) := by
              rw [w64_id (by omega) (by omega), getD_idx (by omega) (by omega)]
              congr 2; omega
            rw [i1, bind_some', gates_ref r3 (by omega) (by omega) w hw63, bind_some']
            have i2 : idx (gall w.testBit r) (w64 ((List.length r : Int) - (1 : Int))) = some ((gall w.testBit r).getD (r.length - 1) false) := by
              rw [w64_id (by omega) (by omega), getD_idx (by omega) (by omega)]
              congr 2; omega
            simp only [i2]
            rw [bind_some', r5]
            refine ⟨.next (w64 ((w : Int) + 1)), by simp, ?_⟩
            rw [w64_id (by omega) (by omega)]
            have : (w : Int) + 1 ≤ 2 ^ a0.toNat := by exact_mod_cast hlt
            refine ⟨⟨by omega, this⟩, by omega⟩
          · rw [show decide ((w : Int) < ((2 ^ a0.toNat : Nat) : Int)) = false by simpa using (by exact_mod_cast hlt : ¬ (w : Int) < ((2 ^ a0.toNat : Nat) : Int))]
            exact ⟨_, rfl, rfl⟩) 33 0 (by
              have : (2 : Int) ^ a0.toNat ≤ 32 := by exact_mod_cast hpow
              omega) ⟨by omega, by
              have : (1 : Nat) ≤ 2 ^ a0.toNat := Nat.one_le_two_pow
              exact_mod_cast Nat.le_trans (Nat.zero_le _) this⟩
      exact hy
    rw [g3]; rfl
  · refine ⟨0, ?_⟩
    unfold law_GateTurns
    rw [turn_bad hv, bind_some', gc_gatecheck, bind_some', bif_t (by simp [hv])]
    simp

end Go.Proofs.Ythjdegeajfhakaa.gateTurns
namespace Go.Proofs.Ythjdegeajfhakaa.gateTurns
open Go.ChangeShapes Go.WideShapes Go.ChangeAt Go.RowKit
open Go.ChangeMaps (open_string shut_string)
theorem own : ownKnob Try.prog.godebug = none := by kernel_rfl
theorem laidOut : laidOutB Try.prog = true := by kernel_rfl
theorem lifted (os : Os) (started : os.Started) (H : Type) (enc : TypeId × Value → H) :
    ReturnsInHanded {} Try.checked os 4 .any (Rows.gateTurnsSpec.pre6 enc Try.prog Try.f4 Rows.gateTurnsRow.domain false) (Rows.gateTurnsSpec.post enc Try.prog Try.f4 false true false false) := by
  refine returnsInHanded_of_change (C := Try.checked) own started (by kernel_rfl) Try.func4
    (ChangeSpec.witness6 (enc := enc) (C := Try.checked) false ⟨#[], #[.int .i64 0, .slice none 0 0], []⟩ 8 (by kernel_rfl) (by kernel_rfl) (by kernel_rfl) (by kernel_rfl)) ?_
  intro W base args ds gs before hval0 hW hcnd _
  have hval : ∀ (j : Nat) t v, Try.f4.params[j]? = some t → args[j]? = some v → Value.okWide Try.prog W .any base t v := hval0
  have hW' := hW
  obtain ⟨p, q, hA0, hV, rfl, hfz, hnd⟩ := hW
  have hA : DataW.TrodAll enc Try.prog W 0 (fun _ => true) true Try.f4.params.toList args.toList ds p := hA0
  rw [Try.params4] at hA hval
  obtain ⟨v0, vs0, d0, ds0, p0, q0, hargs, rfl, rfl, h0, r0⟩ := trodAll_cons hA
  obtain ⟨v1, vs1, d1, ds1, p1, q1, rfl, rfl, rfl, h1, r1⟩ := trodAll_cons r0
  obtain ⟨rfl, rfl, rfl⟩ := trodAll_nil r1
  obtain rfl : args = #[v0, v1] := by cases args; simp_all
  obtain ⟨rfl, rfl⟩ := trodVars_none hV
  obtain ⟨x0, f0, k0⟩ := Go.Sl.read_arg (u := (.int .i64)) (by kernel_rfl) (by kernel_rfl) (hval 0 3 v0 rfl rfl) h0
  have lt0 : ∀ x ∈ p0, x.block < W.heap.size := by obtain ⟨m, hm⟩ := h0; exact DataW.trod_lt m _ _ _ hm
  obtain ⟨x1, f1, k1⟩ := Go.Sl.read_arg (u := (.slice (.pair (.int .i64) (.pair (.int .i64) (.int .i64))))) (by kernel_rfl) (by kernel_rfl) (hval 1 33 v1 rfl rfl) h1
  have lt1 : ∀ x ∈ p1, x.block < W.heap.size := by obtain ⟨m, hm⟩ := h1; exact DataW.trod_lt m _ _ _ hm
  clear hA0 hval0
  obtain ⟨fuel, hm⟩ := GateTurns_true x0 x1 f0 f1
  refine (Go.Sl.law_of (vs := [v0, v1]) (law_GateTurns_ok hm) rfl (.cons (k0 _ _) (.cons (k1 _ _) .nil))).mono fun e W' ⟨he, bel⟩ => ?_
  subst he
  exact ⟨_, rfl, _, _, _, [], _, [], hW', trodAll_mk1 (shut_bool Try.underlying4 _), (trodAll_cons_mk (Below.trod laidOut (by kernel_rfl) (of_decide_eq_true (by kernel_rfl)) h0 bel lt0) (trodAll_cons_mk (Below.trod laidOut (by kernel_rfl) (of_decide_eq_true (by kernel_rfl)) h1 bel lt1) trodAll_mk0)), rfl, bel.frame _, fun h => by cases h⟩
theorem proved : Rows.GateTurnsSaid :=
  OpenClaim.holds_of_wide 4 Try.f4 rfl rfl rfl rfl rfl rfl rfl ⟨rfl, rfl, rfl, rfl, rfl⟩ rfl rfl rfl rfl rfl (by kernel_rfl) Try.func4 (by kernel_rfl)
    (of_decide_eq_true (by kernel_rfl)) (by unfold Func.isWrapper; first | (rw [if_pos (by decide +kernel)]; kernel_rfl) | (rw [if_neg (by decide +kernel)]; exact ⟨rfl, rfl⟩))
    (fun os started H enc _ => lifted os started H enc)
#print axioms proved
end Go.Proofs.Ythjdegeajfhakaa.gateTurns
