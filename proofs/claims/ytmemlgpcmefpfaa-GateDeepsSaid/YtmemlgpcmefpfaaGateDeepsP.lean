/- For any circuit gate.Deep returns the specified results: GateDeeps returns true and changes nothing; no conditions. -/
import Derived.Test.YtmemlgpcmefpfaaRows
import Derived.WalkKit
import Derived.ProofKit
import Derived.OpenShut
import Derived.ShutString
import Derived.ChangeOld
import Derived.Below
import Derived.Test.YtmemlgpcmefpfaaGateDeepsM
set_option linter.all false
set_option maxRecDepth 100000
namespace Go.Proofs.Ytmemlgpcmefpfaa.gateDeeps
open Go Go.Sl

theorem within_eq (a b c : Int) : ref_Within a b c = some (decide (a ≤ b ∧ b ≤ c)) := by
  unfold ref_Within
  rw [Bool.decide_and]

theorem inside1 (n v : Int) : ref_Inside n [v] = some (decide (0 ≤ v ∧ v < n)) := by
  unfold ref_Inside
  rw [forL_ex (p := fun v => decide (v < 0) || decide (v ≥ n)) (y := Esc.ret false) (fun i a _ => by unfold ref_Inside_b1; cases (decide (a < 0) || decide (a ≥ n)) <;> rfl)]
  by_cases h : 0 ≤ v ∧ v < n
  · have : (decide (v < 0) || decide (v ≥ n)) = false := by simp only [Bool.or_eq_false_iff, decide_eq_false_iff_not]; omega
    simp [this, h]
  · have : (decide (v < 0) || decide (v ≥ n)) = true := by simp only [Bool.or_eq_true, decide_eq_true_eq]; omega
    simp [this, h]

def gc (a0 : Int) (n : Nat) (v : Int × Int × Int) : Option Int :=
  bif !decide (1 ≤ v.1 ∧ v.1 ≤ 4) then some 6 else bif (v.1 == 1) && !decide (0 ≤ v.2.1 ∧ v.2.1 < a0) then some 4
  else bif (!(v.1 == 1) && !decide (0 ≤ v.2.1 ∧ v.2.1 < n)) || (decide (v.1 ≥ 3) && !decide (0 ≤ v.2.2 ∧ v.2.2 < n)) then some 2 else none
theorem gc_body (a0 : Int) (n : Nat) (v : Int × Int × Int) : ref_GatesCheck_b10 a0 n v () = some (said Esc.ret (gc a0 n v)) := by
  unfold ref_GatesCheck_b10 ref_GatesCheck_g7 gc
  rw [within_eq, inside1, inside1, inside1]
  simp only [bne]
  generalize decide (1 ≤ v.1 ∧ v.1 ≤ 4) = c1
  generalize decide (0 ≤ v.2.1 ∧ v.2.1 < a0) = c2
  generalize decide (0 ≤ v.2.1 ∧ v.2.1 < (n : Int)) = c3
  generalize decide (0 ≤ v.2.2 ∧ v.2.2 < (n : Int)) = c4
  generalize (v.1 == 1) = c5
  generalize decide (v.1 ≥ 3) = c6
  cases c1 <;> cases c2 <;> cases c3 <;> cases c4 <;> cases c5 <;> cases c6 <;> rfl
theorem gc_pos {a0 : Int} {n : Nat} {v : Int × Int × Int} {e : Int} (h : gc a0 n v = some e) : e ≠ 0 := by
  unfold gc at h
  revert h
  generalize (!decide (1 ≤ v.1 ∧ v.1 ≤ 4)) = c1
  generalize ((v.1 == 1) && !decide (0 ≤ v.2.1 ∧ v.2.1 < a0)) = c2
  generalize ((!(v.1 == 1) && !decide (0 ≤ v.2.1 ∧ v.2.1 < (n : Int))) || (decide (v.1 ≥ 3) && !decide (0 ≤ v.2.2 ∧ v.2.2 < (n : Int)))) = c3
  cases c1 <;> cases c2 <;> cases c3 <;> simp <;> rintro rfl <;> decide
theorem gc_ref (a0 : Int) (l : List (Int × Int × Int)) : ref_GatesCheck a0 l = some ((firstOf (gc a0) 0 l).getD 0) := by
  unfold ref_GatesCheck
  rw [forL_findI (f := gc a0) (g := Esc.ret) (fun n a _ => gc_body a0 n a)]
  cases firstOf (gc a0) 0 l <;> rfl
def GatesOk (a0 : Int) (l : List (Int × Int × Int)) : Prop :=
  ∀ (j : Nat) (g : Int × Int × Int), l[j]? = some g → (1 ≤ g.1 ∧ g.1 ≤ 4) ∧ (g.1 = 1 → 0 ≤ g.2.1 ∧ g.2.1 < a0) ∧ (g.1 ≠ 1 → 0 ≤ g.2.1 ∧ g.2.1 < j) ∧ (3 ≤ g.1 → 0 ≤ g.2.2 ∧ g.2.2 < j)
theorem gc_ok {a0 : Int} {l : List (Int × Int × Int)} (h : (firstOf (gc a0) 0 l).getD 0 = 0) : GatesOk a0 l := by
  intro j g hg
  cases hf : firstOf (gc a0) 0 l with
  | some e =>
    rw [hf] at h
    obtain ⟨k, v, _, hv⟩ := firstOf_some hf
    exact (gc_pos hv h).elim
  | none =>
    obtain ⟨h1, h2⟩ := bif_none (firstOf_none hf hg)
    obtain ⟨h2, h3⟩ := bif_none h2
    obtain ⟨h3, _⟩ := bif_none h3
    simp only [Bool.not_eq_false', Bool.and_eq_false_iff, Bool.or_eq_false_iff, decide_eq_true_eq, decide_eq_false_iff_not, beq_eq_false_iff_ne, beq_iff_eq, ne_eq] at h1 h2 h3
    refine ⟨by omega, by omega, by omega, by omega⟩
theorem gc_of {a0 : Int} {l : List (Int × Int × Int)} (h : GatesOk a0 l) : ref_GatesCheck a0 l = some 0 := by
  rw [gc_ref]
  cases hf : firstOf (gc a0) 0 l with
  | none => rfl
  | some e =>
    obtain ⟨k, v, hk, hv⟩ := firstOf_some hf
    obtain ⟨h1, h2, h3, h4⟩ := h k v hk
    have c1 : (!decide (1 ≤ v.1 ∧ v.1 ≤ 4)) = false := by rw [decide_eq_true h1]; rfl
    have c2 : ((v.1 == 1) && !decide (0 ≤ v.2.1 ∧ v.2.1 < a0)) = false := by
      simp only [Bool.not_eq_false', Bool.and_eq_false_iff, decide_eq_true_eq, beq_eq_false_iff_ne, ne_eq]; omega
    have c3 : ((!(v.1 == 1) && !decide (0 ≤ v.2.1 ∧ v.2.1 < (k : Int))) || (decide (v.1 ≥ 3) && !decide (0 ≤ v.2.2 ∧ v.2.2 < (k : Int)))) = false := by
      simp only [Bool.not_eq_false', Bool.and_eq_false_iff, Bool.or_eq_false_iff, decide_eq_true_eq, decide_eq_false_iff_not, beq_iff_eq]; omega
    unfold gc at hv
    rw [c1, c2, c3] at hv
    cases hv
def gcAll (a0 : Int) (l : List (Int × Int × Int)) : Int :=
  if (0 ≤ a0 ∧ a0 ≤ 5) ∧ 1 ≤ (l.length : Int) ∧ (l.length : Int) ≤ 40 then (firstOf (gc a0) 0 l).getD 0 else 1
theorem gc_gatecheck (a0 : Int) (l : List (Int × Int × Int)) : ref_GateCheck a0 l = some (gcAll a0 l) := by
  unfold ref_GateCheck ref_GateCheck_g1 gcAll
  rw [within_eq, within_eq, gc_ref]
  by_cases h1 : 0 ≤ a0 ∧ a0 ≤ 5
  · by_cases h2 : 1 ≤ (l.length : Int) ∧ (l.length : Int) ≤ 40
    · rw [if_pos ⟨h1, h2⟩, decide_eq_true h1, decide_eq_true h2]; rfl
    · rw [if_neg (fun h => h2 h.2), decide_eq_true h1, decide_eq_false h2]; rfl
  · rw [if_neg (fun h => h1 h.1), decide_eq_false h1]; rfl
theorem gc_valid {a0 : Int} {l : List (Int × Int × Int)} (h : gcAll a0 l = 0) : ((0 ≤ a0 ∧ a0 ≤ 5) ∧ 1 ≤ (l.length : Int) ∧ (l.length : Int) ≤ 40) ∧ GatesOk a0 l := by
  unfold gcAll at h
  split at h
  · rename_i hc
    exact ⟨hc, gc_ok h⟩
  · omega
theorem gc_wrong_body (a0 : Int) (n : Nat) (v : Int × Int × Int) : gate_Wrong_b43 a0 n v () = some (said Esc.ret (gc a0 n v)) := by
  have ht : ∀ u : Int, gate_Wrong_1 u (n : Int) = some (decide (0 ≤ u ∧ u < (n : Int))) := by
    intro u
    unfold gate_Wrong_1
    rw [Bool.decide_and]
  unfold gate_Wrong_b43 gate_Wrong_g39 gc
  rw [ht, ht]
  have e : (bif decide (v.2.1 < (0 : Int)) then (some true) else (some (decide (v.2.1 ≥ a0)))) = some (!decide (0 ≤ v.2.1 ∧ v.2.1 < a0)) := by
    by_cases h1 : v.2.1 < 0
    · simp [h1]
    · by_cases h2 : v.2.1 < a0
      · simp [h1, h2, Int.not_lt.1 h1]
      · simp [h1, h2]; omega
  have e1 : (bif decide (v.1 < (1 : Int)) then (some true) else (some (decide (v.1 > (4 : Int))))) = some (!decide (1 ≤ v.1 ∧ v.1 ≤ 4)) := by
    by_cases h1 : 1 ≤ v.1 ∧ v.1 ≤ 4
    · rw [decide_eq_true h1, decide_eq_false (by omega), decide_eq_false (by omega)]; rfl
    · rw [decide_eq_false h1]
      by_cases h2 : v.1 < 1
      · rw [decide_eq_true h2]; rfl
      · rw [decide_eq_false h2, decide_eq_true (by omega)]; rfl
  rw [e, e1]
  by_cases h1 : 1 ≤ v.1 ∧ v.1 ≤ 4
  · rw [decide_eq_true h1]
    have k2 : decide (v.1 > 1) = !(v.1 == 1) := by
      rw [beq_dec, not_dec]; exact decide_eq_decide.2 (by omega)
    have k3 : decide (v.1 > 2) = decide (v.1 ≥ 3) := decide_eq_decide.2 (by omega)
    rw [k2, k3]
    generalize decide (0 ≤ v.2.1 ∧ v.2.1 < a0) = c2
    generalize decide (0 ≤ v.2.1 ∧ v.2.1 < (n : Int)) = c3
    generalize decide (0 ≤ v.2.2 ∧ v.2.2 < (n : Int)) = c4
    generalize (v.1 == 1) = c5
    generalize decide (v.1 ≥ 3) = c6
    cases c2 <;> cases c3 <;> cases c4 <;> cases c5 <;> cases c6 <;> rfl
  · rw [decide_eq_false h1]; rfl
theorem gc_wrong (a0 : Int) (l : List (Int × Int × Int)) : gate_Wrong a0 l = some ((firstOf (gc a0) 0 l).getD 0) := by
  unfold gate_Wrong
  rw [forL_findI (f := gc a0) (g := Esc.ret) (fun n a _ => gc_wrong_body a0 n a)]
  cases firstOf (gc a0) 0 l <;> rfl
theorem gc_check (a0 : Int) (l : List (Int × Int × Int)) : gate_Check a0 l = some (gcAll a0 l) := by
  unfold gate_Check gcAll
  rw [gc_wrong]
  by_cases h : (0 ≤ a0 ∧ a0 ≤ 5) ∧ 1 ≤ (l.length : Int) ∧ (l.length : Int) ≤ 40
  · have hb : ((((decide (a0 < (0 : Int))) || (decide (a0 > (5 : Int)))) || (decide ((List.length l : Int) < (1 : Int)))) || (decide ((List.length l : Int) > (40 : Int)))) = false := by
      simp only [Bool.or_eq_false_iff, decide_eq_false_iff_not]; omega
    rw [bif_f hb, if_pos h]; rfl
  · have hb : ((((decide (a0 < (0 : Int))) || (decide (a0 > (5 : Int)))) || (decide ((List.length l : Int) < (1 : Int)))) || (decide ((List.length l : Int) > (40 : Int)))) = true := by
      simp only [Bool.or_eq_true, decide_eq_true_eq]; omega
    rw [bif_t hb, if_neg h]

/-- how deep a gate is, by those ahead of it -/
def dval (v : List Int) (g : Int × Int × Int) : Int :=
  if g.1 = 1 then 0 else if g.1 = 2 then v.getD g.2.1.toNat 0 + 1 else imax (v.getD g.2.1.toNat 0 + 1) (v.getD g.2.2.toNat 0 + 1)
theorem getI_idx {x : List Int} {i : Int} (h0 : 0 ≤ i) (h : i < (x.length : Int)) : idx x i = some (x.getD i.toNat 0) := by
  obtain ⟨b, hb, hb2⟩ := idx_get h0 h
  rw [hb, List.getD_eq_getElem?_getD, hb2]; rfl
theorem deep_both {a0 : Int} {l : List (Int × Int × Int)} (hok : GatesOk a0 l) (hl : l.length ≤ 1000000) :
    ∃ D : List Int, D.length = l.length ∧ forL gate_Deep_b9 (fun x71 => x71) l 0 [] = some D ∧ ref_Deep l = some D ∧ (∀ (j : Nat) v, D[j]? = some v → 0 ≤ v ∧ v ≤ j) ∧ (∀ (j : Nat) g, l[j]? = some g → D[j]? = some (dval D g)) := by
  have hck : ck (0 ≤ (List.length l : Int) ∧ (List.length l : Int) = (List.length l : Int) ∧ (List.length l : Int) ≤ 4294967296) = some () := ck_ok (by omega)
  obtain ⟨y, y', h1, h2, rfl, h3, h4, h5⟩ := forL_rel (body := gate_Deep_b9) (body' := ref_Deep_b25) (fin := fun x => x) (fin' := fun x => x) (l := l) (l' := l) (x := []) (x' := List.replicate (Int.toNat (List.length l : Int)) 0)
    (fun n x y => x.length = n ∧ y.length = l.length ∧ (∀ j, j < n → x[j]? = y[j]?) ∧ (∀ j, n ≤ j → j < l.length → y[j]? = some 0) ∧ (∀ (j : Nat) v, x[j]? = some v → 0 ≤ v ∧ v ≤ j) ∧ (∀ (j : Nat) g, j < n → l[j]? = some g → x[j]? = some (dval (x.take j) g)))
    (fun x y => x = y ∧ x.length = l.length ∧ (∀ (j : Nat) v, x[j]? = some v → 0 ≤ v ∧ v ≤ j) ∧ (∀ (j : Nat) g, l[j]? = some g → x[j]? = some (dval (x.take j) g))) rfl
    ⟨rfl, by simp, fun j hj => by omega, fun j _ hj => by simp [hj], fun j v hv => by simp at hv, fun j g hj => by omega⟩
    (by
      rintro n g g' x y hg hg' ⟨hx, hy, hxy, hy0, hb, hd⟩
      obtain rfl := Option.some.inj (hg.symm.trans hg')
      have hn := (List.getElem?_eq_some_iff.1 hg).1
      obtain ⟨h1, h2, h3, h4⟩ := hok n g hg
      have y0 := hy0 n (Nat.le_refl _) hn
      have iy0 : idx y (n : Int) = some 0 := by rw [idx_nat, y0]
      have get : ∀ k : Int, 0 ≤ k → k < n → idx x k = some (x.getD k.toNat 0) ∧ idx y k = some (x.getD k.toNat 0) ∧ 0 ≤ x.getD k.toNat 0 ∧ x.getD k.toNat 0 ≤ k.toNat := by
        intro k hk0 hk
        have e1 := getI_idx (x := x) hk0 (by omega)
        have e2 := getI_idx (x := y) hk0 (by omega)
        have e3 : y.getD k.toNat 0 = x.getD k.toNat 0 := by rw [List.getD_eq_getElem?_getD, List.getD_eq_getElem?_getD, hxy _ (by omega)]
        have e4 := hb k.toNat _ (idx_some e1).2.2
        exact ⟨e1, by rw [e2, e3], e4⟩
      have key : ∃ v, gate_Deep_b9 (n : Int) g x = some (.next (x ++ [v])) ∧ ref_Deep_b25 (n : Int) g y = some (.next (y.set n v)) ∧ 0 ≤ v ∧ v ≤ n ∧ v = dval x g := by
        have c1 : ck ((x.length : Int) + 1 ≤ 4294967296) = some () := ck_ok (by omega)
        unfold gate_Deep_b9 ref_Deep_b25 ref_Deep_g23 ref_Deep_g21 dval
        by_cases k1 : g.1 = 1
        · refine ⟨0, by simp [k1, c1], ?_, by omega, by omega, by simp [k1]⟩
          have : y.set n 0 = y := by
            obtain ⟨hlt, he⟩ := List.getElem?_eq_some_iff.1 y0
            rw [← he, List.set_getElem_self]
          simp [k1, this]
        · obtain ⟨p1, p2, p3, p4⟩ := get g.2.1 (h3 k1).1 (h3 k1).2
          have q1 := h3 k1
          have b1 : (g.1 == 1) = false := by simp [k1]
          have b2 : decide (g.1 > 1) = true := by simp; omega
          have ew : w64 (x.getD g.2.1.toNat 0 + 1) = x.getD g.2.1.toNat 0 + 1 := w64_id (by omega) (by omega)
          simp only [b1, b2, p1, p2, iy0, Option.bind_some, cond_true, cond_false, ew, if_neg k1, c1]
          by_cases k2 : g.1 = 2
          · have b3 : decide (g.1 > 2) = false := by simp; omega
            have b4 : decide (g.1 ≥ 3) = false := by simp; omega
            simp only [b3, b4, cond_false, Option.bind_some, if_pos k2]
            exact ⟨_, rfl, by simp, by omega, by omega, rfl⟩
          · have q2 := h4 (by omega)
            obtain ⟨r1, r2, r3, r4⟩ := get g.2.2 q2.1 q2.2
            have b3 : decide (g.1 > 2) = true := by simp; omega
            have b4 : decide (g.1 ≥ 3) = true := by simp; omega
            have ew2 : w64 (x.getD g.2.2.toNat 0 + 1) = x.getD g.2.2.toNat 0 + 1 := w64_id (by omega) (by omega)
            have s1 : idx (y.set (Int.toNat (n : Int)) (x.getD g.2.1.toNat 0 + 1)) g.2.2 = some (x.getD g.2.2.toNat 0) := by
              refine idx_of q2.1 ?_
              rw [List.getElem?_set_ne (by omega)]
              exact (idx_some r2).2.2
            have s2 : idx (y.set (Int.toNat (n : Int)) (x.getD g.2.1.toNat 0 + 1)) (n : Int) = some (x.getD g.2.1.toNat 0 + 1) := by
              rw [idx_nat, Int.toNat_natCast, List.getElem?_set_self (by omega)]
            simp only [b3, b4, cond_true, cond_false, Option.bind_some, if_neg k2, r1, s1, s2, ew2]
            refine ⟨_, rfl, ?_, by unfold imax; split <;> omega, by unfold imax; split <;> omega, rfl⟩
            unfold imax
            by_cases hc : x.getD g.2.2.toNat 0 ≥ x.getD g.2.1.toNat 0 + 1
            · rw [decide_eq_true hc, if_pos (by omega)]; simp
            · rw [decide_eq_false hc, if_neg (by omega)]; simp
      obtain ⟨v, k1, k2, k3, k4, k5⟩ := key
      refine ⟨_, _, k1, k2, by simp [hx], by simpa using hy, ?_, ?_, ?_, ?_⟩
      · intro j hj
        rcases Nat.lt_or_ge j n with h | h
        · rw [List.getElem?_append_left (by omega), List.getElem?_set_ne (by omega)]; exact hxy j h
        · have : j = n := by omega
          subst this
          rw [List.getElem?_append_right (by omega), List.getElem?_set_self (by omega)]; simp [hx]
      · intro j hj hj2
        rw [List.getElem?_set_ne (by omega)]; exact hy0 j (by omega) hj2
      · intro j w hw
        rcases Nat.lt_or_ge j n with h | h
        · rw [List.getElem?_append_left (by omega)] at hw; exact hb j w hw
        · have hlt := (List.getElem?_eq_some_iff.1 hw).1
          simp only [List.length_append, List.length_singleton] at hlt
          have : j = n := by omega
          subst this
          rw [List.getElem?_append_right (by omega)] at hw
          simp [hx] at hw
          subst hw; exact ⟨k3, k4⟩
      · intro j g' hj hg2
        rcases Nat.lt_or_ge j n with h | h
        · rw [List.getElem?_append_left (by omega), hd j g' h hg2, List.take_append_of_le_length (by omega)]
        · have : j = n := by omega
          subst this
          obtain rfl := Option.some.inj (hg.symm.trans hg2)
          rw [List.getElem?_append_right (by omega), List.take_append_of_le_length (by omega), List.take_of_length_le (by omega), ← k5]; simp [hx])
    (by
      rintro x y ⟨hx, hy, hxy, hy0, hb, hd⟩
      refine ⟨?_, hx, hb, fun j g hg => hd j g (List.getElem?_eq_some_iff.1 hg).1 hg⟩
      apply List.ext_getElem?
      intro j
      rcases Nat.lt_or_ge j l.length with h | h
      · exact hxy j h
      · rw [List.getElem?_eq_none (by omega), List.getElem?_eq_none (by omega)])
  refine ⟨y, h3, h1, ?_, h4, ?_⟩
  · unfold ref_Deep
    rw [hck, Option.bind_some, h2]; rfl
  · intro j g hg
    rw [h5 j g hg]
    obtain ⟨g1, g2, g3, g4⟩ := hok j g hg
    congr 1
    unfold dval
    split
    · rfl
    · rename_i k1
      have e1 : (y.take j).getD g.2.1.toNat 0 = y.getD g.2.1.toNat 0 := by
        rw [List.getD_eq_getElem?_getD, List.getD_eq_getElem?_getD, List.getElem?_take_of_lt (by have := g3 k1; omega)]
      split
      · rw [e1]
      · have e2 : (y.take j).getD g.2.2.toNat 0 = y.getD g.2.2.toNat 0 := by
          rw [List.getD_eq_getElem?_getD, List.getD_eq_getElem?_getD, List.getElem?_take_of_lt (by have := g4 (by omega); omega)]
        rw [e1, e2]

theorem GateDeeps_true (a0 : Int) (a1 : List (Int × (Int × Int))) (f0 : Fits (.int .i64) a0) (f1 : Fits (.slice (.pair (.int .i64) (.pair (.int .i64) (.int .i64)))) a1) : law_GateDeeps a0 a1 = some true := by
  unfold law_GateDeeps gate_Deep
  rw [gc_check, gc_gatecheck]
  simp only [Option.bind_some]
  by_cases hz : gcAll a0 a1 = 0
  · obtain ⟨⟨hA, hB⟩, hok⟩ := gc_valid hz
    obtain ⟨D, d1, d2, d3, d4, _⟩ := deep_both hok (by omega)
    rw [hz]
    obtain ⟨n, hn⟩ : ∃ n, a1.length = n + 1 := ⟨a1.length - 1, by omega⟩
    have e3 : w64 ((a1.length : Int) - 1) = (n : Int) := by rw [hn, w64_id (by omega) (by omega)]; omega
    obtain ⟨b, hb, _⟩ := idx_get (xs := D) (i := (n : Int)) (by omega) (by omega)
    unfold law_GateDeeps_g1
    simp [d2, d3, e3, hb]
  · have e0 : (gcAll a0 a1 != 0) = true := by simp [hz]
    simp [e0]

end Go.Proofs.Ytmemlgpcmefpfaa.gateDeeps
namespace Go.Proofs.Ytmemlgpcmefpfaa.gateDeeps
open Go.ChangeShapes Go.WideShapes Go.ChangeAt Go.RowKit
open Go.ChangeMaps (open_string shut_string)
theorem own : ownKnob Try.prog.godebug = none := by kernel_rfl
theorem laidOut : laidOutB Try.prog = true := by kernel_rfl
theorem lifted (os : Os) (started : os.Started) (H : Type) (enc : TypeId × Value → H) :
    ReturnsInHanded {} Try.checked os 4 .any (Rows.gateDeepsSpec.pre6 enc Try.prog Try.f4 Rows.gateDeepsRow.domain false) (Rows.gateDeepsSpec.post enc Try.prog Try.f4 false true false false) := by
  refine returnsInHanded_of_change (C := Try.checked) own started (by kernel_rfl) Try.func4
    (ChangeSpec.witness6 (enc := enc) (C := Try.checked) false ⟨#[], #[.int .i64 0, .slice none 0 0], []⟩ 8 (by kernel_rfl) (by kernel_rfl) (by kernel_rfl) (by kernel_rfl)) ?_
  intro W base args ds gs before hval0 hW hcnd _
  have hval : ∀ (j : Nat) t v, Try.f4.params[j]? = some t → args[j]? = some v → Value.okWide Try.prog W .any base t v := hval0
  have hW' := hW
  obtain ⟨p, q, hA0, hV, rfl, hfz, hnd⟩ := hW
  have hA : DataW.TrodAll enc Try.prog W 0 (fun _ => true) true Try.f4.params.toList args.toList ds p := hA0
  rw [Try.params4] at hA hval
  obtain ⟨v0, vs0, d0, ds0, p0, q0, hargs, rfl, rfl, h0, r0⟩ := trodAll_cons hA
  obtain ⟨v1, vs1, d1, ds1, p1, q1, rfl, rfl, rfl, h1, r1⟩ := trodAll_cons r0
  obtain ⟨rfl, rfl, rfl⟩ := trodAll_nil r1
  obtain rfl : args = #[v0, v1] := by cases args; simp_all
  obtain ⟨rfl, rfl⟩ := trodVars_none hV
  obtain ⟨x0, f0, k0⟩ := Go.Sl.read_arg (u := (.int .i64)) (by kernel_rfl) (by kernel_rfl) (hval 0 3 v0 rfl rfl) h0
  have lt0 : ∀ x ∈ p0, x.block < W.heap.size := by obtain ⟨m, hm⟩ := h0; exact DataW.trod_lt m _ _ _ hm
  obtain ⟨x1, f1, k1⟩ := Go.Sl.read_arg (u := (.slice (.pair (.int .i64) (.pair (.int .i64) (.int .i64))))) (by kernel_rfl) (by kernel_rfl) (hval 1 22 v1 rfl rfl) h1
  have lt1 : ∀ x ∈ p1, x.block < W.heap.size := by obtain ⟨m, hm⟩ := h1; exact DataW.trod_lt m _ _ _ hm
  clear hA0 hval0
  have hm := GateDeeps_true x0 x1 f0 f1
  refine (Go.Sl.law_of (vs := [v0, v1]) (law_GateDeeps_ok hm) rfl (.cons (k0 _ _) (.cons (k1 _ _) .nil))).mono fun e W' ⟨he, bel⟩ => ?_
  subst he
  exact ⟨_, rfl, _, _, _, [], _, [], hW', trodAll_mk1 (shut_bool Try.underlying4 _), (trodAll_cons_mk (Below.trod laidOut (by kernel_rfl) (of_decide_eq_true (by kernel_rfl)) h0 bel lt0) (trodAll_cons_mk (Below.trod laidOut (by kernel_rfl) (of_decide_eq_true (by kernel_rfl)) h1 bel lt1) trodAll_mk0)), rfl, bel.frame _, fun h => by cases h⟩
theorem proved : Rows.GateDeepsSaid :=
  OpenClaim.holds_of_wide 4 Try.f4 rfl rfl rfl rfl rfl rfl rfl ⟨rfl, rfl, rfl, rfl, rfl⟩ rfl rfl rfl rfl rfl (by kernel_rfl) Try.func4 (by kernel_rfl)
    (of_decide_eq_true (by kernel_rfl)) (by unfold Func.isWrapper; first | (rw [if_pos (by decide +kernel)]; kernel_rfl) | (rw [if_neg (by decide +kernel)]; exact ⟨rfl, rfl⟩))
    (fun os started H enc _ => lifted os started H enc)
#print axioms proved
end Go.Proofs.Ytmemlgpcmefpfaa.gateDeeps
