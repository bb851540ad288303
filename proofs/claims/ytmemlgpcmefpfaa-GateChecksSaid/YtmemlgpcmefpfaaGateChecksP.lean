/- For any circuit gate.Check returns the specified error code: GateChecks returns true and changes nothing; no conditions. -/
import Derived.Test.YtmemlgpcmefpfaaRows
import Derived.WalkKit
import Derived.ProofKit
import Derived.OpenShut
import Derived.ShutString
import Derived.ChangeOld
import Derived.Below
import Derived.Test.YtmemlgpcmefpfaaGateChecksM
set_option linter.all false
set_option maxRecDepth 100000
namespace Go.Proofs.Ytmemlgpcmefpfaa.gateChecks
open Go Go.Sl

theorem within_eq (a b c : Int) : ref_Within a b c = some (decide (a ≤ b ∧ b ≤ c)) := by
  unfold ref_Within
  rw [Bool.decide_and]

theorem inside1 (n v : Int) : ref_Inside n [v] = some (decide (0 ≤ v ∧ v < n)) := by
  unfold ref_Inside
  rw [forL_ex (p := fun v => decide (v < 0) || decide (v ≥ n)) (y := Esc.ret false) (fun i a _ => by unfold ref_Inside_b1; cases (decide (a < 0) || decide (a ≥ n)) <;> rfl)]
  by_cases h : 0 ≤ v ∧ v < n
  · have : (decide (v < 0) || decide (v ≥ n)) = false := by simp only [Bool.or_eq_false_iff, decide_eq_false_iff_not]; omega
    simp [this, h]
  · have : (decide (v < 0) || decide (v ≥ n)) = true := by simp only [Bool.or_eq_true, decide_eq_true_eq]; omega
    simp [this, h]

def gc (a0 : Int) (n : Nat) (v : Int × Int × Int) : Option Int :=
  bif !decide (1 ≤ v.1 ∧ v.1 ≤ 4) then some 6 else bif (v.1 == 1) && !decide (0 ≤ v.2.1 ∧ v.2.1 < a0) then some 4
  else bif (!(v.1 == 1) && !decide (0 ≤ v.2.1 ∧ v.2.1 < n)) || (decide (v.1 ≥ 3) && !decide (0 ≤ v.2.2 ∧ v.2.2 < n)) then some 2 else none
theorem gc_body (a0 : Int) (n : Nat) (v : Int × Int × Int) : ref_GatesCheck_b10 a0 n v () = some (said Esc.ret (gc a0 n v)) := by
  unfold ref_GatesCheck_b10 ref_GatesCheck_g7 gc
  rw [within_eq, inside1, inside1, inside1]
  simp only [bne]
  generalize decide (1 ≤ v.1 ∧ v.1 ≤ 4) = c1
  generalize decide (0 ≤ v.2.1 ∧ v.2.1 < a0) = c2
  generalize decide (0 ≤ v.2.1 ∧ v.2.1 < (n : Int)) = c3
  generalize decide (0 ≤ v.2.2 ∧ v.2.2 < (n : Int)) = c4
  generalize (v.1 == 1) = c5
  generalize decide (v.1 ≥ 3) = c6
  cases c1 <;> cases c2 <;> cases c3 <;> cases c4 <;> cases c5 <;> cases c6 <;> rfl
theorem gc_pos {a0 : Int} {n : Nat} {v : Int × Int × Int} {e : Int} (h : gc a0 n v = some e) : e ≠ 0 := by
  unfold gc at h
  revert h
  generalize (!decide (1 ≤ v.1 ∧ v.1 ≤ 4)) = c1
  generalize ((v.1 == 1) && !decide (0 ≤ v.2.1 ∧ v.2.1 < a0)) = c2
  generalize ((!(v.1 == 1) && !decide (0 ≤ v.2.1 ∧ v.2.1 < (n : Int))) || (decide (v.1 ≥ 3) && !decide (0 ≤ v.2.2 ∧ v.2.2 < (n : Int)))) = c3
  cases c1 <;> cases c2 <;> cases c3 <;> simp <;> rintro rfl <;> decide
theorem gc_ref (a0 : Int) (l : List (Int × Int × Int)) : ref_GatesCheck a0 l = some ((firstOf (gc a0) 0 l).getD 0) := by
  unfold ref_GatesCheck
  rw [forL_findI (f := gc a0) (g := Esc.ret) (fun n a _ => gc_body a0 n a)]
  cases firstOf (gc a0) 0 l <;> rfl
def GatesOk (a0 : Int) (l : List (Int × Int × Int)) : Prop :=
  ∀ (j : Nat) (g : Int × Int × Int), l[j]? = some g → (1 ≤ g.1 ∧ g.1 ≤ 4) ∧ (g.1 = 1 → 0 ≤ g.2.1 ∧ g.2.1 < a0) ∧ (g.1 ≠ 1 → 0 ≤ g.2.1 ∧ g.2.1 < j) ∧ (3 ≤ g.1 → 0 ≤ g.2.2 ∧ g.2.2 < j)
theorem gc_ok {a0 : Int} {l : List (Int × Int × Int)} (h : (firstOf (gc a0) 0 l).getD 0 = 0) : GatesOk a0 l := by
  intro j g hg
  cases hf : firstOf (gc a0) 0 l with
  | some e =>
    rw [hf] at h
    obtain ⟨k, v, _, hv⟩ := firstOf_some hf
    exact (gc_pos hv h).elim
  | none =>
    obtain ⟨h1, h2⟩ := bif_none (firstOf_none hf hg)
    obtain ⟨h2, h3⟩ := bif_none h2
    obtain ⟨h3, _⟩ := bif_none h3
    simp only [Bool.not_eq_false', Bool.and_eq_false_iff, Bool.or_eq_false_iff, decide_eq_true_eq, decide_eq_false_iff_not, beq_eq_false_iff_ne, beq_iff_eq, ne_eq] at h1 h2 h3
    refine ⟨by omega, by omega, by omega, by omega⟩
theorem gc_of {a0 : Int} {l : List (Int × Int × Int)} (h : GatesOk a0 l) : ref_GatesCheck a0 l = some 0 := by
  rw [gc_ref]
  cases hf : firstOf (gc a0) 0 l with
  | none => rfl
  | some e =>
    obtain ⟨k, v, hk, hv⟩ := firstOf_some hf
    obtain ⟨h1, h2, h3, h4⟩ := h k v hk
    have c1 : (!decide (1 ≤ v.1 ∧ v.1 ≤ 4)) = false := by rw [decide_eq_true h1]; rfl
    have c2 : ((v.1 == 1) && !decide (0 ≤ v.2.1 ∧ v.2.1 < a0)) = false := by
      simp only [Bool.not_eq_false', Bool.and_eq_false_iff, decide_eq_true_eq, beq_eq_false_iff_ne, ne_eq]; omega
    have c3 : ((!(v.1 == 1) && !decide (0 ≤ v.2.1 ∧ v.2.1 < (k : Int))) || (decide (v.1 ≥ 3) && !decide (0 ≤ v.2.2 ∧ v.2.2 < (k : Int)))) = false := by
      simp only [Bool.not_eq_false', Bool.and_eq_false_iff, Bool.or_eq_false_iff, decide_eq_true_eq, decide_eq_false_iff_not, beq_iff_eq]; omega
    unfold gc at hv
    rw [c1, c2, c3] at hv
    cases hv
def gcAll (a0 : Int) (l : List (Int × Int × Int)) : Int :=
  if (0 ≤ a0 ∧ a0 ≤ 5) ∧ 1 ≤ (l.length : Int) ∧ (l.length : Int) ≤ 40 then (firstOf (gc a0) 0 l).getD 0 else 1
theorem gc_gatecheck (a0 : Int) (l : List (Int × Int × Int)) : ref_GateCheck a0 l = some (gcAll a0 l) := by
  unfold ref_GateCheck ref_GateCheck_g1 gcAll
  rw [within_eq, within_eq, gc_ref]
  by_cases h1 : 0 ≤ a0 ∧ a0 ≤ 5
  · by_cases h2 : 1 ≤ (l.length : Int) ∧ (l.length : Int) ≤ 40
    · rw [if_pos ⟨h1, h2⟩, decide_eq_true h1, decide_eq_true h2]; rfl
    · rw [if_neg (fun h => h2 h.2), decide_eq_true h1, decide_eq_false h2]; rfl
  · rw [if_neg (fun h => h1 h.1), decide_eq_false h1]; rfl
theorem gc_valid {a0 : Int} {l : List (Int × Int × Int)} (h : gcAll a0 l = 0) : ((0 ≤ a0 ∧ a0 ≤ 5) ∧ 1 ≤ (l.length : Int) ∧ (l.length : Int) ≤ 40) ∧ GatesOk a0 l := by
  unfold gcAll at h
  split at h
  · rename_i hc
    exact ⟨hc, gc_ok h⟩
  · omega
theorem gc_wrong_body (a0 : Int) (n : Nat) (v : Int × Int × Int) : gate_Wrong_b43 a0 n v () = some (said Esc.ret (gc a0 n v)) := by
  have ht : ∀ u : Int, gate_Wrong_1 u (n : Int) = some (decide (0 ≤ u ∧ u < (n : Int))) := by
    intro u
    unfold gate_Wrong_1
    rw [Bool.decide_and]
  unfold gate_Wrong_b43 gate_Wrong_g39 gc
  rw [ht, ht]
  have e : (bif decide (v.2.1 < (0 : Int)) then (some true) else (some (decide (v.2.1 ≥ a0)))) = some (!decide (0 ≤ v.2.1 ∧ v.2.1 < a0)) := by
    by_cases h1 : v.2.1 < 0
    · simp [h1]
    · by_cases h2 : v.2.1 < a0
      · simp [h1, h2, Int.not_lt.1 h1]
      · simp [h1, h2]; omega
  have e1 : (bif decide (v.1 < (1 : Int)) then (some true) else (some (decide (v.1 > (4 : Int))))) = some (!decide (1 ≤ v.1 ∧ v.1 ≤ 4)) := by
    by_cases h1 : 1 ≤ v.1 ∧ v.1 ≤ 4
    · rw [decide_eq_true h1, decide_eq_false (by omega), decide_eq_false (by omega)]; rfl
    · rw [decide_eq_false h1]
      by_cases h2 : v.1 < 1
      · rw [decide_eq_true h2]; rfl
      · rw [decide_eq_false h2, decide_eq_true (by omega)]; rfl
  rw [e, e1]
  by_cases h1 : 1 ≤ v.1 ∧ v.1 ≤ 4
  · rw [decide_eq_true h1]
    have k2 : decide (v.1 > 1) = !(v.1 == 1) := by
      rw [beq_dec, not_dec]; exact decide_eq_decide.2 (by omega)
    have k3 : decide (v.1 > 2) = decide (v.1 ≥ 3) := decide_eq_decide.2 (by omega)
    rw [k2, k3]
    generalize decide (0 ≤ v.2.1 ∧ v.2.1 < a0) = c2
    generalize decide (0 ≤ v.2.1 ∧ v.2.1 < (n : Int)) = c3
    generalize decide (0 ≤ v.2.2 ∧ v.2.2 < (n : Int)) = c4
    generalize (v.1 == 1) = c5
    generalize decide (v.1 ≥ 3) = c6
    cases c2 <;> cases c3 <;> cases c4 <;> cases c5 <;> cases c6 <;> rfl
  · rw [decide_eq_false h1]; rfl
theorem gc_wrong (a0 : Int) (l : List (Int × Int × Int)) : gate_Wrong a0 l = some ((firstOf (gc a0) 0 l).getD 0) := by
  unfold gate_Wrong
  rw [forL_findI (f := gc a0) (g := Esc.ret) (fun n a _ => gc_wrong_body a0 n a)]
  cases firstOf (gc a0) 0 l <;> rfl
theorem gc_check (a0 : Int) (l : List (Int × Int × Int)) : gate_Check a0 l = some (gcAll a0 l) := by
  unfold gate_Check gcAll
  rw [gc_wrong]
  by_cases h : (0 ≤ a0 ∧ a0 ≤ 5) ∧ 1 ≤ (l.length : Int) ∧ (l.length : Int) ≤ 40
  · have hb : ((((decide (a0 < (0 : Int))) || (decide (a0 > (5 : Int)))) || (decide ((List.length l : Int) < (1 : Int)))) || (decide ((List.length l : Int) > (40 : Int)))) = false := by
      simp only [Bool.or_eq_false_iff, decide_eq_false_iff_not]; omega
    rw [bif_f hb, if_pos h]; rfl
  · have hb : ((((decide (a0 < (0 : Int))) || (decide (a0 > (5 : Int)))) || (decide ((List.length l : Int) < (1 : Int)))) || (decide ((List.length l : Int) > (40 : Int)))) = true := by
      simp only [Bool.or_eq_true, decide_eq_true_eq]; omega
    rw [bif_t hb, if_neg h]

theorem GateChecks_true (a0 : Int) (a1 : List (Int × (Int × Int))) (f0 : Fits (.int .i64) a0) (f1 : Fits (.slice (.pair (.int .i64) (.pair (.int .i64) (.int .i64)))) a1) : law_GateChecks a0 a1 = some true := by
  unfold law_GateChecks
  rw [gc_check, gc_gatecheck]
  simp

end Go.Proofs.Ytmemlgpcmefpfaa.gateChecks
namespace Go.Proofs.Ytmemlgpcmefpfaa.gateChecks
open Go.ChangeShapes Go.WideShapes Go.ChangeAt Go.RowKit
open Go.ChangeMaps (open_string shut_string)
theorem own : ownKnob Try.prog.godebug = none := by kernel_rfl
theorem laidOut : laidOutB Try.prog = true := by kernel_rfl
theorem lifted (os : Os) (started : os.Started) (H : Type) (enc : TypeId × Value → H) :
    ReturnsInHanded {} Try.checked os 3 .any (Rows.gateChecksSpec.pre6 enc Try.prog Try.f3 Rows.gateChecksRow.domain false) (Rows.gateChecksSpec.post enc Try.prog Try.f3 false true false false) := by
  refine returnsInHanded_of_change (C := Try.checked) own started (by kernel_rfl) Try.func3
    (ChangeSpec.witness6 (enc := enc) (C := Try.checked) false ⟨#[], #[.int .i64 0, .slice none 0 0], []⟩ 8 (by kernel_rfl) (by kernel_rfl) (by kernel_rfl) (by kernel_rfl)) ?_
  intro W base args ds gs before hval0 hW hcnd _
  have hval : ∀ (j : Nat) t v, Try.f3.params[j]? = some t → args[j]? = some v → Value.okWide Try.prog W .any base t v := hval0
  have hW' := hW
  obtain ⟨p, q, hA0, hV, rfl, hfz, hnd⟩ := hW
  have hA : DataW.TrodAll enc Try.prog W 0 (fun _ => true) true Try.f3.params.toList args.toList ds p := hA0
  rw [Try.params3] at hA hval
  obtain ⟨v0, vs0, d0, ds0, p0, q0, hargs, rfl, rfl, h0, r0⟩ := trodAll_cons hA
  obtain ⟨v1, vs1, d1, ds1, p1, q1, rfl, rfl, rfl, h1, r1⟩ := trodAll_cons r0
  obtain ⟨rfl, rfl, rfl⟩ := trodAll_nil r1
  obtain rfl : args = #[v0, v1] := by cases args; simp_all
  obtain ⟨rfl, rfl⟩ := trodVars_none hV
  obtain ⟨x0, f0, k0⟩ := Go.Sl.read_arg (u := (.int .i64)) (by kernel_rfl) (by kernel_rfl) (hval 0 3 v0 rfl rfl) h0
  have lt0 : ∀ x ∈ p0, x.block < W.heap.size := by obtain ⟨m, hm⟩ := h0; exact DataW.trod_lt m _ _ _ hm
  obtain ⟨x1, f1, k1⟩ := Go.Sl.read_arg (u := (.slice (.pair (.int .i64) (.pair (.int .i64) (.int .i64))))) (by kernel_rfl) (by kernel_rfl) (hval 1 22 v1 rfl rfl) h1
  have lt1 : ∀ x ∈ p1, x.block < W.heap.size := by obtain ⟨m, hm⟩ := h1; exact DataW.trod_lt m _ _ _ hm
  clear hA0 hval0
  have hm := GateChecks_true x0 x1 f0 f1
  refine (Go.Sl.law_of (vs := [v0, v1]) (law_GateChecks_ok hm) rfl (.cons (k0 _ _) (.cons (k1 _ _) .nil))).mono fun e W' ⟨he, bel⟩ => ?_
  subst he
  exact ⟨_, rfl, _, _, _, [], _, [], hW', trodAll_mk1 (shut_bool Try.underlying4 _), (trodAll_cons_mk (Below.trod laidOut (by kernel_rfl) (of_decide_eq_true (by kernel_rfl)) h0 bel lt0) (trodAll_cons_mk (Below.trod laidOut (by kernel_rfl) (of_decide_eq_true (by kernel_rfl)) h1 bel lt1) trodAll_mk0)), rfl, bel.frame _, fun h => by cases h⟩
theorem proved : Rows.GateChecksSaid :=
  OpenClaim.holds_of_wide 3 Try.f3 rfl rfl rfl rfl rfl rfl rfl ⟨rfl, rfl, rfl, rfl, rfl⟩ rfl rfl rfl rfl rfl (by kernel_rfl) Try.func3 (by kernel_rfl)
    (of_decide_eq_true (by kernel_rfl)) (by unfold Func.isWrapper; first | (rw [if_pos (by decide +kernel)]; kernel_rfl) | (rw [if_neg (by decide +kernel)]; exact ⟨rfl, rfl⟩))
    (fun os started H enc _ => lifted os started H enc)
#print axioms proved
end Go.Proofs.Ytmemlgpcmefpfaa.gateChecks
