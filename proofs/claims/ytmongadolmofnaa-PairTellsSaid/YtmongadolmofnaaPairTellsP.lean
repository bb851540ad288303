/- For all arguments pair.Pair returns the specified results: PairTells returns true and changes nothing; no conditions. -/
import Derived.Test.YtmongadolmofnaaRows
import Derived.WalkKit
import Derived.ProofKit
import Derived.OpenShut
import Derived.ShutString
import Derived.ChangeOld
import Derived.Below
import Derived.Test.YtmongadolmofnaaPairTellsM
set_option linter.all false
set_option maxRecDepth 100000
namespace Go.Proofs.Ytmongadolmofnaa.pairTells
open Go Go.Sl

theorem PairTells_true (a0 a1 : Int) (f0 : Fits (.int .i64) a0) (f1 : Fits (.int .i64) a1) : law_PairTells a0 a1 = some true := by
  by_cases h : (0 ≤ a0 ∧ a0 ≤ 1000000) ∧ 0 ≤ a1 ∧ a1 ≤ 1000000
  · have hc : ((decide ((imin a0 a1) < (0 : Int))) || (decide ((imax a0 a1) > (1000000 : Int)))) = false := by
      unfold imin imax
      simp only [Bool.or_eq_false_iff, decide_eq_false_iff_not]
      constructor <;> split <;> omega
    simp [law_PairTells, pair_Pair, hc, pair_sums, ref_Within, h]
  · have hc : ((decide ((imin a0 a1) < (0 : Int))) || (decide ((imax a0 a1) > (1000000 : Int)))) = true := by
      unfold imin imax
      simp only [Bool.or_eq_true, decide_eq_true_eq]
      split <;> split <;> omega
    have hb : pair_Pair a0 a1 = some (0, 4) := by unfold pair_Pair; rw [bif_t hc]
    by_cases h0 : 0 ≤ a0 ∧ a0 ≤ 1000000
    · have h1 : ¬ (0 ≤ a1 ∧ a1 ≤ 1000000) := fun hh => h ⟨h0, hh⟩
      have : (decide (0 ≤ a1) && decide (a1 ≤ 1000000)) = false := by
        cases hx : (decide (0 ≤ a1) && decide (a1 ≤ 1000000)) with
        | false => rfl
        | true => simp only [Bool.and_eq_true, decide_eq_true_eq] at hx; exact absurd hx h1
      simp [law_PairTells, hb, ref_Within, this]
    · have : (decide (0 ≤ a0) && decide (a0 ≤ 1000000)) = false := by
        cases hx : (decide (0 ≤ a0) && decide (a0 ≤ 1000000)) with
        | false => rfl
        | true => simp only [Bool.and_eq_true, decide_eq_true_eq] at hx; exact absurd hx h0
      simp [law_PairTells, hb, ref_Within, this]

end Go.Proofs.Ytmongadolmofnaa.pairTells
namespace Go.Proofs.Ytmongadolmofnaa.pairTells
open Go.ChangeShapes Go.WideShapes Go.ChangeAt Go.RowKit
open Go.ChangeMaps (open_string shut_string)
theorem own : ownKnob Try.prog.godebug = none := by kernel_rfl
theorem laidOut : laidOutB Try.prog = true := by kernel_rfl
theorem lifted (os : Os) (started : os.Started) (H : Type) (enc : TypeId × Value → H) :
    ReturnsInHanded {} Try.checked os 4 .any (Rows.pairTellsSpec.pre6 enc Try.prog Try.f4 Rows.pairTellsRow.domain false) (Rows.pairTellsSpec.post enc Try.prog Try.f4 false true false false) := by
  refine returnsInHanded_of_change (C := Try.checked) own started (by kernel_rfl) Try.func4
    (ChangeSpec.witness6 (enc := enc) (C := Try.checked) false ⟨#[], #[.int .i64 0, .int .i64 0], []⟩ 8 (by kernel_rfl) (by kernel_rfl) (by kernel_rfl) (by kernel_rfl)) ?_
  intro W base args ds gs before hval0 hW hcnd _
  have hval : ∀ (j : Nat) t v, Try.f4.params[j]? = some t → args[j]? = some v → Value.okWide Try.prog W .any base t v := hval0
  have hW' := hW
  obtain ⟨p, q, hA0, hV, rfl, hfz, hnd⟩ := hW
  have hA : DataW.TrodAll enc Try.prog W 0 (fun _ => true) true Try.f4.params.toList args.toList ds p := hA0
  rw [Try.params4] at hA hval
  obtain ⟨v0, vs0, d0, ds0, p0, q0, hargs, rfl, rfl, h0, r0⟩ := trodAll_cons hA
  obtain ⟨v1, vs1, d1, ds1, p1, q1, rfl, rfl, rfl, h1, r1⟩ := trodAll_cons r0
  obtain ⟨rfl, rfl, rfl⟩ := trodAll_nil r1
  obtain rfl : args = #[v0, v1] := by cases args; simp_all
  obtain ⟨rfl, rfl⟩ := trodVars_none hV
  obtain ⟨x0, f0, k0⟩ := Go.Sl.read_arg (u := (.int .i64)) (by kernel_rfl) (by kernel_rfl) (hval 0 3 v0 rfl rfl) h0
  have lt0 : ∀ x ∈ p0, x.block < W.heap.size := by obtain ⟨m, hm⟩ := h0; exact DataW.trod_lt m _ _ _ hm
  obtain ⟨x1, f1, k1⟩ := Go.Sl.read_arg (u := (.int .i64)) (by kernel_rfl) (by kernel_rfl) (hval 1 3 v1 rfl rfl) h1
  have lt1 : ∀ x ∈ p1, x.block < W.heap.size := by obtain ⟨m, hm⟩ := h1; exact DataW.trod_lt m _ _ _ hm
  clear hA0 hval0
  have hm := PairTells_true x0 x1 f0 f1
  refine (Go.Sl.law_of (vs := [v0, v1]) (law_PairTells_ok hm) rfl (.cons (k0 _ _) (.cons (k1 _ _) .nil))).mono fun e W' ⟨he, bel⟩ => ?_
  subst he
  exact ⟨_, rfl, _, _, _, [], _, [], hW', trodAll_mk1 (shut_bool Try.underlying4 _), (trodAll_cons_mk (Below.trod laidOut (by kernel_rfl) (of_decide_eq_true (by kernel_rfl)) h0 bel lt0) (trodAll_cons_mk (Below.trod laidOut (by kernel_rfl) (of_decide_eq_true (by kernel_rfl)) h1 bel lt1) trodAll_mk0)), rfl, bel.frame _, fun h => by cases h⟩
theorem proved : Rows.PairTellsSaid :=
  OpenClaim.holds_of_wide 4 Try.f4 rfl rfl rfl rfl rfl rfl rfl ⟨rfl, rfl, rfl, rfl, rfl⟩ rfl rfl rfl rfl rfl (by kernel_rfl) Try.func4 (by kernel_rfl)
    (of_decide_eq_true (by kernel_rfl)) (by unfold Func.isWrapper; first | (rw [if_pos (by decide +kernel)]; kernel_rfl) | (rw [if_neg (by decide +kernel)]; exact ⟨rfl, rfl⟩))
    (fun os started H enc _ => lifted os started H enc)
#print axioms proved
end Go.Proofs.Ytmongadolmofnaa.pairTells
