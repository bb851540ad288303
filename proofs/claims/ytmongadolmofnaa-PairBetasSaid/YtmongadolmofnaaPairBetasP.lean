/- For all arguments pair.Beta returns the specified results: PairBetas returns true and changes nothing; no conditions. -/
import Derived.Test.YtmongadolmofnaaRows
import Derived.WalkKit
import Derived.ProofKit
import Derived.OpenShut
import Derived.ShutString
import Derived.ChangeOld
import Derived.Below
import Derived.Test.YtmongadolmofnaaPairBetasM
set_option linter.all false
set_option maxRecDepth 100000
namespace Go.Proofs.Ytmongadolmofnaa.pairBetas
open Go Go.Sl

theorem PairBetas_true (a0 a1 a2 : Int) (f0 : Fits (.int .i64) a0) (f1 : Fits (.int .i64) a1) (f2 : Fits (.int .i64) a2) : law_PairBetas a0 a1 a2 = some true := by
  have f0 := f0.i64
  have f1 := f1.i64
  have f2 := f2.i64
  by_cases h : 0 ≤ a0 ∧ 0 ≤ a1 ∧ a1 ≤ 1099511627776 ∧ 0 ≤ a2 ∧ a2 ≤ 1000
  · obtain ⟨h0, h1, h2, h3, h4⟩ := h
    have m1 : 0 ≤ a1 * (a2 + 1) := Int.mul_nonneg h1 (by omega)
    have m2 : a1 * (a2 + 1) ≤ 1099511627776 * 1001 := Int.mul_le_mul h2 (by omega) (by omega) (by omega)
    have e1 : w64 (a2 + 1) = a2 + 1 := w64_id (by omega) (by omega)
    have e2 : w64 (a1 * (a2 + 1)) = a1 * (a2 + 1) := w64_id (by omega) (by omega)
    have e3 : w64 (1 + a1 * (a2 + 1)) = 1 + a1 * (a2 + 1) := w64_id (by omega) (by omega)
    have p : 0 < 1 + a1 * (a2 + 1) := by omega
    have q0 : 0 ≤ a0.tdiv (1 + a1 * (a2 + 1)) := Int.tdiv_nonneg h0 (by omega)
    have q1 : a0.tdiv (1 + a1 * (a2 + 1)) * (1 + a1 * (a2 + 1)) + a0.tmod (1 + a1 * (a2 + 1)) = a0 := Int.tdiv_mul_add_tmod _ _
    have q2 : 0 ≤ a0.tmod (1 + a1 * (a2 + 1)) := Int.tmod_nonneg _ h0
    have q3 : 0 ≤ a0.tdiv (1 + a1 * (a2 + 1)) * (1 + a1 * (a2 + 1)) := Int.mul_nonneg q0 (by omega)
    have q4 : a0.tdiv (1 + a1 * (a2 + 1)) ≤ a0 := Int.tdiv_le_self _ h0
    generalize hD : 1 + a1 * (a2 + 1) = D at *
    have e4 : w64 (a0.tdiv D) = a0.tdiv D := w64_id (by omega) (by omega)
    have e5 : w64 (a0.tdiv D * D) = a0.tdiv D * D := w64_id (by omega) (by omega)
    have e6 : w64 (a0 - a0.tdiv D * D) = a0.tmod D := by rw [w64_id (by omega) (by omega)]; omega
    have c : ck (D ≠ 0) = some () := ck_ok (by omega)
    simp [law_PairBetas, pair_Beta, law_PairBetas_g1, ref_Within, e1, e2, e3, e4, e5, e6, hD, Int.mul_comm (a2 + 1) a1, c, h3, h4, Int.not_lt.2 h0, Int.not_lt.2 h1, Int.not_lt.2 h2, Int.not_lt.2 h3, Int.not_lt.2 h4]
  · have hb : pair_Beta a0 a1 a2 = some (0, 4) := by
      unfold pair_Beta
      rw [bif_t]
      simp only [Bool.or_eq_true, decide_eq_true_eq]; omega
    have hg : law_PairBetas_g1 a0 a1 a2 = some true := by
      unfold law_PairBetas_g1
      cases hc : (decide (a0 < (0 : Int)) || decide (a1 < (0 : Int))) || decide (a1 > (1099511627776 : Int)) with
      | true => rfl
      | false =>
        simp only [Bool.or_eq_false_iff, decide_eq_false_iff_not] at hc
        have : (decide (0 ≤ a2) && decide (a2 ≤ 1000)) = false := by
          cases hx : (decide (0 ≤ a2) && decide (a2 ≤ 1000)) with
          | false => rfl
          | true => simp only [Bool.and_eq_true, decide_eq_true_eq] at hx; omega
        simp [ref_Within, this]
    simp [law_PairBetas, hb, hg]

end Go.Proofs.Ytmongadolmofnaa.pairBetas
namespace Go.Proofs.Ytmongadolmofnaa.pairBetas
open Go.ChangeShapes Go.WideShapes Go.ChangeAt Go.RowKit
open Go.ChangeMaps (open_string shut_string)
theorem own : ownKnob Try.prog.godebug = none := by kernel_rfl
theorem laidOut : laidOutB Try.prog = true := by kernel_rfl
theorem lifted (os : Os) (started : os.Started) (H : Type) (enc : TypeId × Value → H) :
    ReturnsInHanded {} Try.checked os 3 .any (Rows.pairBetasSpec.pre6 enc Try.prog Try.f3 Rows.pairBetasRow.domain false) (Rows.pairBetasSpec.post enc Try.prog Try.f3 false true false false) := by
  refine returnsInHanded_of_change (C := Try.checked) own started (by kernel_rfl) Try.func3
    (ChangeSpec.witness6 (enc := enc) (C := Try.checked) false ⟨#[], #[.int .i64 0, .int .i64 0, .int .i64 0], []⟩ 8 (by kernel_rfl) (by kernel_rfl) (by kernel_rfl) (by kernel_rfl)) ?_
  intro W base args ds gs before hval0 hW hcnd _
  have hval : ∀ (j : Nat) t v, Try.f3.params[j]? = some t → args[j]? = some v → Value.okWide Try.prog W .any base t v := hval0
  have hW' := hW
  obtain ⟨p, q, hA0, hV, rfl, hfz, hnd⟩ := hW
  have hA : DataW.TrodAll enc Try.prog W 0 (fun _ => true) true Try.f3.params.toList args.toList ds p := hA0
  rw [Try.params3] at hA hval
  obtain ⟨v0, vs0, d0, ds0, p0, q0, hargs, rfl, rfl, h0, r0⟩ := trodAll_cons hA
  obtain ⟨v1, vs1, d1, ds1, p1, q1, rfl, rfl, rfl, h1, r1⟩ := trodAll_cons r0
  obtain ⟨v2, vs2, d2, ds2, p2, q2, rfl, rfl, rfl, h2, r2⟩ := trodAll_cons r1
  obtain ⟨rfl, rfl, rfl⟩ := trodAll_nil r2
  obtain rfl : args = #[v0, v1, v2] := by cases args; simp_all
  obtain ⟨rfl, rfl⟩ := trodVars_none hV
  obtain ⟨x0, f0, k0⟩ := Go.Sl.read_arg (u := (.int .i64)) (by kernel_rfl) (by kernel_rfl) (hval 0 2 v0 rfl rfl) h0
  have lt0 : ∀ x ∈ p0, x.block < W.heap.size := by obtain ⟨m, hm⟩ := h0; exact DataW.trod_lt m _ _ _ hm
  obtain ⟨x1, f1, k1⟩ := Go.Sl.read_arg (u := (.int .i64)) (by kernel_rfl) (by kernel_rfl) (hval 1 2 v1 rfl rfl) h1
  have lt1 : ∀ x ∈ p1, x.block < W.heap.size := by obtain ⟨m, hm⟩ := h1; exact DataW.trod_lt m _ _ _ hm
  obtain ⟨x2, f2, k2⟩ := Go.Sl.read_arg (u := (.int .i64)) (by kernel_rfl) (by kernel_rfl) (hval 2 3 v2 rfl rfl) h2
  have lt2 : ∀ x ∈ p2, x.block < W.heap.size := by obtain ⟨m, hm⟩ := h2; exact DataW.trod_lt m _ _ _ hm
  clear hA0 hval0
  have hm := PairBetas_true x0 x1 x2 f0 f1 f2
  refine (Go.Sl.law_of (vs := [v0, v1, v2]) (law_PairBetas_ok hm) rfl (.cons (k0 _ _) (.cons (k1 _ _) (.cons (k2 _ _) .nil)))).mono fun e W' ⟨he, bel⟩ => ?_
  subst he
  exact ⟨_, rfl, _, _, _, [], _, [], hW', trodAll_mk1 (shut_bool Try.underlying4 _), (trodAll_cons_mk (Below.trod laidOut (by kernel_rfl) (of_decide_eq_true (by kernel_rfl)) h0 bel lt0) (trodAll_cons_mk (Below.trod laidOut (by kernel_rfl) (of_decide_eq_true (by kernel_rfl)) h1 bel lt1) (trodAll_cons_mk (Below.trod laidOut (by kernel_rfl) (of_decide_eq_true (by kernel_rfl)) h2 bel lt2) trodAll_mk0))), rfl, bel.frame _, fun h => by cases h⟩
theorem proved : Rows.PairBetasSaid :=
  OpenClaim.holds_of_wide 3 Try.f3 rfl rfl rfl rfl rfl rfl rfl ⟨rfl, rfl, rfl, rfl, rfl⟩ rfl rfl rfl rfl rfl (by kernel_rfl) Try.func3 (by kernel_rfl)
    (of_decide_eq_true (by kernel_rfl)) (by unfold Func.isWrapper; first | (rw [if_pos (by decide +kernel)]; kernel_rfl) | (rw [if_neg (by decide +kernel)]; exact ⟨rfl, rfl⟩))
    (fun os started H enc _ => lifted os started H enc)
#print axioms proved
end Go.Proofs.Ytmongadolmofnaa.pairBetas
