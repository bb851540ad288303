/- For any table proof.Sum returns the specified results: ProofSums returns true and changes nothing; no conditions. -/
import Derived.Test.YtjgpfbdenfoffaaRows
import Derived.WalkKit
import Derived.ProofKit
import Derived.OpenShut
import Derived.ShutString
import Derived.ChangeOld
import Derived.Below
import Derived.Test.YtjgpfbdenfoffaaProofSumsM
set_option linter.all false
set_option maxRecDepth 100000
namespace Go.Proofs.Ytjgpfbdenfoffaa.proofSums
open Go Go.Sl

theorem ps_within (a b c : Int) : ref_Within a b c = some (decide (a ≤ b ∧ b ≤ c)) := by
  unfold ref_Within
  rw [Bool.decide_and]
theorem ps_inside (l : List Int) : ref_Inside 7 l = some (!l.any fun v => decide (v < 0) || decide (v ≥ 7)) := by
  unfold ref_Inside
  rw [forL_ex (p := fun v => decide (v < 0) || decide (v ≥ 7)) (y := Esc.ret false) (fun i a _ => by unfold ref_Inside_b1; cases (decide (a < 0) || decide (a ≥ 7)) <;> rfl)]
  cases (l.any fun v => decide (v < 0) || decide (v ≥ 7)) <;> rfl
theorem ps_bad (l : List Int) : slices_ContainsFunc_Lintint_with_proof_bad l = some (l.any fun v => decide (v < 0) || decide (v ≥ 7)) := by
  unfold slices_ContainsFunc_Lintint_with_proof_bad slices_IndexFunc_Lintint_with_proof_bad
  rcases forL_at (body := slices_IndexFunc_Lintint_with_proof_bad_b1) (fin := fun _ => (Esc.brk () : Esc Int Unit)) (p := fun v => decide (v < 0) || decide (v ≥ 7)) (g := fun j => Esc.ret j) (l := l)
    (fun i a _ => by unfold slices_IndexFunc_Lintint_with_proof_bad_b1 proof_bad; cases (decide (a < 0) || decide (a ≥ 7)) <;> rfl) (i := 0) with ⟨h1, h2⟩ | ⟨h1, j, h2, h3, h4⟩
  · rw [h2, h1]; rfl
  · rw [h4, h1]
    have : decide (j ≥ (0 : Int)) = true := decide_eq_true h2
    simp [h2]
theorem ProofSums_true (a0 : Int) (a1 : List Int) (f0 : Fits (.int .i64) a0) (f1 : Fits (.slice (.int .i64)) a1) : law_ProofSums a0 a1 = some true := by
  have hw : ∀ n : Nat, n ≤ 4 → IntKind.wrap .u64 (n : Int) = (n : Int) := by decide
  have key : proof_wrong a0 a1 = ref_SumCheck a0 a1 ∧ ∃ e, ref_SumCheck a0 a1 = some e := by
    unfold proof_wrong ref_SumCheck
    rw [ps_within, ps_inside, ps_bad]
    by_cases h : 1 ≤ a0 ∧ a0 ≤ 4
    · have hb : ((decide (a0 < (1 : Int))) || (decide (a0 > (4 : Int)))) = false := by
        simp only [Bool.or_eq_false_iff, decide_eq_false_iff_not]; omega
      have e1 : IntKind.wrap .u64 a0 = a0 := by
        have := hw a0.toNat (by omega)
        rwa [Int.toNat_of_nonneg (by omega)] at this
      rw [bif_f hb, e1, decide_eq_true h, ck_ok (by omega)]
      simp only [Option.bind_some]
      generalize ((a1.length : Int) != bShl .i64 1 a0) = c1
      generalize (a1.any fun v => decide (v < 0) || decide (v ≥ 7)) = c2
      cases c1 <;> cases c2 <;> exact ⟨rfl, _, rfl⟩
    · have hb : ((decide (a0 < (1 : Int))) || (decide (a0 > (4 : Int)))) = true := by
        simp only [Bool.or_eq_true, decide_eq_true_eq]; omega
      rw [bif_t hb, decide_eq_false h]
      exact ⟨rfl, _, rfl⟩
  obtain ⟨k1, e, k2⟩ := key
  have hs : forL law_ProofSums_b1 (fun x => x) a1 0 0 = some (a1.foldl (fun x v => w64 (x + v)) 0) := forL_fold (fun _ _ _ _ => rfl)
  have hs2 : forL proof_sum_b1 (fun x => x) a1 0 0 = some (a1.foldl (fun x v => w64 (x + v)) 0) := forL_fold (fun _ _ _ _ => rfl)
  unfold law_ProofSums proof_Sum
  rw [k1, k2]
  simp only [Option.bind_some]
  by_cases he : e = 0
  · subst he
    simp [proof_sum, hs, hs2]
  · have h1 : (e != (0 : Int)) = true := by simp [he]
    rw [h1]
    simp [he]

end Go.Proofs.Ytjgpfbdenfoffaa.proofSums
namespace Go.Proofs.Ytjgpfbdenfoffaa.proofSums
open Go.ChangeShapes Go.WideShapes Go.ChangeAt Go.RowKit
open Go.ChangeMaps (open_string shut_string)
theorem own : ownKnob Try.prog.godebug = none := by kernel_rfl
theorem laidOut : laidOutB Try.prog = true := by kernel_rfl
theorem lifted (os : Os) (started : os.Started) (H : Type) (enc : TypeId × Value → H) :
    ReturnsInHanded {} Try.checked os 3 .any (Rows.proofSumsSpec.pre6 enc Try.prog Try.f3 Rows.proofSumsRow.domain false) (Rows.proofSumsSpec.post enc Try.prog Try.f3 false true false false) := by
  refine returnsInHanded_of_change (C := Try.checked) own started (by kernel_rfl) Try.func3
    (ChangeSpec.witness6 (enc := enc) (C := Try.checked) false ⟨#[], #[.int .i64 0, .slice none 0 0], []⟩ 8 (by kernel_rfl) (by kernel_rfl) (by kernel_rfl) (by kernel_rfl)) ?_
  intro W base args ds gs before hval0 hW hcnd _
  have hval : ∀ (j : Nat) t v, Try.f3.params[j]? = some t → args[j]? = some v → Value.okWide Try.prog W .any base t v := hval0
  have hW' := hW
  obtain ⟨p, q, hA0, hV, rfl, hfz, hnd⟩ := hW
  have hA : DataW.TrodAll enc Try.prog W 0 (fun _ => true) true Try.f3.params.toList args.toList ds p := hA0
  rw [Try.params3] at hA hval
  obtain ⟨v0, vs0, d0, ds0, p0, q0, hargs, rfl, rfl, h0, r0⟩ := trodAll_cons hA
  obtain ⟨v1, vs1, d1, ds1, p1, q1, rfl, rfl, rfl, h1, r1⟩ := trodAll_cons r0
  obtain ⟨rfl, rfl, rfl⟩ := trodAll_nil r1
  obtain rfl : args = #[v0, v1] := by cases args; simp_all
  obtain ⟨rfl, rfl⟩ := trodVars_none hV
  obtain ⟨x0, f0, k0⟩ := Go.Sl.read_arg (u := (.int .i64)) (by kernel_rfl) (by kernel_rfl) (hval 0 3 v0 rfl rfl) h0
  have lt0 : ∀ x ∈ p0, x.block < W.heap.size := by obtain ⟨m, hm⟩ := h0; exact DataW.trod_lt m _ _ _ hm
  obtain ⟨x1, f1, k1⟩ := Go.Sl.read_arg (u := (.slice (.int .i64))) (by kernel_rfl) (by kernel_rfl) (hval 1 22 v1 rfl rfl) h1
  have lt1 : ∀ x ∈ p1, x.block < W.heap.size := by obtain ⟨m, hm⟩ := h1; exact DataW.trod_lt m _ _ _ hm
  clear hA0 hval0
  have hm := ProofSums_true x0 x1 f0 f1
  refine (Go.Sl.law_of (vs := [v0, v1]) (law_ProofSums_ok hm) rfl (.cons (k0 _ _) (.cons (k1 _ _) .nil))).mono fun e W' ⟨he, bel⟩ => ?_
  subst he
  exact ⟨_, rfl, _, _, _, [], _, [], hW', trodAll_mk1 (shut_bool Try.underlying4 _), (trodAll_cons_mk (Below.trod laidOut (by kernel_rfl) (of_decide_eq_true (by kernel_rfl)) h0 bel lt0) (trodAll_cons_mk (Below.trod laidOut (by kernel_rfl) (of_decide_eq_true (by kernel_rfl)) h1 bel lt1) trodAll_mk0)), rfl, bel.frame _, fun h => by cases h⟩
theorem proved : Rows.ProofSumsSaid :=
  OpenClaim.holds_of_wide 3 Try.f3 rfl rfl rfl rfl rfl rfl rfl ⟨rfl, rfl, rfl, rfl, rfl⟩ rfl rfl rfl rfl rfl (by kernel_rfl) Try.func3 (by kernel_rfl)
    (of_decide_eq_true (by kernel_rfl)) (by unfold Func.isWrapper; first | (rw [if_pos (by decide +kernel)]; kernel_rfl) | (rw [if_neg (by decide +kernel)]; exact ⟨rfl, rfl⟩))
    (fun os started H enc _ => lifted os started H enc)
#print axioms proved
end Go.Proofs.Ytjgpfbdenfoffaa.proofSums
