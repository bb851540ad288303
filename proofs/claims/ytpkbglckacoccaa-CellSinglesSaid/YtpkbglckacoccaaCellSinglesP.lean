/- For any rule cell.Single returns the specified results: CellSingles returns true and changes nothing; no conditions. -/
import Derived.Test.YtpkbglckacoccaaRows
import Derived.WalkKit
import Derived.ProofKit
import Derived.OpenShut
import Derived.ShutString
import Derived.ChangeOld
import Derived.Below
import Derived.Test.YtpkbglckacoccaaCellSinglesM
set_option linter.all false
set_option maxRecDepth 100000
namespace Go.Proofs.Ytpkbglckacoccaa.cellSingles
open Go Go.Sl

theorem within_eq (a b c : Int) : ref_Within a b c = some (decide (a ≤ b ∧ b ≤ c)) := by
  unfold ref_Within
  rw [Bool.decide_and]

theorem cs_0 : (List.range 64).all (fun r => law_CellSingles 40 (r : Nat) == some true) = true := by kernel_rfl
theorem cs_1 : (List.range 64).all (fun r => law_CellSingles 40 (r + 64 : Nat) == some true) = true := by kernel_rfl
theorem cs_2 : (List.range 64).all (fun r => law_CellSingles 40 (r + 128 : Nat) == some true) = true := by kernel_rfl
theorem cs_3 : (List.range 64).all (fun r => law_CellSingles 40 (r + 192 : Nat) == some true) = true := by kernel_rfl
theorem CellSingles_true (a0 : Int) (f0 : Fits (.int .i64) a0) : ∃ fuel, law_CellSingles fuel a0 = some true := by
  refine ⟨40, ?_⟩
  by_cases h : 0 ≤ a0 ∧ a0 ≤ 255
  · obtain ⟨n, rfl⟩ := Int.eq_ofNat_of_zero_le h.1
    have get : ∀ (k : Nat), (List.range 64).all (fun r => law_CellSingles 40 (r + k : Nat) == some true) = true → k ≤ n → n < k + 64 → law_CellSingles 40 (n : Int) = some true := by
      intro k hk h1 h2
      have := List.all_eq_true.1 hk (n - k) (List.mem_range.2 (by omega))
      rw [show n - k + k = n by omega] at this
      simpa using this
    rcases Nat.lt_or_ge n 64 with h1 | h1
    · exact get 0 cs_0 (by omega) (by omega)
    · rcases Nat.lt_or_ge n 128 with h2 | h2
      · exact get 64 cs_1 (by omega) (by omega)
      · rcases Nat.lt_or_ge n 192 with h3 | h3
        · exact get 128 cs_2 (by omega) (by omega)
        · exact get 192 cs_3 (by omega) (by omega)
  · have e : ((decide (a0 < (0 : Int))) || (decide (a0 > (255 : Int)))) = true := by
      rw [or_dec]; exact decide_eq_true (by omega)
    unfold law_CellSingles cell_Single cell_wrong law_ruleCode
    rw [e, within_eq, decide_eq_false h]
    rfl

end Go.Proofs.Ytpkbglckacoccaa.cellSingles
namespace Go.Proofs.Ytpkbglckacoccaa.cellSingles
open Go.ChangeShapes Go.WideShapes Go.ChangeAt Go.RowKit
open Go.ChangeMaps (open_string shut_string)
theorem own : ownKnob Try.prog.godebug = none := by kernel_rfl
theorem laidOut : laidOutB Try.prog = true := by kernel_rfl
theorem lifted (os : Os) (started : os.Started) (H : Type) (enc : TypeId × Value → H) :
    ReturnsInHanded {} Try.checked os 4 .any (Rows.cellSinglesSpec.pre6 enc Try.prog Try.f4 Rows.cellSinglesRow.domain false) (Rows.cellSinglesSpec.post enc Try.prog Try.f4 false true false false) := by
  refine returnsInHanded_of_change (C := Try.checked) own started (by kernel_rfl) Try.func4
    (ChangeSpec.witness6 (enc := enc) (C := Try.checked) false ⟨#[], #[.int .i64 0], []⟩ 8 (by kernel_rfl) (by kernel_rfl) (by kernel_rfl) (by kernel_rfl)) ?_
  intro W base args ds gs before hval0 hW hcnd _
  have hval : ∀ (j : Nat) t v, Try.f4.params[j]? = some t → args[j]? = some v → Value.okWide Try.prog W .any base t v := hval0
  have hW' := hW
  obtain ⟨p, q, hA0, hV, rfl, hfz, hnd⟩ := hW
  have hA : DataW.TrodAll enc Try.prog W 0 (fun _ => true) true Try.f4.params.toList args.toList ds p := hA0
  rw [Try.params4] at hA hval
  obtain ⟨v0, vs0, d0, ds0, p0, q0, hargs, rfl, rfl, h0, r0⟩ := trodAll_cons hA
  obtain ⟨rfl, rfl, rfl⟩ := trodAll_nil r0
  obtain rfl : args = #[v0] := by cases args; simp_all
  obtain ⟨rfl, rfl⟩ := trodVars_none hV
  obtain ⟨x0, f0, k0⟩ := Go.Sl.read_arg (u := (.int .i64)) (by kernel_rfl) (by kernel_rfl) (hval 0 3 v0 rfl rfl) h0
  have lt0 : ∀ x ∈ p0, x.block < W.heap.size := by obtain ⟨m, hm⟩ := h0; exact DataW.trod_lt m _ _ _ hm
  clear hA0 hval0
  obtain ⟨fuel, hm⟩ := CellSingles_true x0 f0
  refine (Go.Sl.law_of (vs := [v0]) (law_CellSingles_ok hm) rfl (.cons (k0 _ _) .nil)).mono fun e W' ⟨he, bel⟩ => ?_
  subst he
  exact ⟨_, rfl, _, _, _, [], _, [], hW', trodAll_mk1 (shut_bool Try.underlying4 _), (trodAll_cons_mk (Below.trod laidOut (by kernel_rfl) (of_decide_eq_true (by kernel_rfl)) h0 bel lt0) trodAll_mk0), rfl, bel.frame _, fun h => by cases h⟩
theorem proved : Rows.CellSinglesSaid :=
  OpenClaim.holds_of_wide 4 Try.f4 rfl rfl rfl rfl rfl rfl rfl ⟨rfl, rfl, rfl, rfl, rfl⟩ rfl rfl rfl rfl rfl (by kernel_rfl) Try.func4 (by kernel_rfl)
    (of_decide_eq_true (by kernel_rfl)) (by unfold Func.isWrapper; first | (rw [if_pos (by decide +kernel)]; kernel_rfl) | (rw [if_neg (by decide +kernel)]; exact ⟨rfl, rfl⟩))
    (fun os started H enc _ => lifted os started H enc)
#print axioms proved
end Go.Proofs.Ytpkbglckacoccaa.cellSingles
