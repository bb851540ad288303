/- For any machine tape.Check returns the specified error code: TapeChecks returns true and changes nothing; no conditions. -/
import Derived.Test.YtpkbglckacoccaaRows
import Derived.WalkKit
import Derived.ProofKit
import Derived.OpenShut
import Derived.ShutString
import Derived.ChangeOld
import Derived.Below
import Derived.Test.YtpkbglckacoccaaTapeChecksM
set_option linter.all false
set_option maxRecDepth 100000
namespace Go.Proofs.Ytpkbglckacoccaa.tapeChecks
open Go Go.Sl

theorem inside1 (n v : Int) : ref_Inside n [v] = some (decide (0 ≤ v ∧ v < n)) := by
  unfold ref_Inside
  rw [forL_ex (p := fun v => decide (v < 0) || decide (v ≥ n)) (y := Esc.ret false) (fun i a _ => by unfold ref_Inside_b1; cases (decide (a < 0) || decide (a ≥ n)) <;> rfl)]
  by_cases h : 0 ≤ v ∧ v < n
  · have : (decide (v < 0) || decide (v ≥ n)) = false := by simp only [Bool.or_eq_false_iff, decide_eq_false_iff_not]; omega
    simp [this, h]
  · have : (decide (v < 0) || decide (v ≥ n)) = true := by simp only [Bool.or_eq_true, decide_eq_true_eq]; omega
    simp [this, h]

theorem within_eq (a b c : Int) : ref_Within a b c = some (decide (a ≤ b ∧ b ≤ c)) := by
  unfold ref_Within
  rw [Bool.decide_and]

def tpRule (S G : Int) (r : Int × Int × Int) : Option Int :=
  bif !decide (0 ≤ r.1 ∧ r.1 < G) then some 2 else bif !decide (-1 ≤ r.2.1 ∧ r.2.1 ≤ 1) then some 4 else bif !decide (0 ≤ r.2.2 ∧ r.2.2 ≤ S) then some 2 else none
def tpLen (G : Int) (l : List (Int × Int × Int)) : Bool := (l.length : Int) != G
def tpAll (m : Int × Int × List (List (Int × Int × Int))) : Int :=
  bif !(decide (1 ≤ m.1 ∧ m.1 ≤ 5) && decide (2 ≤ m.2.1 ∧ m.2.1 ≤ 4)) then 1 else bif (m.2.2.length : Int) != m.1 then 3 else bif m.2.2.any (tpLen m.2.1) then 3 else
    (m.2.2.findSome? fun l => l.findSome? (tpRule m.1 m.2.1)).getD 0
theorem tp_lens (m : Int × Int × List (List (Int × Int × Int))) (l : List (List (Int × Int × Int))) : slices_ContainsFunc_LLapiRuleLapiRule_with_tape_Check_1 l m = some (l.any (tpLen m.2.1)) := by
  unfold slices_ContainsFunc_LLapiRuleLapiRule_with_tape_Check_1 slices_IndexFunc_LLapiRuleLapiRule_with_tape_Check_1
  rcases forL_at (body := slices_IndexFunc_LLapiRuleLapiRule_with_tape_Check_1_b1 m) (fin := fun _ => (Esc.brk () : Esc Int Unit)) (p := tpLen m.2.1) (g := fun j => Esc.ret j) (l := l)
    (fun i a _ => by unfold slices_IndexFunc_LLapiRuleLapiRule_with_tape_Check_1_b1 tape_Check_1 tpLen; cases ((List.length a : Int) != m.2.1) <;> rfl) (i := 0) with ⟨h1, h2⟩ | ⟨h1, j, h2, h3, h4⟩
  · rw [h2, h1]; rfl
  · rw [h4, h1]
    simp [h2]
theorem tp_row (m : Int × Int × List (List (Int × Int × Int))) (i : Int) (l : List (Int × Int × Int)) : tape_Check_b40 m i l () = some (said Esc.ret (l.findSome? (tpRule m.1 m.2.1))) := by
  unfold tape_Check_b40
  rw [forL_find (f := tpRule m.1 m.2.1) (g := Esc.ret) (fun i a _ => by
    unfold tape_Check_b36 tpRule
    have e1 : (bif decide (a.1 < (0 : Int)) then (some true) else (some (decide (a.1 ≥ m.2.1)))) = some (!decide (0 ≤ a.1 ∧ a.1 < m.2.1)) := by
      rw [bif_some]; congr 1
      by_cases h : a.1 < 0
      · simp [h]
      · simp only [h, Int.not_lt.1 h, decide_false, cond_false, true_and, not_dec]; exact decide_eq_decide.2 (by omega)
    have e2 : (bif decide (a.2.1 < (-1 : Int)) then (some true) else (some (decide (a.2.1 > (1 : Int))))) = some (!decide (-1 ≤ a.2.1 ∧ a.2.1 ≤ 1)) := by
      rw [bif_some]; congr 1
      by_cases h : a.2.1 < -1
      · simp [h]
      · simp only [h, Int.not_lt.1 h, decide_false, cond_false, true_and, not_dec]; exact decide_eq_decide.2 (by omega)
    have e3 : (bif decide (a.2.2 < (0 : Int)) then (some true) else (some (decide (a.2.2 > m.1)))) = some (!decide (0 ≤ a.2.2 ∧ a.2.2 ≤ m.1)) := by
      rw [bif_some]; congr 1
      by_cases h : a.2.2 < 0
      · simp [h]
      · simp only [h, Int.not_lt.1 h, decide_false, cond_false, true_and, not_dec]; exact decide_eq_decide.2 (by omega)
    rw [e1, e2, e3]
    cases decide (0 ≤ a.1 ∧ a.1 < m.2.1) <;> cases decide (-1 ≤ a.2.1 ∧ a.2.1 ≤ 1) <;> cases decide (0 ≤ a.2.2 ∧ a.2.2 ≤ m.1) <;> rfl)]
  cases l.findSome? (tpRule m.1 m.2.1) <;> rfl
theorem tp_rrow (m : Int × Int × List (List (Int × Int × Int))) (hm : 1 ≤ m.1 ∧ m.1 ≤ 5) (i : Int) (l : List (Int × Int × Int)) : ref_MachineCheck_b15 m i l () = some (said Esc.ret (l.findSome? (tpRule m.1 m.2.1))) := by
  unfold ref_MachineCheck_b15
  rw [forL_find (f := tpRule m.1 m.2.1) (g := Esc.ret) (fun i a _ => by
    unfold ref_MachineCheck_b11 tpRule
    rw [inside1, within_eq, inside1, w64_id (by omega) (by omega)]
    have e3 : decide (0 ≤ a.2.2 ∧ a.2.2 < m.1 + 1) = decide (0 ≤ a.2.2 ∧ a.2.2 ≤ m.1) := decide_eq_decide.2 (by omega)
    rw [e3]
    cases decide (0 ≤ a.1 ∧ a.1 < m.2.1) <;> cases decide (-1 ≤ a.2.1 ∧ a.2.1 ≤ 1) <;> cases decide (0 ≤ a.2.2 ∧ a.2.2 ≤ m.1) <;> rfl)]
  cases l.findSome? (tpRule m.1 m.2.1) <;> rfl
theorem tp_check (m : Int × Int × List (List (Int × Int × Int))) : tape_Check m = some (tpAll m) := by
  unfold tape_Check tape_Check_g1 tpAll
  have e : (bif decide (m.1 < (1 : Int)) then (some true) else (bif decide (m.1 > (5 : Int)) then (some true) else (bif decide (m.2.1 < (2 : Int)) then (some true) else (some (decide (m.2.1 > (4 : Int))))))) =
      some (!(decide (1 ≤ m.1 ∧ m.1 ≤ 5) && decide (2 ≤ m.2.1 ∧ m.2.1 ≤ 4))) := by
    by_cases h1 : m.1 < 1
    · have : ¬ (1 ≤ m.1 ∧ m.1 ≤ 5) := by omega
      simp [h1, this]
    · by_cases h2 : m.1 > 5
      · have : ¬ (1 ≤ m.1 ∧ m.1 ≤ 5) := by omega
        simp [h1, h2, this]
      · have h3 : 1 ≤ m.1 ∧ m.1 ≤ 5 := by omega
        by_cases h4 : m.2.1 < 2
        · have : ¬ (2 ≤ m.2.1 ∧ m.2.1 ≤ 4) := by omega
          simp [h1, h2, h4, this]
        · have : (decide (m.2.1 > 4)) = !decide (2 ≤ m.2.1 ∧ m.2.1 ≤ 4) := by rw [not_dec]; exact decide_eq_decide.2 (by omega)
          simp only [h1, h2, h4, decide_false, cond_false, h3, decide_true, Bool.true_and, this, and_self]
  rw [e, bind_some', tp_lens]
  rw [forL_find (f := fun l => l.findSome? (tpRule m.1 m.2.1)) (g := Esc.ret) (fun i a _ => tp_row m i a)]
  cases (!(decide (1 ≤ m.1 ∧ m.1 ≤ 5) && decide (2 ≤ m.2.1 ∧ m.2.1 ≤ 4))) <;> cases ((List.length m.2.2 : Int) != m.1) <;> cases m.2.2.any (tpLen m.2.1) <;>
    cases (m.2.2.findSome? fun l => l.findSome? (tpRule m.1 m.2.1)) <;> rfl
theorem tp_rcheck (m : Int × Int × List (List (Int × Int × Int))) : ref_MachineCheck m = some (tpAll m) := by
  unfold ref_MachineCheck tpAll
  rw [within_eq, within_eq, bind_some', bind_some']
  by_cases h1 : 1 ≤ m.1 ∧ m.1 ≤ 5
  · by_cases h2 : 2 ≤ m.2.1 ∧ m.2.1 ≤ 4
    · rw [forL_ex (p := tpLen m.2.1) (y := Esc.ret 3) (fun i a _ => by unfold ref_MachineCheck_b1 tpLen; cases ((List.length a : Int) != m.2.1) <;> rfl)]
      rw [forL_find (f := fun l => l.findSome? (tpRule m.1 m.2.1)) (g := Esc.ret) (fun i a _ => tp_rrow m h1 i a)]
      simp only [h1, h2, and_self, decide_true, Bool.not_true, cond_false, Bool.and_self, bind_some']
      cases ((List.length m.2.2 : Int) != m.1) <;> cases m.2.2.any (tpLen m.2.1) <;> cases (m.2.2.findSome? fun l => l.findSome? (tpRule m.1 m.2.1)) <;> rfl
    · simp [h1, h2, decide_eq_false h2]
  · simp [decide_eq_false h1]
theorem tp_ok {m : Int × Int × List (List (Int × Int × Int))} (h : tpAll m = 0) : (1 ≤ m.1 ∧ m.1 ≤ 5) ∧ (2 ≤ m.2.1 ∧ m.2.1 ≤ 4) ∧ (m.2.2.length : Int) = m.1 ∧ ∀ l ∈ m.2.2, (l.length : Int) = m.2.1 ∧ ∀ r ∈ l, (0 ≤ r.1 ∧ r.1 < m.2.1) ∧ (-1 ≤ r.2.1 ∧ r.2.1 ≤ 1) ∧ (0 ≤ r.2.2 ∧ r.2.2 ≤ m.1) := by
  unfold tpAll at h
  cases hc : (!(decide (1 ≤ m.1 ∧ m.1 ≤ 5) && decide (2 ≤ m.2.1 ∧ m.2.1 ≤ 4))) with
  | true => rw [hc] at h; cases h
  | false =>
    rw [hc] at h
    cases hl : ((List.length m.2.2 : Int) != m.1) with
    | true => rw [hl] at h; cases h
    | false =>
      rw [hl] at h
      cases ha : m.2.2.any (tpLen m.2.1) with
      | true => rw [ha] at h; cases h
      | false =>
        rw [ha] at h
        simp only [cond_false] at h
        simp only [Bool.not_eq_false', Bool.and_eq_true, decide_eq_true_eq] at hc
        refine ⟨hc.1, hc.2, by simpa using hl, fun l hm => ?_⟩
        have hlen := List.any_eq_false.1 ha l hm
        refine ⟨by unfold tpLen at hlen; simpa using hlen, fun r hr => ?_⟩
        have hval : ∀ (r : Int × Int × Int) e, tpRule m.1 m.2.1 r = some e → e ≠ 0 := by
          intro r e he h0
          subst h0
          unfold tpRule at he
          cases h1 : !decide (0 ≤ r.1 ∧ r.1 < m.2.1) <;> cases h2 : !decide (-1 ≤ r.2.1 ∧ r.2.1 ≤ 1) <;> cases h3 : !decide (0 ≤ r.2.2 ∧ r.2.2 ≤ m.1) <;> rw [h1, h2, h3] at he <;> simp at he
        cases hf : m.2.2.findSome? fun l => l.findSome? (tpRule m.1 m.2.1) with
        | some e =>
          rw [hf] at h
          obtain ⟨l', _, hl'⟩ := List.exists_of_findSome?_eq_some hf
          obtain ⟨r', _, hr'⟩ := List.exists_of_findSome?_eq_some hl'
          exact (hval r' e hr' h).elim
        | none =>
          have h1 := List.findSome?_eq_none_iff.1 hf l hm
          have h2 := List.findSome?_eq_none_iff.1 h1 r hr
          unfold tpRule at h2
          cases h3 : !decide (0 ≤ r.1 ∧ r.1 < m.2.1) with
          | true => rw [h3] at h2; cases h2
          | false =>
            rw [h3] at h2
            cases h4 : !decide (-1 ≤ r.2.1 ∧ r.2.1 ≤ 1) with
            | true => rw [h4] at h2; cases h2
            | false =>
              rw [h4] at h2
              cases h5 : !decide (0 ≤ r.2.2 ∧ r.2.2 ≤ m.1) with
              | true => rw [h5] at h2; cases h2
              | false =>
                simp only [Bool.not_eq_false', decide_eq_true_eq] at h3 h4 h5
                exact ⟨h3, h4, h5⟩

theorem TapeChecks_true (a0 : Int × (Int × List (List (Int × (Int × Int))))) (f0 : Fits (.pair (.int .i64) (.pair (.int .i64) (.slice (.slice (.pair (.int .i64) (.pair (.int .i64) (.int .i64))))))) a0) : law_TapeChecks a0 = some true := by
  unfold law_TapeChecks
  rw [tp_check, tp_rcheck]
  simp

end Go.Proofs.Ytpkbglckacoccaa.tapeChecks
namespace Go.Proofs.Ytpkbglckacoccaa.tapeChecks
open Go.ChangeShapes Go.WideShapes Go.ChangeAt Go.RowKit
open Go.ChangeMaps (open_string shut_string)
theorem own : ownKnob Try.prog.godebug = none := by kernel_rfl
theorem laidOut : laidOutB Try.prog = true := by kernel_rfl
theorem lifted (os : Os) (started : os.Started) (H : Type) (enc : TypeId × Value → H) :
    ReturnsInHanded {} Try.checked os 6 .any (Rows.tapeChecksSpec.pre6 enc Try.prog Try.f6 Rows.tapeChecksRow.domain false) (Rows.tapeChecksSpec.post enc Try.prog Try.f6 false true false false) := by
  refine returnsInHanded_of_change (C := Try.checked) own started (by kernel_rfl) Try.func6
    (ChangeSpec.witness6 (enc := enc) (C := Try.checked) false ⟨#[], #[.agg #[.int .i64 0, .int .i64 0, .slice none 0 0]], []⟩ 8 (by kernel_rfl) (by kernel_rfl) (by kernel_rfl) (by kernel_rfl)) ?_
  intro W base args ds gs before hval0 hW hcnd _
  have hval : ∀ (j : Nat) t v, Try.f6.params[j]? = some t → args[j]? = some v → Value.okWide Try.prog W .any base t v := hval0
  have hW' := hW
  obtain ⟨p, q, hA0, hV, rfl, hfz, hnd⟩ := hW
  have hA : DataW.TrodAll enc Try.prog W 0 (fun _ => true) true Try.f6.params.toList args.toList ds p := hA0
  rw [Try.params6] at hA hval
  obtain ⟨v0, vs0, d0, ds0, p0, q0, hargs, rfl, rfl, h0, r0⟩ := trodAll_cons hA
  obtain ⟨rfl, rfl, rfl⟩ := trodAll_nil r0
  obtain rfl : args = #[v0] := by cases args; simp_all
  obtain ⟨rfl, rfl⟩ := trodVars_none hV
  obtain ⟨x0, f0, k0⟩ := Go.Sl.read_arg (u := (.pair (.int .i64) (.pair (.int .i64) (.slice (.slice (.pair (.int .i64) (.pair (.int .i64) (.int .i64)))))))) (by kernel_rfl) (by kernel_rfl) (hval 0 39 v0 rfl rfl) h0
  have lt0 : ∀ x ∈ p0, x.block < W.heap.size := by obtain ⟨m, hm⟩ := h0; exact DataW.trod_lt m _ _ _ hm
  clear hA0 hval0
  have hm := TapeChecks_true x0 f0
  refine (Go.Sl.law_of (vs := [v0]) (law_TapeChecks_ok hm) rfl (.cons (k0 _ _) .nil)).mono fun e W' ⟨he, bel⟩ => ?_
  subst he
  exact ⟨_, rfl, _, _, _, [], _, [], hW', trodAll_mk1 (shut_bool Try.underlying4 _), (trodAll_cons_mk (Below.trod laidOut (by kernel_rfl) (of_decide_eq_true (by kernel_rfl)) h0 bel lt0) trodAll_mk0), rfl, bel.frame _, fun h => by cases h⟩
theorem proved : Rows.TapeChecksSaid :=
  OpenClaim.holds_of_wide 6 Try.f6 rfl rfl rfl rfl rfl rfl rfl ⟨rfl, rfl, rfl, rfl, rfl⟩ rfl rfl rfl rfl rfl (by kernel_rfl) Try.func6 (by kernel_rfl)
    (of_decide_eq_true (by kernel_rfl)) (by unfold Func.isWrapper; first | (rw [if_pos (by decide +kernel)]; kernel_rfl) | (rw [if_neg (by decide +kernel)]; exact ⟨rfl, rfl⟩))
    (fun os started H enc _ => lifted os started H enc)
#print axioms proved
end Go.Proofs.Ytpkbglckacoccaa.tapeChecks
