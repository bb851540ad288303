/- For any orders count.Check returns the specified error code: CountChecks returns true and changes nothing; no conditions. -/
import Derived.Test.YtmongadolmofnaaRows
import Derived.WalkKit
import Derived.ProofKit
import Derived.OpenShut
import Derived.ShutString
import Derived.ChangeOld
import Derived.Below
import Derived.Test.YtmongadolmofnaaCountChecksM
set_option linter.all false
set_option maxRecDepth 100000
namespace Go.Proofs.Ytmongadolmofnaa.countChecks
open Go Go.Sl

theorem cc_within (a b c : Int) : ref_Within a b c = some (decide (a ≤ b ∧ b ≤ c)) := by
  unfold ref_Within
  rw [Bool.decide_and]
theorem cc_inside (n v : Int) : ref_Inside n [v] = some (decide (0 ≤ v ∧ v < n)) := by
  unfold ref_Inside
  by_cases h : 0 ≤ v ∧ v < n
  · have : ref_Inside_b1 n 0 v () = some (.next ()) := by
      unfold ref_Inside_b1
      rw [bif_f (by simp only [Bool.or_eq_false_iff, decide_eq_false_iff_not]; omega)]
    simp [forL, this, h]
  · have : ref_Inside_b1 n 0 v () = some (.done (.ret false)) := by
      unfold ref_Inside_b1
      rw [bif_t (by simp only [Bool.or_eq_true, decide_eq_true_eq]; omega)]
    simp [forL, this, h]
theorem cc_there (v : Int) (l : List (Int × (Int × (Int × Int)))) : count_Check_1 v l = some (decide (0 ≤ v ∧ v < (l.length : Int) + 1)) := by
  unfold count_Check_1
  congr 1
  rw [← Bool.decide_and]
  exact decide_eq_decide.2 (by omega)
theorem cc_body (a0 : Int) (a1 : List (Int × (Int × (Int × Int)))) (h : a1.length ≤ 12) : count_Check_b13 a0 a1 = ref_OrdersCheck_b10 a0 a1 := by
  funext i v x
  have hw : w64 ((a1.length : Int) + 1) = (a1.length : Int) + 1 := w64_id (by omega) (by omega)
  unfold count_Check_b13 ref_OrdersCheck_b10 count_Check_g9 ref_OrdersCheck_g7
  rw [hw, cc_inside, cc_inside, cc_inside, cc_there, cc_there]
  have e : (bif decide (v.2.1 < (0 : Int)) then (some true) else (some (decide (v.2.1 ≥ a0)))) = some (!decide (0 ≤ v.2.1 ∧ v.2.1 < a0)) := by
    by_cases h1 : v.2.1 < 0
    · simp [h1]
    · by_cases h2 : v.2.1 < a0
      · simp [h1, h2, Int.not_lt.1 h1]
      · simp [h1, h2]; omega
  rw [e]
  rfl
theorem CountChecks_true (a0 : Int) (a1 : List (Int × (Int × (Int × Int)))) (f0 : Fits (.int .i64) a0) (f1 : Fits (.slice (.pair (.int .i64) (.pair (.int .i64) (.pair (.int .i64) (.int .i64))))) a1) : law_CountChecks a0 a1 = some true := by
  by_cases h : (1 ≤ a0 ∧ a0 ≤ 4) ∧ 1 ≤ (a1.length : Int) ∧ (a1.length : Int) ≤ 12
  · have hb : ((((decide (a0 < (1 : Int))) || (decide (a0 > (4 : Int)))) || (decide ((List.length a1 : Int) < (1 : Int)))) || (decide ((List.length a1 : Int) > (12 : Int)))) = false := by
      simp only [Bool.or_eq_false_iff, decide_eq_false_iff_not]; omega
    have hg : ref_CountCheck_g1 a0 a1 = some false := by
      unfold ref_CountCheck_g1; rw [cc_within, cc_within]; simp [h]
    have hbody := cc_body a0 a1 (by omega)
    obtain ⟨y, hy, _⟩ := forL_inv (body := ref_OrdersCheck_b10 a0 a1) (fin := fun _ => (Esc.brk () : Esc Int Unit)) (l := a1) (x := ()) (fun _ _ => True) (fun _ => True) trivial
      (fun n v x _ _ => by
        have hw : w64 ((a1.length : Int) + 1) = (a1.length : Int) + 1 := w64_id (by omega) (by omega)
        unfold ref_OrdersCheck_b10 ref_OrdersCheck_g7
        rw [hw, cc_inside, cc_inside, cc_inside]
        cases (v.1 != (1 : Int)) <;> cases (v.1 != (2 : Int)) <;> cases (decide (0 ≤ v.2.1 ∧ v.2.1 < a0)) <;> cases (decide (0 ≤ v.2.2.1 ∧ v.2.2.1 < (a1.length : Int) + 1)) <;> cases (v.1 == (2 : Int)) <;> cases (decide (0 ≤ v.2.2.2 ∧ v.2.2.2 < (a1.length : Int) + 1)) <;> exact ⟨_, rfl, trivial⟩)
      (fun _ _ => trivial)
    have h1 : count_Check a0 a1 = ref_OrdersCheck a0 a1 := by
      unfold count_Check ref_OrdersCheck
      rw [bif_f hb, hbody]
    have h2 : ref_CountCheck a0 a1 = ref_OrdersCheck a0 a1 := by
      unfold ref_CountCheck
      rw [hg]
      cases ref_OrdersCheck a0 a1 <;> rfl
    have h3 : ∃ z, ref_OrdersCheck a0 a1 = some z := by
      unfold ref_OrdersCheck
      rw [hy]
      cases y <;> exact ⟨_, rfl⟩
    obtain ⟨z, hz⟩ := h3
    unfold law_CountChecks
    rw [h1, h2, hz]
    simp
  · have hb : ((((decide (a0 < (1 : Int))) || (decide (a0 > (4 : Int)))) || (decide ((List.length a1 : Int) < (1 : Int)))) || (decide ((List.length a1 : Int) > (12 : Int)))) = true := by
      simp only [Bool.or_eq_true, decide_eq_true_eq]; omega
    have hg : ref_CountCheck_g1 a0 a1 = some true := by
      unfold ref_CountCheck_g1; rw [cc_within, cc_within]
      by_cases h1 : 1 ≤ a0 ∧ a0 ≤ 4
      · have h2 : ¬ (1 ≤ (a1.length : Int) ∧ (a1.length : Int) ≤ 12) := fun hh => h ⟨h1, hh⟩
        have e1 : decide (1 ≤ a0 ∧ a0 ≤ 4) = true := decide_eq_true h1
        have e2 : decide (1 ≤ (a1.length : Int) ∧ (a1.length : Int) ≤ 12) = false := decide_eq_false h2
        rw [e1, e2]; rfl
      · have e1 : decide (1 ≤ a0 ∧ a0 ≤ 4) = false := decide_eq_false h1
        rw [e1]; rfl
    unfold law_CountChecks count_Check ref_CountCheck
    rw [bif_t hb, hg]
    rfl

end Go.Proofs.Ytmongadolmofnaa.countChecks
namespace Go.Proofs.Ytmongadolmofnaa.countChecks
open Go.ChangeShapes Go.WideShapes Go.ChangeAt Go.RowKit
open Go.ChangeMaps (open_string shut_string)
theorem own : ownKnob Try.prog.godebug = none := by kernel_rfl
theorem laidOut : laidOutB Try.prog = true := by kernel_rfl
theorem lifted (os : Os) (started : os.Started) (H : Type) (enc : TypeId × Value → H) :
    ReturnsInHanded {} Try.checked os 9 .any (Rows.countChecksSpec.pre6 enc Try.prog Try.f9 Rows.countChecksRow.domain false) (Rows.countChecksSpec.post enc Try.prog Try.f9 false true false false) := by
  refine returnsInHanded_of_change (C := Try.checked) own started (by kernel_rfl) Try.func9
    (ChangeSpec.witness6 (enc := enc) (C := Try.checked) false ⟨#[], #[.int .i64 0, .slice none 0 0], []⟩ 8 (by kernel_rfl) (by kernel_rfl) (by kernel_rfl) (by kernel_rfl)) ?_
  intro W base args ds gs before hval0 hW hcnd _
  have hval : ∀ (j : Nat) t v, Try.f9.params[j]? = some t → args[j]? = some v → Value.okWide Try.prog W .any base t v := hval0
  have hW' := hW
  obtain ⟨p, q, hA0, hV, rfl, hfz, hnd⟩ := hW
  have hA : DataW.TrodAll enc Try.prog W 0 (fun _ => true) true Try.f9.params.toList args.toList ds p := hA0
  rw [Try.params9] at hA hval
  obtain ⟨v0, vs0, d0, ds0, p0, q0, hargs, rfl, rfl, h0, r0⟩ := trodAll_cons hA
  obtain ⟨v1, vs1, d1, ds1, p1, q1, rfl, rfl, rfl, h1, r1⟩ := trodAll_cons r0
  obtain ⟨rfl, rfl, rfl⟩ := trodAll_nil r1
  obtain rfl : args = #[v0, v1] := by cases args; simp_all
  obtain ⟨rfl, rfl⟩ := trodVars_none hV
  obtain ⟨x0, f0, k0⟩ := Go.Sl.read_arg (u := (.int .i64)) (by kernel_rfl) (by kernel_rfl) (hval 0 3 v0 rfl rfl) h0
  have lt0 : ∀ x ∈ p0, x.block < W.heap.size := by obtain ⟨m, hm⟩ := h0; exact DataW.trod_lt m _ _ _ hm
  obtain ⟨x1, f1, k1⟩ := Go.Sl.read_arg (u := (.slice (.pair (.int .i64) (.pair (.int .i64) (.pair (.int .i64) (.int .i64)))))) (by kernel_rfl) (by kernel_rfl) (hval 1 42 v1 rfl rfl) h1
  have lt1 : ∀ x ∈ p1, x.block < W.heap.size := by obtain ⟨m, hm⟩ := h1; exact DataW.trod_lt m _ _ _ hm
  clear hA0 hval0
  have hm := CountChecks_true x0 x1 f0 f1
  refine (Go.Sl.law_of (vs := [v0, v1]) (law_CountChecks_ok hm) rfl (.cons (k0 _ _) (.cons (k1 _ _) .nil))).mono fun e W' ⟨he, bel⟩ => ?_
  subst he
  exact ⟨_, rfl, _, _, _, [], _, [], hW', trodAll_mk1 (shut_bool Try.underlying4 _), (trodAll_cons_mk (Below.trod laidOut (by kernel_rfl) (of_decide_eq_true (by kernel_rfl)) h0 bel lt0) (trodAll_cons_mk (Below.trod laidOut (by kernel_rfl) (of_decide_eq_true (by kernel_rfl)) h1 bel lt1) trodAll_mk0)), rfl, bel.frame _, fun h => by cases h⟩
theorem proved : Rows.CountChecksSaid :=
  OpenClaim.holds_of_wide 9 Try.f9 rfl rfl rfl rfl rfl rfl rfl ⟨rfl, rfl, rfl, rfl, rfl⟩ rfl rfl rfl rfl rfl (by kernel_rfl) Try.func9 (by kernel_rfl)
    (of_decide_eq_true (by kernel_rfl)) (by unfold Func.isWrapper; first | (rw [if_pos (by decide +kernel)]; kernel_rfl) | (rw [if_neg (by decide +kernel)]; exact ⟨rfl, rfl⟩))
    (fun os started H enc _ => lifted os started H enc)
#print axioms proved
end Go.Proofs.Ytmongadolmofnaa.countChecks
