/- For any orders code.Number returns the specified results: CodeNumbers returns true and changes nothing; no conditions. -/
import Derived.Test.YtjfebcfcfbbmoaaRows
import Derived.WalkKit
import Derived.ProofKit
import Derived.OpenShut
import Derived.ShutString
import Derived.ChangeOld
import Derived.Below
import Derived.Test.YtjfebcfcfbbmoaaCodeNumbersM
set_option linter.all false
set_option maxRecDepth 100000
namespace Go.Proofs.Ytjfebcfcfbbmoaa.codeNumbers
open Go Go.Sl

def oc (a0 n : Int) (v : Int × Int × Int × Int) : Option Int :=
  if v.1 ≠ 1 ∧ v.1 ≠ 2 then some 6 else if ¬ (0 ≤ v.2.1 ∧ v.2.1 < a0) then some 2
  else if ¬ (0 ≤ v.2.2.1 ∧ v.2.2.1 < n) ∨ v.1 = 2 ∧ ¬ (0 ≤ v.2.2.2 ∧ v.2.2.2 < n) then some 3 else none
theorem oc_inside (n v : Int) : ref_Inside n [v] = some (decide (0 ≤ v ∧ v < n)) := by
  unfold ref_Inside
  rw [forL_ex (p := fun v => decide (v < 0) || decide (v ≥ n)) (y := Esc.ret false) (fun i a _ => by unfold ref_Inside_b1; cases (decide (a < 0) || decide (a ≥ n)) <;> rfl)]
  by_cases h : 0 ≤ v ∧ v < n
  · have : (decide (v < 0) || decide (v ≥ n)) = false := by simp only [Bool.or_eq_false_iff, decide_eq_false_iff_not]; omega
    simp [this, h]
  · have : (decide (v < 0) || decide (v ≥ n)) = true := by simp only [Bool.or_eq_true, decide_eq_true_eq]; omega
    simp [this, h]
theorem oc_ref_body (a0 : Int) (l : List (Int × Int × Int × Int)) (h : l.length ≤ 1000000) (i : Int) (v : Int × Int × Int × Int) :
    ref_OrdersCheck_b10 a0 l i v () = some (said Esc.ret (oc a0 (l.length + 1) v)) := by
  have hw : w64 ((l.length : Int) + 1) = (l.length : Int) + 1 := w64_id (by omega) (by omega)
  unfold ref_OrdersCheck_b10 ref_OrdersCheck_g7 oc said
  rw [hw, oc_inside, oc_inside, oc_inside]
  by_cases h1 : v.1 = 1
  · by_cases h2 : 0 ≤ v.2.1 ∧ v.2.1 < a0 <;> by_cases h3 : 0 ≤ v.2.2.1 ∧ v.2.2.1 < (l.length : Int) + 1 <;> simp [h1, h2, h3]
  · by_cases h4 : v.1 = 2
    · by_cases h2 : 0 ≤ v.2.1 ∧ v.2.1 < a0 <;> by_cases h3 : 0 ≤ v.2.2.1 ∧ v.2.2.1 < (l.length : Int) + 1 <;> by_cases h5 : 0 ≤ v.2.2.2 ∧ v.2.2.2 < (l.length : Int) + 1 <;> simp [h2, h3, h4, h5]
    · simp [h1, h4, bne_dec]
theorem oc_ref (a0 : Int) (l : List (Int × Int × Int × Int)) (h : l.length ≤ 1000000) : ref_OrdersCheck a0 l = some ((l.findSome? (oc a0 (l.length + 1))).getD 0) := by
  unfold ref_OrdersCheck
  rw [forL_find (f := oc a0 (l.length + 1)) (g := Esc.ret) (fun i a _ => oc_ref_body a0 l h i a)]
  cases l.findSome? (oc a0 (l.length + 1)) <;> rfl
theorem oc_ok {a0 : Int} {l : List (Int × Int × Int × Int)} (h : (l.findSome? (oc a0 (l.length + 1))).getD 0 = 0) : ∀ v ∈ l, (v.1 = 1 ∨ v.1 = 2) ∧ (0 ≤ v.2.1 ∧ v.2.1 < a0) ∧ (0 ≤ v.2.2.1 ∧ v.2.2.1 ≤ l.length) ∧ (v.1 = 2 → 0 ≤ v.2.2.2 ∧ v.2.2.2 ≤ l.length) := by
  cases hf : l.findSome? (oc a0 (l.length + 1)) with
  | some e =>
    rw [hf] at h
    obtain ⟨v, _, hv⟩ := List.exists_of_findSome?_eq_some hf
    unfold oc at hv
    have he : e = 0 := h
    subst he
    repeat' split at hv
    all_goals simp at hv
  | none =>
    rw [List.findSome?_eq_none_iff] at hf
    intro v hv
    have := hf v hv
    unfold oc at this
    split at this
    · simp at this
    · split at this
      · simp at this
      · split at this
        · simp at this
        · rename_i h1 h2 h3
          refine ⟨by omega, by omega, by omega, fun h4 => by omega⟩
theorem oc_within (a b c : Int) : ref_Within a b c = some (decide (a ≤ b ∧ b ≤ c)) := by
  unfold ref_Within
  rw [Bool.decide_and]
theorem oc_count_body (a0 : Int) (l : List (Int × Int × Int × Int)) (h : l.length ≤ 12) : count_Check_b13 a0 l = ref_OrdersCheck_b10 a0 l := by
  funext i v x
  have hw : w64 ((l.length : Int) + 1) = (l.length : Int) + 1 := w64_id (by omega) (by omega)
  have ht : ∀ u : Int, count_Check_1 u l = some (decide (0 ≤ u ∧ u < (l.length : Int) + 1)) := by
    intro u
    unfold count_Check_1
    congr 1
    rw [← Bool.decide_and]
    exact decide_eq_decide.2 (by omega)
  unfold count_Check_b13 ref_OrdersCheck_b10 count_Check_g9 ref_OrdersCheck_g7
  rw [hw, oc_inside, oc_inside, oc_inside, ht, ht]
  have e : (bif decide (v.2.1 < (0 : Int)) then (some true) else (some (decide (v.2.1 ≥ a0)))) = some (!decide (0 ≤ v.2.1 ∧ v.2.1 < a0)) := by
    by_cases h1 : v.2.1 < 0
    · simp [h1]
    · by_cases h2 : v.2.1 < a0
      · simp [h1, h2, Int.not_lt.1 h1]
      · simp [h1, h2]; omega
  rw [e]
  rfl
def ocAll (a0 : Int) (l : List (Int × Int × Int × Int)) : Int :=
  if (1 ≤ a0 ∧ a0 ≤ 4) ∧ 1 ≤ (l.length : Int) ∧ (l.length : Int) ≤ 12 then (l.findSome? (oc a0 (l.length + 1))).getD 0 else 1
theorem oc_countcheck (a0 : Int) (l : List (Int × Int × Int × Int)) : ref_CountCheck a0 l = some (ocAll a0 l) := by
  unfold ref_CountCheck ref_CountCheck_g1 ocAll
  rw [oc_within, oc_within]
  by_cases h1 : 1 ≤ a0 ∧ a0 ≤ 4
  · by_cases h2 : 1 ≤ (l.length : Int) ∧ (l.length : Int) ≤ 12
    · rw [oc_ref a0 l (by omega), if_pos ⟨h1, h2⟩, decide_eq_true h1, decide_eq_true h2]; rfl
    · rw [if_neg (fun h => h2 h.2), decide_eq_true h1, decide_eq_false h2]; rfl
  · rw [if_neg (fun h => h1 h.1), decide_eq_false h1]; rfl
theorem oc_check (a0 : Int) (l : List (Int × Int × Int × Int)) : count_Check a0 l = some (ocAll a0 l) := by
  rw [← oc_countcheck]
  unfold count_Check
  by_cases h : (1 ≤ a0 ∧ a0 ≤ 4) ∧ 1 ≤ (l.length : Int) ∧ (l.length : Int) ≤ 12
  · have hb : ((((decide (a0 < (1 : Int))) || (decide (a0 > (4 : Int)))) || (decide ((List.length l : Int) < (1 : Int)))) || (decide ((List.length l : Int) > (12 : Int)))) = false := by
      simp only [Bool.or_eq_false_iff, decide_eq_false_iff_not]; omega
    rw [bif_f hb, oc_count_body a0 l (by omega), oc_countcheck]
    unfold ocAll
    rw [if_pos h, ← oc_ref a0 l (by omega)]
    rfl
  · have hb : ((((decide (a0 < (1 : Int))) || (decide (a0 > (4 : Int)))) || (decide ((List.length l : Int) < (1 : Int)))) || (decide ((List.length l : Int) > (12 : Int)))) = true := by
      simp only [Bool.or_eq_true, decide_eq_true_eq]; omega
    rw [bif_t hb, oc_countcheck]
    unfold ocAll
    rw [if_neg h]
theorem oc_valid {a0 : Int} {l : List (Int × Int × Int × Int)} (h : ocAll a0 l = 0) : ((1 ≤ a0 ∧ a0 ≤ 4) ∧ 1 ≤ (l.length : Int) ∧ (l.length : Int) ≤ 12) ∧
    ∀ v ∈ l, (v.1 = 1 ∨ v.1 = 2) ∧ (0 ≤ v.2.1 ∧ v.2.1 < a0) ∧ (0 ≤ v.2.2.1 ∧ v.2.2.1 ≤ l.length) ∧ (v.1 = 2 → 0 ≤ v.2.2.2 ∧ v.2.2.2 ≤ l.length) := by
  unfold ocAll at h
  split at h
  · rename_i hc
    exact ⟨hc, oc_ok h⟩
  · omega

theorem ref_Ints_eq (a b : List Int) : ref_Ints a b = some (decide (a = b)) := by
  unfold ref_Ints
  rw [len_ne]
  by_cases h : a.length = b.length
  · rw [forL_eqs (q := b) (fun n a c hc => by
      unfold ref_Ints_b1
      rw [idx_nat, hc]
      by_cases h : a = c <;> simp [h, bne_dec]) h]
    by_cases h2 : a = b <;> simp [h2, h]
  · have : ¬ a = b := fun e => h (by rw [e])
    simp [h, this]

theorem CodeNumbers_true (a0 : Int) (a1 : List (Int × (Int × (Int × Int)))) (f0 : Fits (.int .i64) a0) (f1 : Fits (.slice (.pair (.int .i64) (.pair (.int .i64) (.pair (.int .i64) (.int .i64))))) a1) : law_CodeNumbers a0 a1 = some true := by
  unfold law_CodeNumbers code_Number
  rw [oc_check, oc_countcheck]
  simp only [bind_some']
  by_cases h : ocAll a0 a1 = 0
  · have h1 := (oc_valid h).1
    have key : ∃ y, forL code_digits_b7 (fun x => x) a1 0 [] = some y ∧ True := by
      refine forL_inv (fun (n : Nat) (x : List Int) => x.length = 4 * n) (fun _ => True) rfl (fun n v x hn hx => ?_) (fun _ _ => trivial)
      have hnl := (List.getElem?_eq_some_iff.1 hn).1
      unfold code_digits_b7
      cases (v.1 == (1 : Int)) with
      | true =>
        refine ⟨.next (x ++ [v.1, v.2.1, v.2.2.1, 0]), ?_, by dsimp only; rw [List.length_append, hx]; simp; omega⟩
        rw [cond_true, bind_some', ck_ok (by omega), bind_some']
      | false =>
        refine ⟨.next (x ++ [v.1, v.2.1, v.2.2.1, v.2.2.2]), ?_, by dsimp only; rw [List.length_append, hx]; simp; omega⟩
        rw [cond_false, bind_some', ck_ok (by omega), bind_some']
    obtain ⟨y, hy, _⟩ := key
    have e2 : forL law_CodeNumbers_b7 (fun x => x) a1 0 [] = some y := hy
    have e3 : code_digits a1 = some y := by unfold code_digits; rw [hy, bind_some']
    rw [h, e2, e3]
    simp [ref_Ints_eq]
  · have e1 : (ocAll a0 a1 != 0) = true := by simp [h]
    rw [e1]
    simp [e1, h]

end Go.Proofs.Ytjfebcfcfbbmoaa.codeNumbers
namespace Go.Proofs.Ytjfebcfcfbbmoaa.codeNumbers
open Go.ChangeShapes Go.WideShapes Go.ChangeAt Go.RowKit
open Go.ChangeMaps (open_string shut_string)
theorem own : ownKnob Try.prog.godebug = none := by kernel_rfl
theorem laidOut : laidOutB Try.prog = true := by kernel_rfl
theorem lifted (os : Os) (started : os.Started) (H : Type) (enc : TypeId × Value → H) :
    ReturnsInHanded {} Try.checked os 3 .any (Rows.codeNumbersSpec.pre6 enc Try.prog Try.f3 Rows.codeNumbersRow.domain false) (Rows.codeNumbersSpec.post enc Try.prog Try.f3 false true false false) := by
  refine returnsInHanded_of_change (C := Try.checked) own started (by kernel_rfl) Try.func3
    (ChangeSpec.witness6 (enc := enc) (C := Try.checked) false ⟨#[], #[.int .i64 0, .slice none 0 0], []⟩ 8 (by kernel_rfl) (by kernel_rfl) (by kernel_rfl) (by kernel_rfl)) ?_
  intro W base args ds gs before hval0 hW hcnd _
  have hval : ∀ (j : Nat) t v, Try.f3.params[j]? = some t → args[j]? = some v → Value.okWide Try.prog W .any base t v := hval0
  have hW' := hW
  obtain ⟨p, q, hA0, hV, rfl, hfz, hnd⟩ := hW
  have hA : DataW.TrodAll enc Try.prog W 0 (fun _ => true) true Try.f3.params.toList args.toList ds p := hA0
  rw [Try.params3] at hA hval
  obtain ⟨v0, vs0, d0, ds0, p0, q0, hargs, rfl, rfl, h0, r0⟩ := trodAll_cons hA
  obtain ⟨v1, vs1, d1, ds1, p1, q1, rfl, rfl, rfl, h1, r1⟩ := trodAll_cons r0
  obtain ⟨rfl, rfl, rfl⟩ := trodAll_nil r1
  obtain rfl : args = #[v0, v1] := by cases args; simp_all
  obtain ⟨rfl, rfl⟩ := trodVars_none hV
  obtain ⟨x0, f0, k0⟩ := Go.Sl.read_arg (u := (.int .i64)) (by kernel_rfl) (by kernel_rfl) (hval 0 3 v0 rfl rfl) h0
  have lt0 : ∀ x ∈ p0, x.block < W.heap.size := by obtain ⟨m, hm⟩ := h0; exact DataW.trod_lt m _ _ _ hm
  obtain ⟨x1, f1, k1⟩ := Go.Sl.read_arg (u := (.slice (.pair (.int .i64) (.pair (.int .i64) (.pair (.int .i64) (.int .i64)))))) (by kernel_rfl) (by kernel_rfl) (hval 1 22 v1 rfl rfl) h1
  have lt1 : ∀ x ∈ p1, x.block < W.heap.size := by obtain ⟨m, hm⟩ := h1; exact DataW.trod_lt m _ _ _ hm
  clear hA0 hval0
  have hm := CodeNumbers_true x0 x1 f0 f1
  refine (Go.Sl.law_of (vs := [v0, v1]) (law_CodeNumbers_ok hm) rfl (.cons (k0 _ _) (.cons (k1 _ _) .nil))).mono fun e W' ⟨he, bel⟩ => ?_
  subst he
  exact ⟨_, rfl, _, _, _, [], _, [], hW', trodAll_mk1 (shut_bool Try.underlying4 _), (trodAll_cons_mk (Below.trod laidOut (by kernel_rfl) (of_decide_eq_true (by kernel_rfl)) h0 bel lt0) (trodAll_cons_mk (Below.trod laidOut (by kernel_rfl) (of_decide_eq_true (by kernel_rfl)) h1 bel lt1) trodAll_mk0)), rfl, bel.frame _, fun h => by cases h⟩
theorem proved : Rows.CodeNumbersSaid :=
  OpenClaim.holds_of_wide 3 Try.f3 rfl rfl rfl rfl rfl rfl rfl ⟨rfl, rfl, rfl, rfl, rfl⟩ rfl rfl rfl rfl rfl (by kernel_rfl) Try.func3 (by kernel_rfl)
    (of_decide_eq_true (by kernel_rfl)) (by unfold Func.isWrapper; first | (rw [if_pos (by decide +kernel)]; kernel_rfl) | (rw [if_neg (by decide +kernel)]; exact ⟨rfl, rfl⟩))
    (fun os started H enc _ => lifted os started H enc)
#print axioms proved
end Go.Proofs.Ytjfebcfcfbbmoaa.codeNumbers
