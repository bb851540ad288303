/- For any dimension, list and weight wave.Blur returns the specified results: WaveBlurs returns true and changes nothing; no conditions. -/
import Derived.Test.YtbicjcdenfcojaaRows
import Derived.WalkKit
import Derived.ProofKit
import Derived.OpenShut
import Derived.ShutString
import Derived.ChangeOld
import Derived.Below
import Derived.Test.YtbicjcdenfcojaaWaveBlursM
set_option linter.all false
set_option maxRecDepth 100000
namespace Go.Proofs.Ytbicjcdenfcojaa.waveBlurs
open Go Go.Sl

theorem within_eq (a b c : Int) : ref_Within a b c = some (decide (a ≤ b ∧ b ≤ c)) := by
  unfold ref_Within
  rw [Bool.decide_and]

theorem ref_Ints_eq (a b : List Int) : ref_Ints a b = some (decide (a = b)) := by
  unfold ref_Ints
  rw [len_ne]
  by_cases h : a.length = b.length
  · rw [forL_eqs (q := b) (fun n a c hc => by
      unfold ref_Ints_b1
      rw [idx_nat, hc]
      by_cases h : a = c <;> simp [h, bne_dec]) h]
    by_cases h2 : a = b <;> simp [h2, h]
  · have : ¬ a = b := fun e => h (by rw [e])
    simp [h, this]

theorem ww_val (n : Int) : w64 n = if n % 18446744073709551616 ≥ 9223372036854775808 then n % 18446744073709551616 - 18446744073709551616 else n % 18446744073709551616 := by
  unfold w64 IntKind.wrap
  simp only [IntKind.bits, IntKind.signed, Bool.true_and, Int.reducePow, Nat.reduceSub]
  split
  · rename_i h; have h := of_decide_eq_true h; rw [if_pos (by omega)]
  · rename_i h; have h := of_decide_eq_false (eq_false_of_ne_true h); rw [if_neg (by omega)]
theorem ww_mod (n : Int) : w64 n % 18446744073709551616 = n % 18446744073709551616 := by
  rw [ww_val]; split <;> omega
theorem ww_eq {a b : Int} (h : a % 18446744073709551616 = b % 18446744073709551616) : w64 a = w64 b := by
  rw [ww_val, ww_val, h]
theorem ww_al (a b : Int) : w64 (w64 a + b) = w64 (a + b) := ww_eq (by have := ww_mod a; omega)
theorem ww_ar (a b : Int) : w64 (a + w64 b) = w64 (a + b) := ww_eq (by have := ww_mod b; omega)
theorem ww_sl (a b : Int) : w64 (w64 a - b) = w64 (a - b) := ww_eq (by have := ww_mod a; omega)
theorem ww_sr (a b : Int) : w64 (a - w64 b) = w64 (a - b) := ww_eq (by have := ww_mod b; omega)
theorem wt_len0 {l : List Int} (h : l.length = 1) : ∃ x0, l = [x0] := by
  match l, h with
  | [x0], _ => exact ⟨x0, rfl⟩
theorem wt_len1 {l : List Int} (h : l.length = 2) : ∃ x0 x1, l = [x0, x1] := by
  match l, h with
  | [x0, x1], _ => exact ⟨x0, x1, rfl⟩
theorem wt_len2 {l : List Int} (h : l.length = 4) : ∃ x0 x1 x2 x3, l = [x0, x1, x2, x3] := by
  match l, h with
  | [x0, x1, x2, x3], _ => exact ⟨x0, x1, x2, x3, rfl⟩
theorem wt_len3 {l : List Int} (h : l.length = 8) : ∃ x0 x1 x2 x3 x4 x5 x6 x7, l = [x0, x1, x2, x3, x4, x5, x6, x7] := by
  match l, h with
  | [x0, x1, x2, x3, x4, x5, x6, x7], _ => exact ⟨x0, x1, x2, x3, x4, x5, x6, x7, rfl⟩
theorem wt_len4 {l : List Int} (h : l.length = 16) : ∃ x0 x1 x2 x3 x4 x5 x6 x7 x8 x9 x10 x11 x12 x13 x14 x15, l = [x0, x1, x2, x3, x4, x5, x6, x7, x8, x9, x10, x11, x12, x13, x14, x15] := by
  match l, h with
  | [x0, x1, x2, x3, x4, x5, x6, x7, x8, x9, x10, x11, x12, x13, x14, x15], _ => exact ⟨x0, x1, x2, x3, x4, x5, x6, x7, x8, x9, x10, x11, x12, x13, x14, x15, rfl⟩
def wvb (v : Int) : Bool := decide (v < -1000000000) || decide (v > 1000000000)
theorem wt_bad (l : List Int) : slices_ContainsFunc_Lintint_with_wave_wrong_1 l = some (l.any wvb) := by
  unfold slices_ContainsFunc_Lintint_with_wave_wrong_1 slices_IndexFunc_Lintint_with_wave_wrong_1
  rcases forL_at (body := slices_IndexFunc_Lintint_with_wave_wrong_1_b1) (fin := fun _ => (Esc.brk () : Esc Int Unit)) (p := wvb) (g := fun j => Esc.ret j) (l := l)
    (fun i a _ => by unfold slices_IndexFunc_Lintint_with_wave_wrong_1_b1 wave_wrong_1 wvb; cases (decide (a < -1000000000) || decide (a > 1000000000)) <;> rfl) (i := 0) with ⟨h1, h2⟩ | ⟨h1, j, h2, h3, h4⟩
  · rw [h2, h1]; rfl
  · rw [h4, h1]
    simp [h2]
def wtc (a0 : Int) (l : List Int) : Int := if ¬ (0 ≤ a0 ∧ a0 ≤ 4) then 1 else if l.length ≠ 2 ^ a0.toNat then 3 else bif l.any wvb then 4 else 0
theorem wt_len {l : List Int} {k : Nat} (h : k ≤ 4) : ((l.length : Int) != bShl .i64 1 (k : Int)) = !decide (l.length = 2 ^ k) := by
  rw [bShl_one (by omega), bne_dec, not_dec]
  exact decide_eq_decide.2 (by omega)
theorem wt_wrong (a0 : Int) (l : List Int) : wave_wrong a0 l = some (wtc a0 l) := by
  unfold wave_wrong wtc
  have e1 : ((decide (a0 < (0 : Int))) || (decide (a0 > (4 : Int)))) = !decide (0 ≤ a0 ∧ a0 ≤ 4) := by
    rw [or_dec, not_dec]; exact decide_eq_decide.2 (by omega)
  rw [e1, wt_bad]
  by_cases h : 0 ≤ a0 ∧ a0 ≤ 4
  · obtain ⟨k, rfl⟩ := Int.eq_ofNat_of_zero_le h.1
    rw [ck_ok (by omega), wt_len (by omega), decide_eq_true h, if_neg (by omega), Int.toNat_natCast]
    by_cases hl : l.length = 2 ^ k
    · rw [if_neg (by omega), decide_eq_true hl]
      cases l.any wvb <;> rfl
    · rw [if_pos hl, decide_eq_false hl]; rfl
  · rw [if_pos h, decide_eq_false h]; rfl
theorem wt_check (a0 : Int) (l : List Int) : ref_WaveCheck a0 l = some (wtc a0 l) := by
  unfold ref_WaveCheck wtc
  rw [within_eq]
  rw [forL_ex (p := wvb) (y := Esc.ret 4) (fun i a _ => by
    unfold ref_WaveCheck_b1 wvb
    rw [within_eq]
    have : (decide (a < -1000000000) || decide (a > 1000000000)) = !decide (-1000000000 ≤ a ∧ a ≤ 1000000000) := by
      rw [or_dec, not_dec]; exact decide_eq_decide.2 (by omega)
    rw [this]
    cases decide (-1000000000 ≤ a ∧ a ≤ 1000000000) <;> rfl)]
  by_cases h : 0 ≤ a0 ∧ a0 ≤ 4
  · obtain ⟨k, rfl⟩ := Int.eq_ofNat_of_zero_le h.1
    rw [wrap_u64 (n := (k : Int)) (by omega) (by omega), ck_ok (by omega), wt_len (by omega), decide_eq_true h, if_neg (by omega), Int.toNat_natCast]
    by_cases hl : l.length = 2 ^ k
    · rw [if_neg (by omega), decide_eq_true hl]
      cases l.any wvb <;> rfl
    · rw [if_pos hl, decide_eq_false hl]; rfl
  · rw [if_pos h, decide_eq_false h]; rfl
theorem wt_valid {a0 : Int} {l : List Int} (h : wtc a0 l = 0) : ∃ k : Nat, k ≤ 4 ∧ a0 = (k : Int) ∧ l.length = 2 ^ k ∧ ∀ v ∈ l, -1000000000 ≤ v ∧ v ≤ 1000000000 := by
  unfold wtc at h
  split at h
  · omega
  · split at h
    · omega
    · rename_i h1 h2
      refine ⟨a0.toNat, by omega, by omega, by omega, fun v hv => ?_⟩
      cases hb : l.any wvb with
      | true => rw [hb] at h; cases h
      | false =>
        have := List.any_eq_false.1 hb v hv
        unfold wvb at this
        simp only [Bool.or_eq_true, decide_eq_true_eq, not_or] at this
        omega

theorem ww_mr (k a b : Int) : w64 (a + k * w64 b) = w64 (a + k * b) := ww_eq (by
  have h := ww_mod b
  have e : (k * w64 b) % 18446744073709551616 = (k * b) % 18446744073709551616 := by rw [Int.mul_emod, h, ← Int.mul_emod]
  omega)
theorem ww_ml (k a b : Int) : w64 (k * w64 a + b) = w64 (k * a + b) := ww_eq (by
  have h := ww_mod a
  have e : (k * w64 a) % 18446744073709551616 = (k * a) % 18446744073709551616 := by rw [Int.mul_emod, h, ← Int.mul_emod]
  omega)
theorem wb_each0_0 (x0 : Int) : wave_each_with_wave_Blur_1 0 [x0] 0 = some [x0] := by kernel_rfl
theorem wb_blur0_0 (x0 : Int) : ref_Blur [x0] 0 = some [w64 (0 + w64 (x0 * 1))] := by kernel_rfl
theorem wb_same0_0 (x0 : Int) (h : ∀ v ∈ [x0], -1000000000 ≤ v ∧ v ≤ 1000000000) : wave_each_with_wave_Blur_1 0 [x0] 0 = ref_Blur [x0] 0 := by
  rw [wb_each0_0, wb_blur0_0]
  have := h x0 (by simp)
  rw [w64_id (n := x0 * 1) (by omega) (by omega), w64_id (by omega) (by omega), Int.zero_add, Int.mul_one]
theorem wb_each0_1 (x0 : Int) : wave_each_with_wave_Blur_1 0 [x0] 1 = some [x0] := by kernel_rfl
theorem wb_blur0_1 (x0 : Int) : ref_Blur [x0] 1 = some [w64 (0 + w64 (x0 * 1))] := by kernel_rfl
theorem wb_same0_1 (x0 : Int) (h : ∀ v ∈ [x0], -1000000000 ≤ v ∧ v ≤ 1000000000) : wave_each_with_wave_Blur_1 0 [x0] 1 = ref_Blur [x0] 1 := by
  rw [wb_each0_1, wb_blur0_1]
  have := h x0 (by simp)
  rw [w64_id (n := x0 * 1) (by omega) (by omega), w64_id (by omega) (by omega), Int.zero_add, Int.mul_one]
theorem wb_each0_2 (x0 : Int) : wave_each_with_wave_Blur_1 0 [x0] 2 = some [x0] := by kernel_rfl
theorem wb_blur0_2 (x0 : Int) : ref_Blur [x0] 2 = some [w64 (0 + w64 (x0 * 1))] := by kernel_rfl
theorem wb_same0_2 (x0 : Int) (h : ∀ v ∈ [x0], -1000000000 ≤ v ∧ v ≤ 1000000000) : wave_each_with_wave_Blur_1 0 [x0] 2 = ref_Blur [x0] 2 := by
  rw [wb_each0_2, wb_blur0_2]
  have := h x0 (by simp)
  rw [w64_id (n := x0 * 1) (by omega) (by omega), w64_id (by omega) (by omega), Int.zero_add, Int.mul_one]
theorem wb_each0_3 (x0 : Int) : wave_each_with_wave_Blur_1 0 [x0] 3 = some [x0] := by kernel_rfl
theorem wb_blur0_3 (x0 : Int) : ref_Blur [x0] 3 = some [w64 (0 + w64 (x0 * 1))] := by kernel_rfl
theorem wb_same0_3 (x0 : Int) (h : ∀ v ∈ [x0], -1000000000 ≤ v ∧ v ≤ 1000000000) : wave_each_with_wave_Blur_1 0 [x0] 3 = ref_Blur [x0] 3 := by
  rw [wb_each0_3, wb_blur0_3]
  have := h x0 (by simp)
  rw [w64_id (n := x0 * 1) (by omega) (by omega), w64_id (by omega) (by omega), Int.zero_add, Int.mul_one]
theorem wb_each1_0 (x0 x1 : Int) : wave_each_with_wave_Blur_1 1 [x0, x1] 0 = some [w64 (x0 + w64 (0 * x1)),
 w64 (w64 (0 * x0) + x1)] := by kernel_rfl
theorem wb_blur1_0 (x0 x1 : Int) : ref_Blur [x0, x1] 0 = some [w64 ((w64 (0 + w64 (x0 * 1))) + w64 (x1 * 0)),
 w64 ((w64 (0 + w64 (x0 * 0))) + w64 (x1 * 1))] := by kernel_rfl
theorem wb_same1_0 (x0 x1 : Int) (h : ∀ v ∈ [x0, x1], -1000000000 ≤ v ∧ v ≤ 1000000000) : wave_each_with_wave_Blur_1 1 [x0, x1] 0 = ref_Blur [x0, x1] 0 := by
  rw [wb_each1_0, wb_blur1_0]
  simp only [ww_al, ww_ar, ww_ml, ww_mr]
  refine congrArg some ?_
  repeat (refine congr (congrArg List.cons (congrArg w64 (by omega))) ?_)
  rfl
theorem wb_each1_1 (x0 x1 : Int) : wave_each_with_wave_Blur_1 1 [x0, x1] 1 = some [w64 (x0 + w64 (1 * x1)),
 w64 (w64 (1 * x0) + x1)] := by kernel_rfl
theorem wb_blur1_1 (x0 x1 : Int) : ref_Blur [x0, x1] 1 = some [w64 ((w64 (0 + w64 (x0 * 1))) + w64 (x1 * 1)),
 w64 ((w64 (0 + w64 (x0 * 1))) + w64 (x1 * 1))] := by kernel_rfl
theorem wb_same1_1 (x0 x1 : Int) (h : ∀ v ∈ [x0, x1], -1000000000 ≤ v ∧ v ≤ 1000000000) : wave_each_with_wave_Blur_1 1 [x0, x1] 1 = ref_Blur [x0, x1] 1 := by
  rw [wb_each1_1, wb_blur1_1]
  simp only [ww_al, ww_ar, ww_ml, ww_mr]
  refine congrArg some ?_
  repeat (refine congr (congrArg List.cons (congrArg w64 (by omega))) ?_)
  rfl
theorem wb_each1_2 (x0 x1 : Int) : wave_each_with_wave_Blur_1 1 [x0, x1] 2 = some [w64 (x0 + w64 (2 * x1)),
 w64 (w64 (2 * x0) + x1)] := by kernel_rfl
theorem wb_blur1_2 (x0 x1 : Int) : ref_Blur [x0, x1] 2 = some [w64 ((w64 (0 + w64 (x0 * 1))) + w64 (x1 * 2)),
 w64 ((w64 (0 + w64 (x0 * 2))) + w64 (x1 * 1))] := by kernel_rfl
theorem wb_same1_2 (x0 x1 : Int) (h : ∀ v ∈ [x0, x1], -1000000000 ≤ v ∧ v ≤ 1000000000) : wave_each_with_wave_Blur_1 1 [x0, x1] 2 = ref_Blur [x0, x1] 2 := by
  rw [wb_each1_2, wb_blur1_2]
  simp only [ww_al, ww_ar, ww_ml, ww_mr]
  refine congrArg some ?_
  repeat (refine congr (congrArg List.cons (congrArg w64 (by omega))) ?_)
  rfl
theorem wb_each1_3 (x0 x1 : Int) : wave_each_with_wave_Blur_1 1 [x0, x1] 3 = some [w64 (x0 + w64 (3 * x1)),
 w64 (w64 (3 * x0) + x1)] := by kernel_rfl
theorem wb_blur1_3 (x0 x1 : Int) : ref_Blur [x0, x1] 3 = some [w64 ((w64 (0 + w64 (x0 * 1))) + w64 (x1 * 3)),
 w64 ((w64 (0 + w64 (x0 * 3))) + w64 (x1 * 1))] := by kernel_rfl
theorem wb_same1_3 (x0 x1 : Int) (h : ∀ v ∈ [x0, x1], -1000000000 ≤ v ∧ v ≤ 1000000000) : wave_each_with_wave_Blur_1 1 [x0, x1] 3 = ref_Blur [x0, x1] 3 := by
  rw [wb_each1_3, wb_blur1_3]
  simp only [ww_al, ww_ar, ww_ml, ww_mr]
  refine congrArg some ?_
  repeat (refine congr (congrArg List.cons (congrArg w64 (by omega))) ?_)
  rfl
theorem wb_each2_0 (x0 x1 x2 x3 : Int) : wave_each_with_wave_Blur_1 2 [x0, x1, x2, x3] 0 = some [w64 ((w64 (x0 + w64 (0 * x1))) + w64 (0 * (w64 (x2 + w64 (0 * x3))))),
 w64 ((w64 (w64 (0 * x0) + x1)) + w64 (0 * (w64 (w64 (0 * x2) + x3)))),
 w64 (w64 (0 * (w64 (x0 + w64 (0 * x1)))) + (w64 (x2 + w64 (0 * x3)))),
 w64 (w64 (0 * (w64 (w64 (0 * x0) + x1))) + (w64 (w64 (0 * x2) + x3)))] := by kernel_rfl
theorem wb_blur2_0 (x0 x1 x2 x3 : Int) : ref_Blur [x0, x1, x2, x3] 0 = some [w64 ((w64 ((w64 ((w64 (0 + w64 (x0 * 1))) + w64 (x1 * 0))) + w64 (x2 * 0))) + w64 (x3 * 0)),
 w64 ((w64 ((w64 ((w64 (0 + w64 (x0 * 0))) + w64 (x1 * 1))) + w64 (x2 * 0))) + w64 (x3 * 0)),
 w64 ((w64 ((w64 ((w64 (0 + w64 (x0 * 0))) + w64 (x1 * 0))) + w64 (x2 * 1))) + w64 (x3 * 0)),
 w64 ((w64 ((w64 ((w64 (0 + w64 (x0 * 0))) + w64 (x1 * 0))) + w64 (x2 * 0))) + w64 (x3 * 1))] := by kernel_rfl
theorem wb_same2_0 (x0 x1 x2 x3 : Int) (h : ∀ v ∈ [x0, x1, x2, x3], -1000000000 ≤ v ∧ v ≤ 1000000000) : wave_each_with_wave_Blur_1 2 [x0, x1, x2, x3] 0 = ref_Blur [x0, x1, x2, x3] 0 := by
  rw [wb_each2_0, wb_blur2_0]
  simp only [ww_al, ww_ar, ww_ml, ww_mr]
  refine congrArg some ?_
  repeat (refine congr (congrArg List.cons (congrArg w64 (by omega))) ?_)
  rfl
theorem wb_each2_1 (x0 x1 x2 x3 : Int) : wave_each_with_wave_Blur_1 2 [x0, x1, x2, x3] 1 = some [w64 ((w64 (x0 + w64 (1 * x1))) + w64 (1 * (w64 (x2 + w64 (1 * x3))))),
 w64 ((w64 (w64 (1 * x0) + x1)) + w64 (1 * (w64 (w64 (1 * x2) + x3)))),
 w64 (w64 (1 * (w64 (x0 + w64 (1 * x1)))) + (w64 (x2 + w64 (1 * x3)))),
 w64 (w64 (1 * (w64 (w64 (1 * x0) + x1))) + (w64 (w64 (1 * x2) + x3)))] := by kernel_rfl
theorem wb_blur2_1 (x0 x1 x2 x3 : Int) : ref_Blur [x0, x1, x2, x3] 1 = some [w64 ((w64 ((w64 ((w64 (0 + w64 (x0 * 1))) + w64 (x1 * 1))) + w64 (x2 * 1))) + w64 (x3 * 1)),
 w64 ((w64 ((w64 ((w64 (0 + w64 (x0 * 1))) + w64 (x1 * 1))) + w64 (x2 * 1))) + w64 (x3 * 1)),
 w64 ((w64 ((w64 ((w64 (0 + w64 (x0 * 1))) + w64 (x1 * 1))) + w64 (x2 * 1))) + w64 (x3 * 1)),
 w64 ((w64 ((w64 ((w64 (0 + w64 (x0 * 1))) + w64 (x1 * 1))) + w64 (x2 * 1))) + w64 (x3 * 1))] := by kernel_rfl
theorem wb_same2_1 (x0 x1 x2 x3 : Int) (h : ∀ v ∈ [x0, x1, x2, x3], -1000000000 ≤ v ∧ v ≤ 1000000000) : wave_each_with_wave_Blur_1 2 [x0, x1, x2, x3] 1 = ref_Blur [x0, x1, x2, x3] 1 := by
  rw [wb_each2_1, wb_blur2_1]
  simp only [ww_al, ww_ar, ww_ml, ww_mr]
  refine congrArg some ?_
  repeat (refine congr (congrArg List.cons (congrArg w64 (by omega))) ?_)
  rfl
theorem wb_each2_2 (x0 x1 x2 x3 : Int) : wave_each_with_wave_Blur_1 2 [x0, x1, x2, x3] 2 = some [w64 ((w64 (x0 + w64 (2 * x1))) + w64 (2 * (w64 (x2 + w64 (2 * x3))))),
 w64 ((w64 (w64 (2 * x0) + x1)) + w64 (2 * (w64 (w64 (2 * x2) + x3)))),
 w64 (w64 (2 * (w64 (x0 + w64 (2 * x1)))) + (w64 (x2 + w64 (2 * x3)))),
 w64 (w64 (2 * (w64 (w64 (2 * x0) + x1))) + (w64 (w64 (2 * x2) + x3)))] := by kernel_rfl
theorem wb_blur2_2 (x0 x1 x2 x3 : Int) : ref_Blur [x0, x1, x2, x3] 2 = some [w64 ((w64 ((w64 ((w64 (0 + w64 (x0 * 1))) + w64 (x1 * 2))) + w64 (x2 * 2))) + w64 (x3 * 4)),
 w64 ((w64 ((w64 ((w64 (0 + w64 (x0 * 2))) + w64 (x1 * 1))) + w64 (x2 * 4))) + w64 (x3 * 2)),
 w64 ((w64 ((w64 ((w64 (0 + w64 (x0 * 2))) + w64 (x1 * 4))) + w64 (x2 * 1))) + w64 (x3 * 2)),
 w64 ((w64 ((w64 ((w64 (0 + w64 (x0 * 4))) + w64 (x1 * 2))) + w64 (x2 * 2))) + w64 (x3 * 1))] := by kernel_rfl
theorem wb_same2_2 (x0 x1 x2 x3 : Int) (h : ∀ v ∈ [x0, x1, x2, x3], -1000000000 ≤ v ∧ v ≤ 1000000000) : wave_each_with_wave_Blur_1 2 [x0, x1, x2, x3] 2 = ref_Blur [x0, x1, x2, x3] 2 := by
  rw [wb_each2_2, wb_blur2_2]
  simp only [ww_al, ww_ar, ww_ml, ww_mr]
  refine congrArg some ?_
  repeat (refine congr (congrArg List.cons (congrArg w64 (by omega))) ?_)
  rfl
theorem wb_each2_3 (x0 x1 x2 x3 : Int) : wave_each_with_wave_Blur_1 2 [x0, x1, x2, x3] 3 = some [w64 ((w64 (x0 + w64 (3 * x1))) + w64 (3 * (w64 (x2 + w64 (3 * x3))))),
 w64 ((w64 (w64 (3 * x0) + x1)) + w64 (3 * (w64 (w64 (3 * x2) + x3)))),
 w64 (w64 (3 * (w64 (x0 + w64 (3 * x1)))) + (w64 (x2 + w64 (3 * x3)))),
 w64 (w64 (3 * (w64 (w64 (3 * x0) + x1))) + (w64 (w64 (3 * x2) + x3)))] := by kernel_rfl
theorem wb_blur2_3 (x0 x1 x2 x3 : Int) : ref_Blur [x0, x1, x2, x3] 3 = some [w64 ((w64 ((w64 ((w64 (0 + w64 (x0 * 1))) + w64 (x1 * 3))) + w64 (x2 * 3))) + w64 (x3 * 9)),
 w64 ((w64 ((w64 ((w64 (0 + w64 (x0 * 3))) + w64 (x1 * 1))) + w64 (x2 * 9))) + w64 (x3 * 3)),
 w64 ((w64 ((w64 ((w64 (0 + w64 (x0 * 3))) + w64 (x1 * 9))) + w64 (x2 * 1))) + w64 (x3 * 3)),
 w64 ((w64 ((w64 ((w64 (0 + w64 (x0 * 9))) + w64 (x1 * 3))) + w64 (x2 * 3))) + w64 (x3 * 1))] := by kernel_rfl
theorem wb_same2_3 (x0 x1 x2 x3 : Int) (h : ∀ v ∈ [x0, x1, x2, x3], -1000000000 ≤ v ∧ v ≤ 1000000000) : wave_each_with_wave_Blur_1 2 [x0, x1, x2, x3] 3 = ref_Blur [x0, x1, x2, x3] 3 := by
  rw [wb_each2_3, wb_blur2_3]
  simp only [ww_al, ww_ar, ww_ml, ww_mr]
  refine congrArg some ?_
  repeat (refine congr (congrArg List.cons (congrArg w64 (by omega))) ?_)
  rfl
theorem wb_each3_0 (x0 x1 x2 x3 x4 x5 x6 x7 : Int) : wave_each_with_wave_Blur_1 3 [x0, x1, x2, x3, x4, x5, x6, x7] 0 = some [w64 ((w64 ((w64 (x0 + w64 (0 * x1))) + w64 (0 * (w64 (x2 + w64 (0 * x3)))))) + w64 (0 * (w64 ((w64 (x4 + w64 (0 * x5))) + w64 (0 * (w64 (x6 + w64 (0 * x7)))))))),
 w64 ((w64 ((w64 (w64 (0 * x0) + x1)) + w64 (0 * (w64 (w64 (0 * x2) + x3))))) + w64 (0 * (w64 ((w64 (w64 (0 * x4) + x5)) + w64 (0 * (w64 (w64 (0 * x6) + x7))))))),
 w64 ((w64 (w64 (0 * (w64 (x0 + w64 (0 * x1)))) + (w64 (x2 + w64 (0 * x3))))) + w64 (0 * (w64 (w64 (0 * (w64 (x4 + w64 (0 * x5)))) + (w64 (x6 + w64 (0 * x7))))))),
 w64 ((w64 (w64 (0 * (w64 (w64 (0 * x0) + x1))) + (w64 (w64 (0 * x2) + x3)))) + w64 (0 * (w64 (w64 (0 * (w64 (w64 (0 * x4) + x5))) + (w64 (w64 (0 * x6) + x7)))))),
 w64 (w64 (0 * (w64 ((w64 (x0 + w64 (0 * x1))) + w64 (0 * (w64 (x2 + w64 (0 * x3))))))) + (w64 ((w64 (x4 + w64 (0 * x5))) + w64 (0 * (w64 (x6 + w64 (0 * x7))))))),
 w64 (w64 (0 * (w64 ((w64 (w64 (0 * x0) + x1)) + w64 (0 * (w64 (w64 (0 * x2) + x3)))))) + (w64 ((w64 (w64 (0 * x4) + x5)) + w64 (0 * (w64 (w64 (0 * x6) + x7)))))),
 w64 (w64 (0 * (w64 (w64 (0 * (w64 (x0 + w64 (0 * x1)))) + (w64 (x2 + w64 (0 * x3)))))) + (w64 (w64 (0 * (w64 (x4 + w64 (0 * x5)))) + (w64 (x6 + w64 (0 * x7)))))),
 w64 (w64 (0 * (w64 (w64 (0 * (w64 (w64 (0 * x0) + x1))) + (w64 (w64 (0 * x2) + x3))))) + (w64 (w64 (0 * (w64 (w64 (0 * x4) + x5))) + (w64 (w64 (0 * x6) + x7)))))] := by kernel_rfl
theorem wb_blur3_0 (x0 x1 x2 x3 x4 x5 x6 x7 : Int) : ref_Blur [x0, x1, x2, x3, x4, x5, x6, x7] 0 = some [w64 ((w64 ((w64 ((w64 ((w64 ((w64 ((w64 ((w64 (0 + w64 (x0 * 1))) + w64 (x1 * 0))) + w64 (x2 * 0))) + w64 (x3 * 0))) + w64 (x4 * 0))) + w64 (x5 * 0))) + w64 (x6 * 0))) + w64 (x7 * 0)),
 w64 ((w64 ((w64 ((w64 ((w64 ((w64 ((w64 ((w64 (0 + w64 (x0 * 0))) + w64 (x1 * 1))) + w64 (x2 * 0))) + w64 (x3 * 0))) + w64 (x4 * 0))) + w64 (x5 * 0))) + w64 (x6 * 0))) + w64 (x7 * 0)),
 w64 ((w64 ((w64 ((w64 ((w64 ((w64 ((w64 ((w64 (0 + w64 (x0 * 0))) + w64 (x1 * 0))) + w64 (x2 * 1))) + w64 (x3 * 0))) + w64 (x4 * 0))) + w64 (x5 * 0))) + w64 (x6 * 0))) + w64 (x7 * 0)),
 w64 ((w64 ((w64 ((w64 ((w64 ((w64 ((w64 ((w64 (0 + w64 (x0 * 0))) + w64 (x1 * 0))) + w64 (x2 * 0))) + w64 (x3 * 1))) + w64 (x4 * 0))) + w64 (x5 * 0))) + w64 (x6 * 0))) + w64 (x7 * 0)),
 w64 ((w64 ((w64 ((w64 ((w64 ((w64 ((w64 ((w64 (0 + w64 (x0 * 0))) + w64 (x1 * 0))) + w64 (x2 * 0))) + w64 (x3 * 0))) + w64 (x4 * 1))) + w64 (x5 * 0))) + w64 (x6 * 0))) + w64 (x7 * 0)),
 w64 ((w64 ((w64 ((w64 ((w64 ((w64 ((w64 ((w64 (0 + w64 (x0 * 0))) + w64 (x1 * 0))) + w64 (x2 * 0))) + w64 (x3 * 0))) + w64 (x4 * 0))) + w64 (x5 * 1))) + w64 (x6 * 0))) + w64 (x7 * 0)),
 w64 ((w64 ((w64 ((w64 ((w64 ((w64 ((w64 ((w64 (0 + w64 (x0 * 0))) + w64 (x1 * 0))) + w64 (x2 * 0))) + w64 (x3 * 0))) + w64 (x4 * 0))) + w64 (x5 * 0))) + w64 (x6 * 1))) + w64 (x7 * 0)),
 w64 ((w64 ((w64 ((w64 ((w64 ((w64 ((w64 ((w64 (0 + w64 (x0 * 0))) + w64 (x1 * 0))) + w64 (x2 * 0))) + w64 (x3 * 0))) + w64 (x4 * 0))) + w64 (x5 * 0))) + w64 (x6 * 0))) + w64 (x7 * 1))] := by kernel_rfl
theorem wb_same3_0 (x0 x1 x2 x3 x4 x5 x6 x7 : Int) (h : ∀ v ∈ [x0, x1, x2, x3, x4, x5, x6, x7], -1000000000 ≤ v ∧ v ≤ 1000000000) : wave_each_with_wave_Blur_1 3 [x0, x1, x2, x3, x4, x5, x6, x7] 0 = ref_Blur [x0, x1, x2, x3, x4, x5, x6, x7] 0 := by
  rw [wb_each3_0, wb_blur3_0]
  simp only [ww_al, ww_ar, ww_ml, ww_mr]
  refine congrArg some ?_
  repeat (refine congr (congrArg List.cons (congrArg w64 (by omega))) ?_)
  rfl
theorem wb_each3_1 (x0 x1 x2 x3 x4 x5 x6 x7 : Int) : wave_each_with_wave_Blur_1 3 [x0, x1, x2, x3, x4, x5, x6, x7] 1 = some [w64 ((w64 ((w64 (x0 + w64 (1 * x1))) + w64 (1 * (w64 (x2 + w64 (1 * x3)))))) + w64 (1 * (w64 ((w64 (x4 + w64 (1 * x5))) + w64 (1 * (w64 (x6 + w64 (1 * x7)))))))),
 w64 ((w64 ((w64 (w64 (1 * x0) + x1)) + w64 (1 * (w64 (w64 (1 * x2) + x3))))) + w64 (1 * (w64 ((w64 (w64 (1 * x4) + x5)) + w64 (1 * (w64 (w64 (1 * x6) + x7))))))),
 w64 ((w64 (w64 (1 * (w64 (x0 + w64 (1 * x1)))) + (w64 (x2 + w64 (1 * x3))))) + w64 (1 * (w64 (w64 (1 * (w64 (x4 + w64 (1 * x5)))) + (w64 (x6 + w64 (1 * x7))))))),
 w64 ((w64 (w64 (1 * (w64 (w64 (1 * x0) + x1))) + (w64 (w64 (1 * x2) + x3)))) + w64 (1 * (w64 (w64 (1 * (w64 (w64 (1 * x4) + x5))) + (w64 (w64 (1 * x6) + x7)))))),
 w64 (w64 (1 * (w64 ((w64 (x0 + w64 (1 * x1))) + w64 (1 * (w64 (x2 + w64 (1 * x3))))))) + (w64 ((w64 (x4 + w64 (1 * x5))) + w64 (1 * (w64 (x6 + w64 (1 * x7))))))),
 w64 (w64 (1 * (w64 ((w64 (w64 (1 * x0) + x1)) + w64 (1 * (w64 (w64 (1 * x2) + x3)))))) + (w64 ((w64 (w64 (1 * x4) + x5)) + w64 (1 * (w64 (w64 (1 * x6) + x7)))))),
 w64 (w64 (1 * (w64 (w64 (1 * (w64 (x0 + w64 (1 * x1)))) + (w64 (x2 + w64 (1 * x3)))))) + (w64 (w64 (1 * (w64 (x4 + w64 (1 * x5)))) + (w64 (x6 + w64 (1 * x7)))))),
 w64 (w64 (1 * (w64 (w64 (1 * (w64 (w64 (1 * x0) + x1))) + (w64 (w64 (1 * x2) + x3))))) + (w64 (w64 (1 * (w64 (w64 (1 * x4) + x5))) + (w64 (w64 (1 * x6) + x7)))))] := by kernel_rfl
theorem wb_blur3_1 (x0 x1 x2 x3 x4 x5 x6 x7 : Int) : ref_Blur [x0, x1, x2, x3, x4, x5, x6, x7] 1 = some [w64 ((w64 ((w64 ((w64 ((w64 ((w64 ((w64 ((w64 (0 + w64 (x0 * 1))) + w64 (x1 * 1))) + w64 (x2 * 1))) + w64 (x3 * 1))) + w64 (x4 * 1))) + w64 (x5 * 1))) + w64 (x6 * 1))) + w64 (x7 * 1)),
 w64 ((w64 ((w64 ((w64 ((w64 ((w64 ((w64 ((w64 (0 + w64 (x0 * 1))) + w64 (x1 * 1))) + w64 (x2 * 1))) + w64 (x3 * 1))) + w64 (x4 * 1))) + w64 (x5 * 1))) + w64 (x6 * 1))) + w64 (x7 * 1)),
 w64 ((w64 ((w64 ((w64 ((w64 ((w64 ((w64 ((w64 (0 + w64 (x0 * 1))) + w64 (x1 * 1))) + w64 (x2 * 1))) + w64 (x3 * 1))) + w64 (x4 * 1))) + w64 (x5 * 1))) + w64 (x6 * 1))) + w64 (x7 * 1)),
 w64 ((w64 ((w64 ((w64 ((w64 ((w64 ((w64 ((w64 (0 + w64 (x0 * 1))) + w64 (x1 * 1))) + w64 (x2 * 1))) + w64 (x3 * 1))) + w64 (x4 * 1))) + w64 (x5 * 1))) + w64 (x6 * 1))) + w64 (x7 * 1)),
 w64 ((w64 ((w64 ((w64 ((w64 ((w64 ((w64 ((w64 (0 + w64 (x0 * 1))) + w64 (x1 * 1))) + w64 (x2 * 1))) + w64 (x3 * 1))) + w64 (x4 * 1))) + w64 (x5 * 1))) + w64 (x6 * 1))) + w64 (x7 * 1)),
 w64 ((w64 ((w64 ((w64 ((w64 ((w64 ((w64 ((w64 (0 + w64 (x0 * 1))) + w64 (x1 * 1))) + w64 (x2 * 1))) + w64 (x3 * 1))) + w64 (x4 * 1))) + w64 (x5 * 1))) + w64 (x6 * 1))) + w64 (x7 * 1)),
 w64 ((w64 ((w64 ((w64 ((w64 ((w64 ((w64 ((w64 (0 + w64 (x0 * 1))) + w64 (x1 * 1))) + w64 (x2 * 1))) + w64 (x3 * 1))) + w64 (x4 * 1))) + w64 (x5 * 1))) + w64 (x6 * 1))) + w64 (x7 * 1)),
 w64 ((w64 ((w64 ((w64 ((w64 ((w64 ((w64 ((w64 (0 + w64 (x0 * 1))) + w64 (x1 * 1))) + w64 (x2 * 1))) + w64 (x3 * 1))) + w64 (x4 * 1))) + w64 (x5 * 1))) + w64 (x6 * 1))) + w64 (x7 * 1))] := by kernel_rfl
theorem wb_same3_1 (x0 x1 x2 x3 x4 x5 x6 x7 : Int) (h : ∀ v ∈ [x0, x1, x2, x3, x4, x5, x6, x7], -1000000000 ≤ v ∧ v ≤ 1000000000) : wave_each_with_wave_Blur_1 3 [x0, x1, x2, x3, x4, x5, x6, x7] 1 = ref_Blur [x0, x1, x2, x3, x4, x5, x6, x7] 1 := by
  rw [wb_each3_1, wb_blur3_1]
  simp only [ww_al, ww_ar, ww_ml, ww_mr]
  refine congrArg some ?_
  repeat (refine congr (congrArg List.cons (congrArg w64 (by omega))) ?_)
  rfl
theorem wb_each3_2 (x0 x1 x2 x3 x4 x5 x6 x7 : Int) : wave_each_with_wave_Blur_1 3 [x0, x1, x2, x3, x4, x5, x6, x7] 2 = some [w64 ((w64 ((w64 (x0 + w64 (2 * x1))) + w64 (2 * (w64 (x2 + w64 (2 * x3)))))) + w64 (2 * (w64 ((w64 (x4 + w64 (2 * x5))) + w64 (2 * (w64 (x6 + w64 (2 * x7)))))))),
 w64 ((w64 ((w64 (w64 (2 * x0) + x1)) + w64 (2 * (w64 (w64 (2 * x2) + x3))))) + w64 (2 * (w64 ((w64 (w64 (2 * x4) + x5)) + w64 (2 * (w64 (w64 (2 * x6) + x7))))))),
 w64 ((w64 (w64 (2 * (w64 (x0 + w64 (2 * x1)))) + (w64 (x2 + w64 (2 * x3))))) + w64 (2 * (w64 (w64 (2 * (w64 (x4 + w64 (2 * x5)))) + (w64 (x6 + w64 (2 * x7))))))),
 w64 ((w64 (w64 (2 * (w64 (w64 (2 * x0) + x1))) + (w64 (w64 (2 * x2) + x3)))) + w64 (2 * (w64 (w64 (2 * (w64 (w64 (2 * x4) + x5))) + (w64 (w64 (2 * x6) + x7)))))),
 w64 (w64 (2 * (w64 ((w64 (x0 + w64 (2 * x1))) + w64 (2 * (w64 (x2 + w64 (2 * x3))))))) + (w64 ((w64 (x4 + w64 (2 * x5))) + w64 (2 * (w64 (x6 + w64 (2 * x7))))))),
 w64 (w64 (2 * (w64 ((w64 (w64 (2 * x0) + x1)) + w64 (2 * (w64 (w64 (2 * x2) + x3)))))) + (w64 ((w64 (w64 (2 * x4) + x5)) + w64 (2 * (w64 (w64 (2 * x6) + x7)))))),
 w64 (w64 (2 * (w64 (w64 (2 * (w64 (x0 + w64 (2 * x1)))) + (w64 (x2 + w64 (2 * x3)))))) + (w64 (w64 (2 * (w64 (x4 + w64 (2 * x5)))) + (w64 (x6 + w64 (2 * x7)))))),
 w64 (w64 (2 * (w64 (w64 (2 * (w64 (w64 (2 * x0) + x1))) + (w64 (w64 (2 * x2) + x3))))) + (w64 (w64 (2 * (w64 (w64 (2 * x4) + x5))) + (w64 (w64 (2 * x6) + x7)))))] := by kernel_rfl
theorem wb_blur3_2 (x0 x1 x2 x3 x4 x5 x6 x7 : Int) : ref_Blur [x0, x1, x2, x3, x4, x5, x6, x7] 2 = some [w64 ((w64 ((w64 ((w64 ((w64 ((w64 ((w64 ((w64 (0 + w64 (x0 * 1))) + w64 (x1 * 2))) + w64 (x2 * 2))) + w64 (x3 * 4))) + w64 (x4 * 2))) + w64 (x5 * 4))) + w64 (x6 * 4))) + w64 (x7 * 8)),
 w64 ((w64 ((w64 ((w64 ((w64 ((w64 ((w64 ((w64 (0 + w64 (x0 * 2))) + w64 (x1 * 1))) + w64 (x2 * 4))) + w64 (x3 * 2))) + w64 (x4 * 4))) + w64 (x5 * 2))) + w64 (x6 * 8))) + w64 (x7 * 4)),
 w64 ((w64 ((w64 ((w64 ((w64 ((w64 ((w64 ((w64 (0 + w64 (x0 * 2))) + w64 (x1 * 4))) + w64 (x2 * 1))) + w64 (x3 * 2))) + w64 (x4 * 4))) + w64 (x5 * 8))) + w64 (x6 * 2))) + w64 (x7 * 4)),
 w64 ((w64 ((w64 ((w64 ((w64 ((w64 ((w64 ((w64 (0 + w64 (x0 * 4))) + w64 (x1 * 2))) + w64 (x2 * 2))) + w64 (x3 * 1))) + w64 (x4 * 8))) + w64 (x5 * 4))) + w64 (x6 * 4))) + w64 (x7 * 2)),
 w64 ((w64 ((w64 ((w64 ((w64 ((w64 ((w64 ((w64 (0 + w64 (x0 * 2))) + w64 (x1 * 4))) + w64 (x2 * 4))) + w64 (x3 * 8))) + w64 (x4 * 1))) + w64 (x5 * 2))) + w64 (x6 * 2))) + w64 (x7 * 4)),
 w64 ((w64 ((w64 ((w64 ((w64 ((w64 ((w64 ((w64 (0 + w64 (x0 * 4))) + w64 (x1 * 2))) + w64 (x2 * 8))) + w64 (x3 * 4))) + w64 (x4 * 2))) + w64 (x5 * 1))) + w64 (x6 * 4))) + w64 (x7 * 2)),
 w64 ((w64 ((w64 ((w64 ((w64 ((w64 ((w64 ((w64 (0 + w64 (x0 * 4))) + w64 (x1 * 8))) + w64 (x2 * 2))) + w64 (x3 * 4))) + w64 (x4 * 2))) + w64 (x5 * 4))) + w64 (x6 * 1))) + w64 (x7 * 2)),
 w64 ((w64 ((w64 ((w64 ((w64 ((w64 ((w64 ((w64 (0 + w64 (x0 * 8))) + w64 (x1 * 4))) + w64 (x2 * 4))) + w64 (x3 * 2))) + w64 (x4 * 4))) + w64 (x5 * 2))) + w64 (x6 * 2))) + w64 (x7 * 1))] := by kernel_rfl
theorem wb_same3_2 (x0 x1 x2 x3 x4 x5 x6 x7 : Int) (h : ∀ v ∈ [x0, x1, x2, x3, x4, x5, x6, x7], -1000000000 ≤ v ∧ v ≤ 1000000000) : wave_each_with_wave_Blur_1 3 [x0, x1, x2, x3, x4, x5, x6, x7] 2 = ref_Blur [x0, x1, x2, x3, x4, x5, x6, x7] 2 := by
  rw [wb_each3_2, wb_blur3_2]
  simp only [ww_al, ww_ar, ww_ml, ww_mr]
  refine congrArg some ?_
  repeat (refine congr (congrArg List.cons (congrArg w64 (by omega))) ?_)
  rfl
theorem wb_each3_3 (x0 x1 x2 x3 x4 x5 x6 x7 : Int) : wave_each_with_wave_Blur_1 3 [x0, x1, x2, x3, x4, x5, x6, x7] 3 = some [w64 ((w64 ((w64 (x0 + w64 (3 * x1))) + w64 (3 * (w64 (x2 + w64 (3 * x3)))))) + w64 (3 * (w64 ((w64 (x4 + w64 (3 * x5))) + w64 (3 * (w64 (x6 + w64 (3 * x7)))))))),
 w64 ((w64 ((w64 (w64 (3 * x0) + x1)) + w64 (3 * (w64 (w64 (3 * x2) + x3))))) + w64 (3 * (w64 ((w64 (w64 (3 * x4) + x5)) + w64 (3 * (w64 (w64 (3 * x6) + x7))))))),
 w64 ((w64 (w64 (3 * (w64 (x0 + w64 (3 * x1)))) + (w64 (x2 + w64 (3 * x3))))) + w64 (3 * (w64 (w64 (3 * (w64 (x4 + w64 (3 * x5)))) + (w64 (x6 + w64 (3 * x7))))))),
 w64 ((w64 (w64 (3 * (w64 (w64 (3 * x0) + x1))) + (w64 (w64 (3 * x2) + x3)))) + w64 (3 * (w64 (w64 (3 * (w64 (w64 (3 * x4) + x5))) + (w64 (w64 (3 * x6) + x7)))))),
 w64 (w64 (3 * (w64 ((w64 (x0 + w64 (3 * x1))) + w64 (3 * (w64 (x2 + w64 (3 * x3))))))) + (w64 ((w64 (x4 + w64 (3 * x5))) + w64 (3 * (w64 (x6 + w64 (3 * x7))))))),
 w64 (w64 (3 * (w64 ((w64 (w64 (3 * x0) + x1)) + w64 (3 * (w64 (w64 (3 * x2) + x3)))))) + (w64 ((w64 (w64 (3 * x4) + x5)) + w64 (3 * (w64 (w64 (3 * x6) + x7)))))),
 w64 (w64 (3 * (w64 (w64 (3 * (w64 (x0 + w64 (3 * x1)))) + (w64 (x2 + w64 (3 * x3)))))) + (w64 (w64 (3 * (w64 (x4 + w64 (3 * x5)))) + (w64 (x6 + w64 (3 * x7)))))),
 w64 (w64 (3 * (w64 (w64 (3 * (w64 (w64 (3 * x0) + x1))) + (w64 (w64 (3 * x2) + x3))))) + (w64 (w64 (3 * (w64 (w64 (3 * x4) + x5))) + (w64 (w64 (3 * x6) + x7)))))] := by kernel_rfl
theorem wb_blur3_3 (x0 x1 x2 x3 x4 x5 x6 x7 : Int) : ref_Blur [x0, x1, x2, x3, x4, x5, x6, x7] 3 = some [w64 ((w64 ((w64 ((w64 ((w64 ((w64 ((w64 ((w64 (0 + w64 (x0 * 1))) + w64 (x1 * 3))) + w64 (x2 * 3))) + w64 (x3 * 9))) + w64 (x4 * 3))) + w64 (x5 * 9))) + w64 (x6 * 9))) + w64 (x7 * 27)),
 w64 ((w64 ((w64 ((w64 ((w64 ((w64 ((w64 ((w64 (0 + w64 (x0 * 3))) + w64 (x1 * 1))) + w64 (x2 * 9))) + w64 (x3 * 3))) + w64 (x4 * 9))) + w64 (x5 * 3))) + w64 (x6 * 27))) + w64 (x7 * 9)),
 w64 ((w64 ((w64 ((w64 ((w64 ((w64 ((w64 ((w64 (0 + w64 (x0 * 3))) + w64 (x1 * 9))) + w64 (x2 * 1))) + w64 (x3 * 3))) + w64 (x4 * 9))) + w64 (x5 * 27))) + w64 (x6 * 3))) + w64 (x7 * 9)),
 w64 ((w64 ((w64 ((w64 ((w64 ((w64 ((w64 ((w64 (0 + w64 (x0 * 9))) + w64 (x1 * 3))) + w64 (x2 * 3))) + w64 (x3 * 1))) + w64 (x4 * 27))) + w64 (x5 * 9))) + w64 (x6 * 9))) + w64 (x7 * 3)),
 w64 ((w64 ((w64 ((w64 ((w64 ((w64 ((w64 ((w64 (0 + w64 (x0 * 3))) + w64 (x1 * 9))) + w64 (x2 * 9))) + w64 (x3 * 27))) + w64 (x4 * 1))) + w64 (x5 * 3))) + w64 (x6 * 3))) + w64 (x7 * 9)),
 w64 ((w64 ((w64 ((w64 ((w64 ((w64 ((w64 ((w64 (0 + w64 (x0 * 9))) + w64 (x1 * 3))) + w64 (x2 * 27))) + w64 (x3 * 9))) + w64 (x4 * 3))) + w64 (x5 * 1))) + w64 (x6 * 9))) + w64 (x7 * 3)),
 w64 ((w64 ((w64 ((w64 ((w64 ((w64 ((w64 ((w64 (0 + w64 (x0 * 9))) + w64 (x1 * 27))) + w64 (x2 * 3))) + w64 (x3 * 9))) + w64 (x4 * 3))) + w64 (x5 * 9))) + w64 (x6 * 1))) + w64 (x7 * 3)),
 w64 ((w64 ((w64 ((w64 ((w64 ((w64 ((w64 ((w64 (0 + w64 (x0 * 27))) + w64 (x1 * 9))) + w64 (x2 * 9))) + w64 (x3 * 3))) + w64 (x4 * 9))) + w64 (x5 * 3))) + w64 (x6 * 3))) + w64 (x7 * 1))] := by kernel_rfl
theorem wb_same3_3 (x0 x1 x2 x3 x4 x5 x6 x7 : Int) (h : ∀ v ∈ [x0, x1, x2, x3, x4, x5, x6, x7], -1000000000 ≤ v ∧ v ≤ 1000000000) : wave_each_with_wave_Blur_1 3 [x0, x1, x2, x3, x4, x5, x6, x7] 3 = ref_Blur [x0, x1, x2, x3, x4, x5, x6, x7] 3 := by
  rw [wb_each3_3, wb_blur3_3]
  simp only [ww_al, ww_ar, ww_ml, ww_mr]
  refine congrArg some ?_
  repeat (refine congr (congrArg List.cons (congrArg w64 (by omega))) ?_)
  rfl
theorem wb_each4_0 (x0 x1 x2 x3 x4 x5 x6 x7 x8 x9 x10 x11 x12 x13 x14 x15 : Int) : wave_each_with_wave_Blur_1 4 [x0, x1, x2, x3, x4, x5, x6, x7, x8, x9, x10, x11, x12, x13, x14, x15] 0 = some [w64 ((w64 ((w64 ((w64 (x0 + w64 (0 * x1))) + w64 (0 * (w64 (x2 + w64 (0 * x3)))))) + w64 (0 * (w64 ((w64 (x4 + w64 (0 * x5))) + w64 (0 * (w64 (x6 + w64 (0 * x7))))))))) + w64 (0 * (w64 ((w64 ((w64 (x8 + w64 (0 * x9))) + w64 (0 * (w64 (x10 + w64 (0 * x11)))))) + w64 (0 * (w64 ((w64 (x12 + w64 (0 * x13))) + w64 (0 * (w64 (x14 + w64 (0 * x15))))))))))),
 w64 ((w64 ((w64 ((w64 (w64 (0 * x0) + x1)) + w64 (0 * (w64 (w64 (0 * x2) + x3))))) + w64 (0 * (w64 ((w64 (w64 (0 * x4) + x5)) + w64 (0 * (w64 (w64 (0 * x6) + x7)))))))) + w64 (0 * (w64 ((w64 ((w64 (w64 (0 * x8) + x9)) + w64 (0 * (w64 (w64 (0 * x10) + x11))))) + w64 (0 * (w64 ((w64 (w64 (0 * x12) + x13)) + w64 (0 * (w64 (w64 (0 * x14) + x15)))))))))),
 w64 ((w64 ((w64 (w64 (0 * (w64 (x0 + w64 (0 * x1)))) + (w64 (x2 + w64 (0 * x3))))) + w64 (0 * (w64 (w64 (0 * (w64 (x4 + w64 (0 * x5)))) + (w64 (x6 + w64 (0 * x7)))))))) + w64 (0 * (w64 ((w64 (w64 (0 * (w64 (x8 + w64 (0 * x9)))) + (w64 (x10 + w64 (0 * x11))))) + w64 (0 * (w64 (w64 (0 * (w64 (x12 + w64 (0 * x13)))) + (w64 (x14 + w64 (0 * x15)))))))))),
 w64 ((w64 ((w64 (w64 (0 * (w64 (w64 (0 * x0) + x1))) + (w64 (w64 (0 * x2) + x3)))) + w64 (0 * (w64 (w64 (0 * (w64 (w64 (0 * x4) + x5))) + (w64 (w64 (0 * x6) + x7))))))) + w64 (0 * (w64 ((w64 (w64 (0 * (w64 (w64 (0 * x8) + x9))) + (w64 (w64 (0 * x10) + x11)))) + w64 (0 * (w64 (w64 (0 * (w64 (w64 (0 * x12) + x13))) + (w64 (w64 (0 * x14) + x15))))))))),
 w64 ((w64 (w64 (0 * (w64 ((w64 (x0 + w64 (0 * x1))) + w64 (0 * (w64 (x2 + w64 (0 * x3))))))) + (w64 ((w64 (x4 + w64 (0 * x5))) + w64 (0 * (w64 (x6 + w64 (0 * x7)))))))) + w64 (0 * (w64 (w64 (0 * (w64 ((w64 (x8 + w64 (0 * x9))) + w64 (0 * (w64 (x10 + w64 (0 * x11))))))) + (w64 ((w64 (x12 + w64 (0 * x13))) + w64 (0 * (w64 (x14 + w64 (0 * x15)))))))))),
 w64 ((w64 (w64 (0 * (w64 ((w64 (w64 (0 * x0) + x1)) + w64 (0 * (w64 (w64 (0 * x2) + x3)))))) + (w64 ((w64 (w64 (0 * x4) + x5)) + w64 (0 * (w64 (w64 (0 * x6) + x7))))))) + w64 (0 * (w64 (w64 (0 * (w64 ((w64 (w64 (0 * x8) + x9)) + w64 (0 * (w64 (w64 (0 * x10) + x11)))))) + (w64 ((w64 (w64 (0 * x12) + x13)) + w64 (0 * (w64 (w64 (0 * x14) + x15))))))))),
 w64 ((w64 (w64 (0 * (w64 (w64 (0 * (w64 (x0 + w64 (0 * x1)))) + (w64 (x2 + w64 (0 * x3)))))) + (w64 (w64 (0 * (w64 (x4 + w64 (0 * x5)))) + (w64 (x6 + w64 (0 * x7))))))) + w64 (0 * (w64 (w64 (0 * (w64 (w64 (0 * (w64 (x8 + w64 (0 * x9)))) + (w64 (x10 + w64 (0 * x11)))))) + (w64 (w64 (0 * (w64 (x12 + w64 (0 * x13)))) + (w64 (x14 + w64 (0 * x15))))))))),
 w64 ((w64 (w64 (0 * (w64 (w64 (0 * (w64 (w64 (0 * x0) + x1))) + (w64 (w64 (0 * x2) + x3))))) + (w64 (w64 (0 * (w64 (w64 (0 * x4) + x5))) + (w64 (w64 (0 * x6) + x7)))))) + w64 (0 * (w64 (w64 (0 * (w64 (w64 (0 * (w64 (w64 (0 * x8) + x9))) + (w64 (w64 (0 * x10) + x11))))) + (w64 (w64 (0 * (w64 (w64 (0 * x12) + x13))) + (w64 (w64 (0 * x14) + x15)))))))),
 w64 (w64 (0 * (w64 ((w64 ((w64 (x0 + w64 (0 * x1))) + w64 (0 * (w64 (x2 + w64 (0 * x3)))))) + w64 (0 * (w64 ((w64 (x4 + w64 (0 * x5))) + w64 (0 * (w64 (x6 + w64 (0 * x7)))))))))) + (w64 ((w64 ((w64 (x8 + w64 (0 * x9))) + w64 (0 * (w64 (x10 + w64 (0 * x11)))))) + w64 (0 * (w64 ((w64 (x12 + w64 (0 * x13))) + w64 (0 * (w64 (x14 + w64 (0 * x15)))))))))),
 w64 (w64 (0 * (w64 ((w64 ((w64 (w64 (0 * x0) + x1)) + w64 (0 * (w64 (w64 (0 * x2) + x3))))) + w64 (0 * (w64 ((w64 (w64 (0 * x4) + x5)) + w64 (0 * (w64 (w64 (0 * x6) + x7))))))))) + (w64 ((w64 ((w64 (w64 (0 * x8) + x9)) + w64 (0 * (w64 (w64 (0 * x10) + x11))))) + w64 (0 * (w64 ((w64 (w64 (0 * x12) + x13)) + w64 (0 * (w64 (w64 (0 * x14) + x15))))))))),
 w64 (w64 (0 * (w64 ((w64 (w64 (0 * (w64 (x0 + w64 (0 * x1)))) + (w64 (x2 + w64 (0 * x3))))) + w64 (0 * (w64 (w64 (0 * (w64 (x4 + w64 (0 * x5)))) + (w64 (x6 + w64 (0 * x7))))))))) + (w64 ((w64 (w64 (0 * (w64 (x8 + w64 (0 * x9)))) + (w64 (x10 + w64 (0 * x11))))) + w64 (0 * (w64 (w64 (0 * (w64 (x12 + w64 (0 * x13)))) + (w64 (x14 + w64 (0 * x15))))))))),
 w64 (w64 (0 * (w64 ((w64 (w64 (0 * (w64 (w64 (0 * x0) + x1))) + (w64 (w64 (0 * x2) + x3)))) + w64 (0 * (w64 (w64 (0 * (w64 (w64 (0 * x4) + x5))) + (w64 (w64 (0 * x6) + x7)))))))) + (w64 ((w64 (w64 (0 * (w64 (w64 (0 * x8) + x9))) + (w64 (w64 (0 * x10) + x11)))) + w64 (0 * (w64 (w64 (0 * (w64 (w64 (0 * x12) + x13))) + (w64 (w64 (0 * x14) + x15)))))))),
 w64 (w64 (0 * (w64 (w64 (0 * (w64 ((w64 (x0 + w64 (0 * x1))) + w64 (0 * (w64 (x2 + w64 (0 * x3))))))) + (w64 ((w64 (x4 + w64 (0 * x5))) + w64 (0 * (w64 (x6 + w64 (0 * x7))))))))) + (w64 (w64 (0 * (w64 ((w64 (x8 + w64 (0 * x9))) + w64 (0 * (w64 (x10 + w64 (0 * x11))))))) + (w64 ((w64 (x12 + w64 (0 * x13))) + w64 (0 * (w64 (x14 + w64 (0 * x15))))))))),
 w64 (w64 (0 * (w64 (w64 (0 * (w64 ((w64 (w64 (0 * x0) + x1)) + w64 (0 * (w64 (w64 (0 * x2) + x3)))))) + (w64 ((w64 (w64 (0 * x4) + x5)) + w64 (0 * (w64 (w64 (0 * x6) + x7)))))))) + (w64 (w64 (0 * (w64 ((w64 (w64 (0 * x8) + x9)) + w64 (0 * (w64 (w64 (0 * x10) + x11)))))) + (w64 ((w64 (w64 (0 * x12) + x13)) + w64 (0 * (w64 (w64 (0 * x14) + x15)))))))),
 w64 (w64 (0 * (w64 (w64 (0 * (w64 (w64 (0 * (w64 (x0 + w64 (0 * x1)))) + (w64 (x2 + w64 (0 * x3)))))) + (w64 (w64 (0 * (w64 (x4 + w64 (0 * x5)))) + (w64 (x6 + w64 (0 * x7)))))))) + (w64 (w64 (0 * (w64 (w64 (0 * (w64 (x8 + w64 (0 * x9)))) + (w64 (x10 + w64 (0 * x11)))))) + (w64 (w64 (0 * (w64 (x12 + w64 (0 * x13)))) + (w64 (x14 + w64 (0 * x15)))))))),
 w64 (w64 (0 * (w64 (w64 (0 * (w64 (w64 (0 * (w64 (w64 (0 * x0) + x1))) + (w64 (w64 (0 * x2) + x3))))) + (w64 (w64 (0 * (w64 (w64 (0 * x4) + x5))) + (w64 (w64 (0 * x6) + x7))))))) + (w64 (w64 (0 * (w64 (w64 (0 * (w64 (w64 (0 * x8) + x9))) + (w64 (w64 (0 * x10) + x11))))) + (w64 (w64 (0 * (w64 (w64 (0 * x12) + x13))) + (w64 (w64 (0 * x14) + x15)))))))] := by kernel_rfl
theorem wb_blur4_0 (x0 x1 x2 x3 x4 x5 x6 x7 x8 x9 x10 x11 x12 x13 x14 x15 : Int) : ref_Blur [x0, x1, x2, x3, x4, x5, x6, x7, x8, x9, x10, x11, x12, x13, x14, x15] 0 = some [w64 ((w64 ((w64 ((w64 ((w64 ((w64 ((w64 ((w64 ((w64 ((w64 ((w64 ((w64 ((w64 ((w64 ((w64 ((w64 (0 + w64 (x0 * 1))) + w64 (x1 * 0))) + w64 (x2 * 0))) + w64 (x3 * 0))) + w64 (x4 * 0))) + w64 (x5 * 0))) + w64 (x6 * 0))) + w64 (x7 * 0))) + w64 (x8 * 0))) + w64 (x9 * 0))) + w64 (x10 * 0))) + w64 (x11 * 0))) + w64 (x12 * 0))) + w64 (x13 * 0))) + w64 (x14 * 0))) + w64 (x15 * 0)),
 w64 ((w64 ((w64 ((w64 ((w64 ((w64 ((w64 ((w64 ((w64 ((w64 ((w64 ((w64 ((w64 ((w64 ((w64 ((w64 (0 + w64 (x0 * 0))) + w64 (x1 * 1))) + w64 (x2 * 0))) + w64 (x3 * 0))) + w64 (x4 * 0))) + w64 (x5 * 0))) + w64 (x6 * 0))) + w64 (x7 * 0))) + w64 (x8 * 0))) + w64 (x9 * 0))) + w64 (x10 * 0))) + w64 (x11 * 0))) + w64 (x12 * 0))) + w64 (x13 * 0))) + w64 (x14 * 0))) + w64 (x15 * 0)),
 w64 ((w64 ((w64 ((w64 ((w64 ((w64 ((w64 ((w64 ((w64 ((w64 ((w64 ((w64 ((w64 ((w64 ((w64 ((w64 (0 + w64 (x0 * 0))) + w64 (x1 * 0))) + w64 (x2 * 1))) + w64 (x3 * 0))) + w64 (x4 * 0))) + w64 (x5 * 0))) + w64 (x6 * 0))) + w64 (x7 * 0))) + w64 (x8 * 0))) + w64 (x9 * 0))) + w64 (x10 * 0))) + w64 (x11 * 0))) + w64 (x12 * 0))) + w64 (x13 * 0))) + w64 (x14 * 0))) + w64 (x15 * 0)),
 w64 ((w64 ((w64 ((w64 ((w64 ((w64 ((w64 ((w64 ((w64 ((w64 ((w64 ((w64 ((w64 ((w64 ((w64 ((w64 (0 + w64 (x0 * 0))) + w64 (x1 * 0))) + w64 (x2 * 0))) + w64 (x3 * 1))) + w64 (x4 * 0))) + w64 (x5 * 0))) + w64 (x6 * 0))) + w64 (x7 * 0))) + w64 (x8 * 0))) + w64 (x9 * 0))) + w64 (x10 * 0))) + w64 (x11 * 0))) + w64 (x12 * 0))) + w64 (x13 * 0))) + w64 (x14 * 0))) + w64 (x15 * 0)),
 w64 ((w64 ((w64 ((w64 ((w64 ((w64 ((w64 ((w64 ((w64 ((w64 ((w64 ((w64 ((w64 ((w64 ((w64 ((w64 (0 + w64 (x0 * 0))) + w64 (x1 * 0))) + w64 (x2 * 0))) + w64 (x3 * 0))) + w64 (x4 * 1))) + w64 (x5 * 0))) + w64 (x6 * 0))) + w64 (x7 * 0))) + w64 (x8 * 0))) + w64 (x9 * 0))) + w64 (x10 * 0))) + w64 (x11 * 0))) + w64 (x12 * 0))) + w64 (x13 * 0))) + w64 (x14 * 0))) + w64 (x15 * 0)),
 w64 ((w64 ((w64 ((w64 ((w64 ((w64 ((w64 ((w64 ((w64 ((w64 ((w64 ((w64 ((w64 ((w64 ((w64 ((w64 (0 + w64 (x0 * 0))) + w64 (x1 * 0))) + w64 (x2 * 0))) + w64 (x3 * 0))) + w64 (x4 * 0))) + w64 (x5 * 1))) + w64 (x6 * 0))) + w64 (x7 * 0))) + w64 (x8 * 0))) + w64 (x9 * 0))) + w64 (x10 * 0))) + w64 (x11 * 0))) + w64 (x12 * 0))) + w64 (x13 * 0))) + w64 (x14 * 0))) + w64 (x15 * 0)),
 w64 ((w64 ((w64 ((w64 ((w64 ((w64 ((w64 ((w64 ((w64 ((w64 ((w64 ((w64 ((w64 ((w64 ((w64 ((w64 (0 + w64 (x0 * 0))) + w64 (x1 * 0))) + w64 (x2 * 0))) + w64 (x3 * 0))) + w64 (x4 * 0))) + w64 (x5 * 0))) + w64 (x6 * 1))) + w64 (x7 * 0))) + w64 (x8 * 0))) + w64 (x9 * 0))) + w64 (x10 * 0))) + w64 (x11 * 0))) + w64 (x12 * 0))) + w64 (x13 * 0))) + w64 (x14 * 0))) + w64 (x15 * 0)),
 w64 ((w64 ((w64 ((w64 ((w64 ((w64 ((w64 ((w64 ((w64 ((w64 ((w64 ((w64 ((w64 ((w64 ((w64 ((w64 (0 + w64 (x0 * 0))) + w64 (x1 * 0))) + w64 (x2 * 0))) + w64 (x3 * 0))) + w64 (x4 * 0))) + w64 (x5 * 0))) + w64 (x6 * 0))) + w64 (x7 * 1))) + w64 (x8 * 0))) + w64 (x9 * 0))) + w64 (x10 * 0))) + w64 (x11 * 0))) + w64 (x12 * 0))) + w64 (x13 * 0))) + w64 (x14 * 0))) + w64 (x15 * 0)),
 w64 ((w64 ((w64 ((w64 ((w64 ((w64 ((w64 ((w64 ((w64 ((w64 ((w64 ((w64 ((w64 ((w64 ((w64 ((w64 (0 + w64 (x0 * 0))) + w64 (x1 * 0))) + w64 (x2 * 0))) + w64 (x3 * 0))) + w64 (x4 * 0))) + w64 (x5 * 0))) + w64 (x6 * 0))) + w64 (x7 * 0))) + w64 (x8 * 1))) + w64 (x9 * 0))) + w64 (x10 * 0))) + w64 (x11 * 0))) + w64 (x12 * 0))) + w64 (x13 * 0))) + w64 (x14 * 0))) + w64 (x15 * 0)),
 w64 ((w64 ((w64 ((w64 ((w64 ((w64 ((w64 ((w64 ((w64 ((w64 ((w64 ((w64 ((w64 ((w64 ((w64 ((w64 (0 + w64 (x0 * 0))) + w64 (x1 * 0))) + w64 (x2 * 0))) + w64 (x3 * 0))) + w64 (x4 * 0))) + w64 (x5 * 0))) + w64 (x6 * 0))) + w64 (x7 * 0))) + w64 (x8 * 0))) + w64 (x9 * 1))) + w64 (x10 * 0))) + w64 (x11 * 0))) + w64 (x12 * 0))) + w64 (x13 * 0))) + w64 (x14 * 0))) + w64 (x15 * 0)),
 w64 ((w64 ((w64 ((w64 ((w64 ((w64 ((w64 ((w64 ((w64 ((w64 ((w64 ((w64 ((w64 ((w64 ((w64 ((w64 (0 + w64 (x0 * 0))) + w64 (x1 * 0))) + w64 (x2 * 0))) + w64 (x3 * 0))) + w64 (x4 * 0))) + w64 (x5 * 0))) + w64 (x6 * 0))) + w64 (x7 * 0))) + w64 (x8 * 0))) + w64 (x9 * 0))) + w64 (x10 * 1))) + w64 (x11 * 0))) + w64 (x12 * 0))) + w64 (x13 * 0))) + w64 (x14 * 0))) + w64 (x15 * 0)),
 w64 ((w64 ((w64 ((w64 ((w64 ((w64 ((w64 ((w64 ((w64 ((w64 ((w64 ((w64 ((w64 ((w64 ((w64 ((w64 (0 + w64 (x0 * 0))) + w64 (x1 * 0))) + w64 (x2 * 0))) + w64 (x3 * 0))) + w64 (x4 * 0))) + w64 (x5 * 0))) + w64 (x6 * 0))) + w64 (x7 * 0))) + w64 (x8 * 0))) + w64 (x9 * 0))) + w64 (x10 * 0))) + w64 (x11 * 1))) + w64 (x12 * 0))) + w64 (x13 * 0))) + w64 (x14 * 0))) + w64 (x15 * 0)),
 w64 ((w64 ((w64 ((w64 ((w64 ((w64 ((w64 ((w64 ((w64 ((w64 ((w64 ((w64 ((w64 ((w64 ((w64 ((w64 (0 + w64 (x0 * 0))) + w64 (x1 * 0))) + w64 (x2 * 0))) + w64 (x3 * 0))) + w64 (x4 * 0))) + w64 (x5 * 0))) + w64 (x6 * 0))) + w64 (x7 * 0))) + w64 (x8 * 0))) + w64 (x9 * 0))) + w64 (x10 * 0))) + w64 (x11 * 0))) + w64 (x12 * 1))) + w64 (x13 * 0))) + w64 (x14 * 0))) + w64 (x15 * 0)),
 w64 ((w64 ((w64 ((w64 ((w64 ((w64 ((w64 ((w64 ((w64 ((w64 ((w64 ((w64 ((w64 ((w64 ((w64 ((w64 (0 + w64 (x0 * 0))) + w64 (x1 * 0))) + w64 (x2 * 0))) + w64 (x3 * 0))) + w64 (x4 * 0))) + w64 (x5 * 0))) + w64 (x6 * 0))) + w64 (x7 * 0))) + w64 (x8 * 0))) + w64 (x9 * 0))) + w64 (x10 * 0))) + w64 (x11 * 0))) + w64 (x12 * 0))) + w64 (x13 * 1))) + w64 (x14 * 0))) + w64 (x15 * 0)),
 w64 ((w64 ((w64 ((w64 ((w64 ((w64 ((w64 ((w64 ((w64 ((w64 ((w64 ((w64 ((w64 ((w64 ((w64 ((w64 (0 + w64 (x0 * 0))) + w64 (x1 * 0))) + w64 (x2 * 0))) + w64 (x3 * 0))) + w64 (x4 * 0))) + w64 (x5 * 0))) + w64 (x6 * 0))) + w64 (x7 * 0))) + w64 (x8 * 0))) + w64 (x9 * 0))) + w64 (x10 * 0))) + w64 (x11 * 0))) + w64 (x12 * 0))) + w64 (x13 * 0))) + w64 (x14 * 1))) + w64 (x15 * 0)),
 w64 ((w64 ((w64 ((w64 ((w64 ((w64 ((w64 ((w64 ((w64 ((w64 ((w64 ((w64 ((w64 ((w64 ((w64 ((w64 (0 + w64 (x0 * 0))) + w64 (x1 * 0))) + w64 (x2 * 0))) + w64 (x3 * 0))) + w64 (x4 * 0))) + w64 (x5 * 0))) + w64 (x6 * 0))) + w64 (x7 * 0))) + w64 (x8 * 0))) + w64 (x9 * 0))) + w64 (x10 * 0))) + w64 (x11 * 0))) + w64 (x12 * 0))) + w64 (x13 * 0))) + w64 (x14 * 0))) + w64 (x15 * 1))] := by kernel_rfl
theorem wb_same4_0 (x0 x1 x2 x3 x4 x5 x6 x7 x8 x9 x10 x11 x12 x13 x14 x15 : Int) (h : ∀ v ∈ [x0, x1, x2, x3, x4, x5, x6, x7, x8, x9, x10, x11, x12, x13, x14, x15], -1000000000 ≤ v ∧ v ≤ 1000000000) : wave_each_with_wave_Blur_1 4 [x0, x1, x2, x3, x4, x5, x6, x7, x8, x9, x10, x11, x12, x13, x14, x15] 0 = ref_Blur [x0, x1, x2, x3, x4, x5, x6, x7, x8, x9, x10, x11, x12, x13, x14, x15] 0 := by
  rw [wb_each4_0, wb_blur4_0]
  simp only [ww_al, ww_ar, ww_ml, ww_mr]
  refine congrArg some ?_
  repeat (refine congr (congrArg List.cons (congrArg w64 (by omega))) ?_)
  rfl
theorem wb_each4_1 (x0 x1 x2 x3 x4 x5 x6 x7 x8 x9 x10 x11 x12 x13 x14 x15 : Int) : wave_each_with_wave_Blur_1 4 [x0, x1, x2, x3, x4, x5, x6, x7, x8, x9, x10, x11, x12, x13, x14, x15] 1 = some [w64 ((w64 ((w64 ((w64 (x0 + w64 (1 * x1))) + w64 (1 * (w64 (x2 + w64 (1 * x3)))))) + w64 (1 * (w64 ((w64 (x4 + w64 (1 * x5))) + w64 (1 * (w64 (x6 + w64 (1 * x7))))))))) + w64 (1 * (w64 ((w64 ((w64 (x8 + w64 (1 * x9))) + w64 (1 * (w64 (x10 + w64 (1 * x11)))))) + w64 (1 * (w64 ((w64 (x12 + w64 (1 * x13))) + w64 (1 * (w64 (x14 + w64 (1 * x15))))))))))),
 w64 ((w64 ((w64 ((w64 (w64 (1 * x0) + x1)) + w64 (1 * (w64 (w64 (1 * x2) + x3))))) + w64 (1 * (w64 ((w64 (w64 (1 * x4) + x5)) + w64 (1 * (w64 (w64 (1 * x6) + x7)))))))) + w64 (1 * (w64 ((w64 ((w64 (w64 (1 * x8) + x9)) + w64 (1 * (w64 (w64 (1 * x10) + x11))))) + w64 (1 * (w64 ((w64 (w64 (1 * x12) + x13)) + w64 (1 * (w64 (w64 (1 * x14) + x15)))))))))),
 w64 ((w64 ((w64 (w64 (1 * (w64 (x0 + w64 (1 * x1)))) + (w64 (x2 + w64 (1 * x3))))) + w64 (1 * (w64 (w64 (1 * (w64 (x4 + w64 (1 * x5)))) + (w64 (x6 + w64 (1 * x7)))))))) + w64 (1 * (w64 ((w64 (w64 (1 * (w64 (x8 + w64 (1 * x9)))) + (w64 (x10 + w64 (1 * x11))))) + w64 (1 * (w64 (w64 (1 * (w64 (x12 + w64 (1 * x13)))) + (w64 (x14 + w64 (1 * x15)))))))))),
 w64 ((w64 ((w64 (w64 (1 * (w64 (w64 (1 * x0) + x1))) + (w64 (w64 (1 * x2) + x3)))) + w64 (1 * (w64 (w64 (1 * (w64 (w64 (1 * x4) + x5))) + (w64 (w64 (1 * x6) + x7))))))) + w64 (1 * (w64 ((w64 (w64 (1 * (w64 (w64 (1 * x8) + x9))) + (w64 (w64 (1 * x10) + x11)))) + w64 (1 * (w64 (w64 (1 * (w64 (w64 (1 * x12) + x13))) + (w64 (w64 (1 * x14) + x15))))))))),
 w64 ((w64 (w64 (1 * (w64 ((w64 (x0 + w64 (1 * x1))) + w64 (1 * (w64 (x2 + w64 (1 * x3))))))) + (w64 ((w64 (x4 + w64 (1 * x5))) + w64 (1 * (w64 (x6 + w64 (1 * x7)))))))) + w64 (1 * (w64 (w64 (1 * (w64 ((w64 (x8 + w64 (1 * x9))) + w64 (1 * (w64 (x10 + w64 (1 * x11))))))) + (w64 ((w64 (x12 + w64 (1 * x13))) + w64 (1 * (w64 (x14 + w64 (1 * x15)))))))))),
 w64 ((w64 (w64 (1 * (w64 ((w64 (w64 (1 * x0) + x1)) + w64 (1 * (w64 (w64 (1 * x2) + x3)))))) + (w64 ((w64 (w64 (1 * x4) + x5)) + w64 (1 * (w64 (w64 (1 * x6) + x7))))))) + w64 (1 * (w64 (w64 (1 * (w64 ((w64 (w64 (1 * x8) + x9)) + w64 (1 * (w64 (w64 (1 * x10) + x11)))))) + (w64 ((w64 (w64 (1 * x12) + x13)) + w64 (1 * (w64 (w64 (1 * x14) + x15))))))))),
 w64 ((w64 (w64 (1 * (w64 (w64 (1 * (w64 (x0 + w64 (1 * x1)))) + (w64 (x2 + w64 (1 * x3)))))) + (w64 (w64 (1 * (w64 (x4 + w64 (1 * x5)))) + (w64 (x6 + w64 (1 * x7))))))) + w64 (1 * (w64 (w64 (1 * (w64 (w64 (1 * (w64 (x8 + w64 (1 * x9)))) + (w64 (x10 + w64 (1 * x11)))))) + (w64 (w64 (1 * (w64 (x12 + w64 (1 * x13)))) + (w64 (x14 + w64 (1 * x15))))))))),
 w64 ((w64 (w64 (1 * (w64 (w64 (1 * (w64 (w64 (1 * x0) + x1))) + (w64 (w64 (1 * x2) + x3))))) + (w64 (w64 (1 * (w64 (w64 (1 * x4) + x5))) + (w64 (w64 (1 * x6) + x7)))))) + w64 (1 * (w64 (w64 (1 * (w64 (w64 (1 * (w64 (w64 (1 * x8) + x9))) + (w64 (w64 (1 * x10) + x11))))) + (w64 (w64 (1 * (w64 (w64 (1 * x12) + x13))) + (w64 (w64 (1 * x14) + x15)))))))),
 w64 (w64 (1 * (w64 ((w64 ((w64 (x0 + w64 (1 * x1))) + w64 (1 * (w64 (x2 + w64 (1 * x3)))))) + w64 (1 * (w64 ((w64 (x4 + w64 (1 * x5))) + w64 (1 * (w64 (x6 + w64 (1 * x7)))))))))) + (w64 ((w64 ((w64 (x8 + w64 (1 * x9))) + w64 (1 * (w64 (x10 + w64 (1 * x11)))))) + w64 (1 * (w64 ((w64 (x12 + w64 (1 * x13))) + w64 (1 * (w64 (x14 + w64 (1 * x15)))))))))),
 w64 (w64 (1 * (w64 ((w64 ((w64 (w64 (1 * x0) + x1)) + w64 (1 * (w64 (w64 (1 * x2) + x3))))) + w64 (1 * (w64 ((w64 (w64 (1 * x4) + x5)) + w64 (1 * (w64 (w64 (1 * x6) + x7))))))))) + (w64 ((w64 ((w64 (w64 (1 * x8) + x9)) + w64 (1 * (w64 (w64 (1 * x10) + x11))))) + w64 (1 * (w64 ((w64 (w64 (1 * x12) + x13)) + w64 (1 * (w64 (w64 (1 * x14) + x15))))))))),
 w64 (w64 (1 * (w64 ((w64 (w64 (1 * (w64 (x0 + w64 (1 * x1)))) + (w64 (x2 + w64 (1 * x3))))) + w64 (1 * (w64 (w64 (1 * (w64 (x4 + w64 (1 * x5)))) + (w64 (x6 + w64 (1 * x7))))))))) + (w64 ((w64 (w64 (1 * (w64 (x8 + w64 (1 * x9)))) + (w64 (x10 + w64 (1 * x11))))) + w64 (1 * (w64 (w64 (1 * (w64 (x12 + w64 (1 * x13)))) + (w64 (x14 + w64 (1 * x15))))))))),
 w64 (w64 (1 * (w64 ((w64 (w64 (1 * (w64 (w64 (1 * x0) + x1))) + (w64 (w64 (1 * x2) + x3)))) + w64 (1 * (w64 (w64 (1 * (w64 (w64 (1 * x4) + x5))) + (w64 (w64 (1 * x6) + x7)))))))) + (w64 ((w64 (w64 (1 * (w64 (w64 (1 * x8) + x9))) + (w64 (w64 (1 * x10) + x11)))) + w64 (1 * (w64 (w64 (1 * (w64 (w64 (1 * x12) + x13))) + (w64 (w64 (1 * x14) + x15)))))))),
 w64 (w64 (1 * (w64 (w64 (1 * (w64 ((w64 (x0 + w64 (1 * x1))) + w64 (1 * (w64 (x2 + w64 (1 * x3))))))) + (w64 ((w64 (x4 + w64 (1 * x5))) + w64 (1 * (w64 (x6 + w64 (1 * x7))))))))) + (w64 (w64 (1 * (w64 ((w64 (x8 + w64 (1 * x9))) + w64 (1 * (w64 (x10 + w64 (1 * x11))))))) + (w64 ((w64 (x12 + w64 (1 * x13))) + w64 (1 * (w64 (x14 + w64 (1 * x15))))))))),
 w64 (w64 (1 * (w64 (w64 (1 * (w64 ((w64 (w64 (1 * x0) + x1)) + w64 (1 * (w64 (w64 (1 * x2) + x3)))))) + (w64 ((w64 (w64 (1 * x4) + x5)) + w64 (1 * (w64 (w64 (1 * x6) + x7)))))))) + (w64 (w64 (1 * (w64 ((w64 (w64 (1 * x8) + x9)) + w64 (1 * (w64 (w64 (1 * x10) + x11)))))) + (w64 ((w64 (w64 (1 * x12) + x13)) + w64 (1 * (w64 (w64 (1 * x14) + x15)))))))),
 w64 (w64 (1 * (w64 (w64 (1 * (w64 (w64 (1 * (w64 (x0 + w64 (1 * x1)))) + (w64 (x2 + w64 (1 * x3)))))) + (w64 (w64 (1 * (w64 (x4 + w64 (1 * x5)))) + (w64 (x6 + w64 (1 * x7)))))))) + (w64 (w64 (1 * (w64 (w64 (1 * (w64 (x8 + w64 (1 * x9)))) + (w64 (x10 + w64 (1 * x11)))))) + (w64 (w64 (1 * (w64 (x12 + w64 (1 * x13)))) + (w64 (x14 + w64 (1 * x15)))))))),
 w64 (w64 (1 * (w64 (w64 (1 * (w64 (w64 (1 * (w64 (w64 (1 * x0) + x1))) + (w64 (w64 (1 * x2) + x3))))) + (w64 (w64 (1 * (w64 (w64 (1 * x4) + x5))) + (w64 (w64 (1 * x6) + x7))))))) + (w64 (w64 (1 * (w64 (w64 (1 * (w64 (w64 (1 * x8) + x9))) + (w64 (w64 (1 * x10) + x11))))) + (w64 (w64 (1 * (w64 (w64 (1 * x12) + x13))) + (w64 (w64 (1 * x14) + x15)))))))] := by kernel_rfl
theorem wb_blur4_1 (x0 x1 x2 x3 x4 x5 x6 x7 x8 x9 x10 x11 x12 x13 x14 x15 : Int) : ref_Blur [x0, x1, x2, x3, x4, x5, x6, x7, x8, x9, x10, x11, x12, x13, x14, x15] 1 = some [w64 ((w64 ((w64 ((w64 ((w64 ((w64 ((w64 ((w64 ((w64 ((w64 ((w64 ((w64 ((w64 ((w64 ((w64 ((w64 (0 + w64 (x0 * 1))) + w64 (x1 * 1))) + w64 (x2 * 1))) + w64 (x3 * 1))) + w64 (x4 * 1))) + w64 (x5 * 1))) + w64 (x6 * 1))) + w64 (x7 * 1))) + w64 (x8 * 1))) + w64 (x9 * 1))) + w64 (x10 * 1))) + w64 (x11 * 1))) + w64 (x12 * 1))) + w64 (x13 * 1))) + w64 (x14 * 1))) + w64 (x15 * 1)),
 w64 ((w64 ((w64 ((w64 ((w64 ((w64 ((w64 ((w64 ((w64 ((w64 ((w64 ((w64 ((w64 ((w64 ((w64 ((w64 (0 + w64 (x0 * 1))) + w64 (x1 * 1))) + w64 (x2 * 1))) + w64 (x3 * 1))) + w64 (x4 * 1))) + w64 (x5 * 1))) + w64 (x6 * 1))) + w64 (x7 * 1))) + w64 (x8 * 1))) + w64 (x9 * 1))) + w64 (x10 * 1))) + w64 (x11 * 1))) + w64 (x12 * 1))) + w64 (x13 * 1))) + w64 (x14 * 1))) + w64 (x15 * 1)),
 w64 ((w64 ((w64 ((w64 ((w64 ((w64 ((w64 ((w64 ((w64 ((w64 ((w64 ((w64 ((w64 ((w64 ((w64 ((w64 (0 + w64 (x0 * 1))) + w64 (x1 * 1))) + w64 (x2 * 1))) + w64 (x3 * 1))) + w64 (x4 * 1))) + w64 (x5 * 1))) + w64 (x6 * 1))) + w64 (x7 * 1))) + w64 (x8 * 1))) + w64 (x9 * 1))) + w64 (x10 * 1))) + w64 (x11 * 1))) + w64 (x12 * 1))) + w64 (x13 * 1))) + w64 (x14 * 1))) + w64 (x15 * 1)),
 w64 ((w64 ((w64 ((w64 ((w64 ((w64 ((w64 ((w64 ((w64 ((w64 ((w64 ((w64 ((w64 ((w64 ((w64 ((w64 (0 + w64 (x0 * 1))) + w64 (x1 * 1))) + w64 (x2 * 1))) + w64 (x3 * 1))) + w64 (x4 * 1))) + w64 (x5 * 1))) + w64 (x6 * 1))) + w64 (x7 * 1))) + w64 (x8 * 1))) + w64 (x9 * 1))) + w64 (x10 * 1))) + w64 (x11 * 1))) + w64 (x12 * 1))) + w64 (x13 * 1))) + w64 (x14 * 1))) + w64 (x15 * 1)),
 w64 ((w64 ((w64 ((w64 ((w64 ((w64 ((w64 ((w64 ((w64 ((w64 ((w64 ((w64 ((w64 ((w64 ((w64 ((w64 (0 + w64 (x0 * 1))) + w64 (x1 * 1))) + w64 (x2 * 1))) + w64 (x3 * 1))) + w64 (x4 * 1))) + w64 (x5 * 1))) + w64 (x6 * 1))) + w64 (x7 * 1))) + w64 (x8 * 1))) + w64 (x9 * 1))) + w64 (x10 * 1))) + w64 (x11 * 1))) + w64 (x12 * 1))) + w64 (x13 * 1))) + w64 (x14 * 1))) + w64 (x15 * 1)),
 w64 ((w64 ((w64 ((w64 ((w64 ((w64 ((w64 ((w64 ((w64 ((w64 ((w64 ((w64 ((w64 ((w64 ((w64 ((w64 (0 + w64 (x0 * 1))) + w64 (x1 * 1))) + w64 (x2 * 1))) + w64 (x3 * 1))) + w64 (x4 * 1))) + w64 (x5 * 1))) + w64 (x6 * 1))) + w64 (x7 * 1))) + w64 (x8 * 1))) + w64 (x9 * 1))) + w64 (x10 * 1))) + w64 (x11 * 1))) + w64 (x12 * 1))) + w64 (x13 * 1))) + w64 (x14 * 1))) + w64 (x15 * 1)),
 w64 ((w64 ((w64 ((w64 ((w64 ((w64 ((w64 ((w64 ((w64 ((w64 ((w64 ((w64 ((w64 ((w64 ((w64 ((w64 (0 + w64 (x0 * 1))) + w64 (x1 * 1))) + w64 (x2 * 1))) + w64 (x3 * 1))) + w64 (x4 * 1))) + w64 (x5 * 1))) + w64 (x6 * 1))) + w64 (x7 * 1))) + w64 (x8 * 1))) + w64 (x9 * 1))) + w64 (x10 * 1))) + w64 (x11 * 1))) + w64 (x12 * 1))) + w64 (x13 * 1))) + w64 (x14 * 1))) + w64 (x15 * 1)),
 w64 ((w64 ((w64 ((w64 ((w64 ((w64 ((w64 ((w64 ((w64 ((w64 ((w64 ((w64 ((w64 ((w64 ((w64 ((w64 (0 + w64 (x0 * 1))) + w64 (x1 * 1))) + w64 (x2 * 1))) + w64 (x3 * 1))) + w64 (x4 * 1))) + w64 (x5 * 1))) + w64 (x6 * 1))) + w64 (x7 * 1))) + w64 (x8 * 1))) + w64 (x9 * 1))) + w64 (x10 * 1))) + w64 (x11 * 1))) + w64 (x12 * 1))) + w64 (x13 * 1))) + w64 (x14 * 1))) + w64 (x15 * 1)),
 w64 ((w64 ((w64 ((w64 ((w64 ((w64 ((w64 ((w64 ((w64 ((w64 ((w64 ((w64 ((w64 ((w64 ((w64 ((w64 (0 + w64 (x0 * 1))) + w64 (x1 * 1))) + w64 (x2 * 1))) + w64 (x3 * 1))) + w64 (x4 * 1))) + w64 (x5 * 1))) + w64 (x6 * 1))) + w64 (x7 * 1))) + w64 (x8 * 1))) + w64 (x9 * 1))) + w64 (x10 * 1))) + w64 (x11 * 1))) + w64 (x12 * 1))) + w64 (x13 * 1))) + w64 (x14 * 1))) + w64 (x15 * 1)),
 w64 ((w64 ((w64 ((w64 ((w64 ((w64 ((w64 ((w64 ((w64 ((w64 ((w64 ((w64 ((w64 ((w64 ((w64 ((w64 (0 + w64 (x0 * 1))) + w64 (x1 * 1))) + w64 (x2 * 1))) + w64 (x3 * 1))) + w64 (x4 * 1))) + w64 (x5 * 1))) + w64 (x6 * 1))) + w64 (x7 * 1))) + w64 (x8 * 1))) + w64 (x9 * 1))) + w64 (x10 * 1))) + w64 (x11 * 1))) + w64 (x12 * 1))) + w64 (x13 * 1))) + w64 (x14 * 1))) + w64 (x15 * 1)),
 w64 ((w64 ((w64 ((w64 ((w64 ((w64 ((w64 ((w64 ((w64 ((w64 ((w64 ((w64 ((w64 ((w64 ((w64 ((w64 (0 + w64 (x0 * 1))) + w64 (x1 * 1))) + w64 (x2 * 1))) + w64 (x3 * 1))) + w64 (x4 * 1))) + w64 (x5 * 1))) + w64 (x6 * 1))) + w64 (x7 * 1))) + w64 (x8 * 1))) + w64 (x9 * 1))) + w64 (x10 * 1))) + w64 (x11 * 1))) + w64 (x12 * 1))) + w64 (x13 * 1))) + w64 (x14 * 1))) + w64 (x15 * 1)),
 w64 ((w64 ((w64 ((w64 ((w64 ((w64 ((w64 ((w64 ((w64 ((w64 ((w64 ((w64 ((w64 ((w64 ((w64 ((w64 (0 + w64 (x0 * 1))) + w64 (x1 * 1))) + w64 (x2 * 1))) + w64 (x3 * 1))) + w64 (x4 * 1))) + w64 (x5 * 1))) + w64 (x6 * 1))) + w64 (x7 * 1))) + w64 (x8 * 1))) + w64 (x9 * 1))) + w64 (x10 * 1))) + w64 (x11 * 1))) + w64 (x12 * 1))) + w64 (x13 * 1))) + w64 (x14 * 1))) + w64 (x15 * 1)),
 w64 ((w64 ((w64 ((w64 ((w64 ((w64 ((w64 ((w64 ((w64 ((w64 ((w64 ((w64 ((w64 ((w64 ((w64 ((w64 (0 + w64 (x0 * 1))) + w64 (x1 * 1))) + w64 (x2 * 1))) + w64 (x3 * 1))) + w64 (x4 * 1))) + w64 (x5 * 1))) + w64 (x6 * 1))) + w64 (x7 * 1))) + w64 (x8 * 1))) + w64 (x9 * 1))) + w64 (x10 * 1))) + w64 (x11 * 1))) + w64 (x12 * 1))) + w64 (x13 * 1))) + w64 (x14 * 1))) + w64 (x15 * 1)),
 w64 ((w64 ((w64 ((w64 ((w64 ((w64 ((w64 ((w64 ((w64 ((w64 ((w64 ((w64 ((w64 ((w64 ((w64 ((w64 (0 + w64 (x0 * 1))) + w64 (x1 * 1))) + w64 (x2 * 1))) + w64 (x3 * 1))) + w64 (x4 * 1))) + w64 (x5 * 1))) + w64 (x6 * 1))) + w64 (x7 * 1))) + w64 (x8 * 1))) + w64 (x9 * 1))) + w64 (x10 * 1))) + w64 (x11 * 1))) + w64 (x12 * 1))) + w64 (x13 * 1))) + w64 (x14 * 1))) + w64 (x15 * 1)),
 w64 ((w64 ((w64 ((w64 ((w64 ((w64 ((w64 ((w64 ((w64 ((w64 ((w64 ((w64 ((w64 ((w64 ((w64 ((w64 (0 + w64 (x0 * 1))) + w64 (x1 * 1))) + w64 (x2 * 1))) + w64 (x3 * 1))) + w64 (x4 * 1))) + w64 (x5 * 1))) + w64 (x6 * 1))) + w64 (x7 * 1))) + w64 (x8 * 1))) + w64 (x9 * 1))) + w64 (x10 * 1))) + w64 (x11 * 1))) + w64 (x12 * 1))) + w64 (x13 * 1))) + w64 (x14 * 1))) + w64 (x15 * 1)),
 w64 ((w64 ((w64 ((w64 ((w64 ((w64 ((w64 ((w64 ((w64 ((w64 ((w64 ((w64 ((w64 ((w64 ((w64 ((w64 (0 + w64 (x0 * 1))) + w64 (x1 * 1))) + w64 (x2 * 1))) + w64 (x3 * 1))) + w64 (x4 * 1))) + w64 (x5 * 1))) + w64 (x6 * 1))) + w64 (x7 * 1))) + w64 (x8 * 1))) + w64 (x9 * 1))) + w64 (x10 * 1))) + w64 (x11 * 1))) + w64 (x12 * 1))) + w64 (x13 * 1))) + w64 (x14 * 1))) + w64 (x15 * 1))] := by kernel_rfl
theorem wb_same4_1 (x0 x1 x2 x3 x4 x5 x6 x7 x8 x9 x10 x11 x12 x13 x14 x15 : Int) (h : ∀ v ∈ [x0, x1, x2, x3, x4, x5, x6, x7, x8, x9, x10, x11, x12, x13, x14, x15], -1000000000 ≤ v ∧ v ≤ 1000000000) : wave_each_with_wave_Blur_1 4 [x0, x1, x2, x3, x4, x5, x6, x7, x8, x9, x10, x11, x12, x13, x14, x15] 1 = ref_Blur [x0, x1, x2, x3, x4, x5, x6, x7, x8, x9, x10, x11, x12, x13, x14, x15] 1 := by
  rw [wb_each4_1, wb_blur4_1]
  simp only [ww_al, ww_ar, ww_ml, ww_mr]
  refine congrArg some ?_
  repeat (refine congr (congrArg List.cons (congrArg w64 (by omega))) ?_)
  rfl
theorem wb_each4_2 (x0 x1 x2 x3 x4 x5 x6 x7 x8 x9 x10 x11 x12 x13 x14 x15 : Int) : wave_each_with_wave_Blur_1 4 [x0, x1, x2, x3, x4, x5, x6, x7, x8, x9, x10, x11, x12, x13, x14, x15] 2 = some [w64 ((w64 ((w64 ((w64 (x0 + w64 (2 * x1))) + w64 (2 * (w64 (x2 + w64 (2 * x3)))))) + w64 (2 * (w64 ((w64 (x4 + w64 (2 * x5))) + w64 (2 * (w64 (x6 + w64 (2 * x7))))))))) + w64 (2 * (w64 ((w64 ((w64 (x8 + w64 (2 * x9))) + w64 (2 * (w64 (x10 + w64 (2 * x11)))))) + w64 (2 * (w64 ((w64 (x12 + w64 (2 * x13))) + w64 (2 * (w64 (x14 + w64 (2 * x15))))))))))),
 w64 ((w64 ((w64 ((w64 (w64 (2 * x0) + x1)) + w64 (2 * (w64 (w64 (2 * x2) + x3))))) + w64 (2 * (w64 ((w64 (w64 (2 * x4) + x5)) + w64 (2 * (w64 (w64 (2 * x6) + x7)))))))) + w64 (2 * (w64 ((w64 ((w64 (w64 (2 * x8) + x9)) + w64 (2 * (w64 (w64 (2 * x10) + x11))))) + w64 (2 * (w64 ((w64 (w64 (2 * x12) + x13)) + w64 (2 * (w64 (w64 (2 * x14) + x15)))))))))),
 w64 ((w64 ((w64 (w64 (2 * (w64 (x0 + w64 (2 * x1)))) + (w64 (x2 + w64 (2 * x3))))) + w64 (2 * (w64 (w64 (2 * (w64 (x4 + w64 (2 * x5)))) + (w64 (x6 + w64 (2 * x7)))))))) + w64 (2 * (w64 ((w64 (w64 (2 * (w64 (x8 + w64 (2 * x9)))) + (w64 (x10 + w64 (2 * x11))))) + w64 (2 * (w64 (w64 (2 * (w64 (x12 + w64 (2 * x13)))) + (w64 (x14 + w64 (2 * x15)))))))))),
 w64 ((w64 ((w64 (w64 (2 * (w64 (w64 (2 * x0) + x1))) + (w64 (w64 (2 * x2) + x3)))) + w64 (2 * (w64 (w64 (2 * (w64 (w64 (2 * x4) + x5))) + (w64 (w64 (2 * x6) + x7))))))) + w64 (2 * (w64 ((w64 (w64 (2 * (w64 (w64 (2 * x8) + x9))) + (w64 (w64 (2 * x10) + x11)))) + w64 (2 * (w64 (w64 (2 * (w64 (w64 (2 * x12) + x13))) + (w64 (w64 (2 * x14) + x15))))))))),
 w64 ((w64 (w64 (2 * (w64 ((w64 (x0 + w64 (2 * x1))) + w64 (2 * (w64 (x2 + w64 (2 * x3))))))) + (w64 ((w64 (x4 + w64 (2 * x5))) + w64 (2 * (w64 (x6 + w64 (2 * x7)))))))) + w64 (2 * (w64 (w64 (2 * (w64 ((w64 (x8 + w64 (2 * x9))) + w64 (2 * (w64 (x10 + w64 (2 * x11))))))) + (w64 ((w64 (x12 + w64 (2 * x13))) + w64 (2 * (w64 (x14 + w64 (2 * x15)))))))))),
 w64 ((w64 (w64 (2 * (w64 ((w64 (w64 (2 * x0) + x1)) + w64 (2 * (w64 (w64 (2 * x2) + x3)))))) + (w64 ((w64 (w64 (2 * x4) + x5)) + w64 (2 * (w64 (w64 (2 * x6) + x7))))))) + w64 (2 * (w64 (w64 (2 * (w64 ((w64 (w64 (2 * x8) + x9)) + w64 (2 * (w64 (w64 (2 * x10) + x11)))))) + (w64 ((w64 (w64 (2 * x12) + x13)) + w64 (2 * (w64 (w64 (2 * x14) + x15))))))))),
 w64 ((w64 (w64 (2 * (w64 (w64 (2 * (w64 (x0 + w64 (2 * x1)))) + (w64 (x2 + w64 (2 * x3)))))) + (w64 (w64 (2 * (w64 (x4 + w64 (2 * x5)))) + (w64 (x6 + w64 (2 * x7))))))) + w64 (2 * (w64 (w64 (2 * (w64 (w64 (2 * (w64 (x8 + w64 (2 * x9)))) + (w64 (x10 + w64 (2 * x11)))))) + (w64 (w64 (2 * (w64 (x12 + w64 (2 * x13)))) + (w64 (x14 + w64 (2 * x15))))))))),
 w64 ((w64 (w64 (2 * (w64 (w64 (2 * (w64 (w64 (2 * x0) + x1))) + (w64 (w64 (2 * x2) + x3))))) + (w64 (w64 (2 * (w64 (w64 (2 * x4) + x5))) + (w64 (w64 (2 * x6) + x7)))))) + w64 (2 * (w64 (w64 (2 * (w64 (w64 (2 * (w64 (w64 (2 * x8) + x9))) + (w64 (w64 (2 * x10) + x11))))) + (w64 (w64 (2 * (w64 (w64 (2 * x12) + x13))) + (w64 (w64 (2 * x14) + x15)))))))),
 w64 (w64 (2 * (w64 ((w64 ((w64 (x0 + w64 (2 * x1))) + w64 (2 * (w64 (x2 + w64 (2 * x3)))))) + w64 (2 * (w64 ((w64 (x4 + w64 (2 * x5))) + w64 (2 * (w64 (x6 + w64 (2 * x7)))))))))) + (w64 ((w64 ((w64 (x8 + w64 (2 * x9))) + w64 (2 * (w64 (x10 + w64 (2 * x11)))))) + w64 (2 * (w64 ((w64 (x12 + w64 (2 * x13))) + w64 (2 * (w64 (x14 + w64 (2 * x15)))))))))),
 w64 (w64 (2 * (w64 ((w64 ((w64 (w64 (2 * x0) + x1)) + w64 (2 * (w64 (w64 (2 * x2) + x3))))) + w64 (2 * (w64 ((w64 (w64 (2 * x4) + x5)) + w64 (2 * (w64 (w64 (2 * x6) + x7))))))))) + (w64 ((w64 ((w64 (w64 (2 * x8) + x9)) + w64 (2 * (w64 (w64 (2 * x10) + x11))))) + w64 (2 * (w64 ((w64 (w64 (2 * x12) + x13)) + w64 (2 * (w64 (w64 (2 * x14) + x15))))))))),
 w64 (w64 (2 * (w64 ((w64 (w64 (2 * (w64 (x0 + w64 (2 * x1)))) + (w64 (x2 + w64 (2 * x3))))) + w64 (2 * (w64 (w64 (2 * (w64 (x4 + w64 (2 * x5)))) + (w64 (x6 + w64 (2 * x7))))))))) + (w64 ((w64 (w64 (2 * (w64 (x8 + w64 (2 * x9)))) + (w64 (x10 + w64 (2 * x11))))) + w64 (2 * (w64 (w64 (2 * (w64 (x12 + w64 (2 * x13)))) + (w64 (x14 + w64 (2 * x15))))))))),
 w64 (w64 (2 * (w64 ((w64 (w64 (2 * (w64 (w64 (2 * x0) + x1))) + (w64 (w64 (2 * x2) + x3)))) + w64 (2 * (w64 (w64 (2 * (w64 (w64 (2 * x4) + x5))) + (w64 (w64 (2 * x6) + x7)))))))) + (w64 ((w64 (w64 (2 * (w64 (w64 (2 * x8) + x9))) + (w64 (w64 (2 * x10) + x11)))) + w64 (2 * (w64 (w64 (2 * (w64 (w64 (2 * x12) + x13))) + (w64 (w64 (2 * x14) + x15)))))))),
 w64 (w64 (2 * (w64 (w64 (2 * (w64 ((w64 (x0 + w64 (2 * x1))) + w64 (2 * (w64 (x2 + w64 (2 * x3))))))) + (w64 ((w64 (x4 + w64 (2 * x5))) + w64 (2 * (w64 (x6 + w64 (2 * x7))))))))) + (w64 (w64 (2 * (w64 ((w64 (x8 + w64 (2 * x9))) + w64 (2 * (w64 (x10 + w64 (2 * x11))))))) + (w64 ((w64 (x12 + w64 (2 * x13))) + w64 (2 * (w64 (x14 + w64 (2 * x15))))))))),
 w64 (w64 (2 * (w64 (w64 (2 * (w64 ((w64 (w64 (2 * x0) + x1)) + w64 (2 * (w64 (w64 (2 * x2) + x3)))))) + (w64 ((w64 (w64 (2 * x4) + x5)) + w64 (2 * (w64 (w64 (2 * x6) + x7)))))))) + (w64 (w64 (2 * (w64 ((w64 (w64 (2 * x8) + x9)) + w64 (2 * (w64 (w64 (2 * x10) + x11)))))) + (w64 ((w64 (w64 (2 * x12) + x13)) + w64 (2 * (w64 (w64 (2 * x14) + x15)))))))),
 w64 (w64 (2 * (w64 (w64 (2 * (w64 (w64 (2 * (w64 (x0 + w64 (2 * x1)))) + (w64 (x2 + w64 (2 * x3)))))) + (w64 (w64 (2 * (w64 (x4 + w64 (2 * x5)))) + (w64 (x6 + w64 (2 * x7)))))))) + (w64 (w64 (2 * (w64 (w64 (2 * (w64 (x8 + w64 (2 * x9)))) + (w64 (x10 + w64 (2 * x11)))))) + (w64 (w64 (2 * (w64 (x12 + w64 (2 * x13)))) + (w64 (x14 + w64 (2 * x15)))))))),
 w64 (w64 (2 * (w64 (w64 (2 * (w64 (w64 (2 * (w64 (w64 (2 * x0) + x1))) + (w64 (w64 (2 * x2) + x3))))) + (w64 (w64 (2 * (w64 (w64 (2 * x4) + x5))) + (w64 (w64 (2 * x6) + x7))))))) + (w64 (w64 (2 * (w64 (w64 (2 * (w64 (w64 (2 * x8) + x9))) + (w64 (w64 (2 * x10) + x11))))) + (w64 (w64 (2 * (w64 (w64 (2 * x12) + x13))) + (w64 (w64 (2 * x14) + x15)))))))] := by kernel_rfl
theorem wb_blur4_2 (x0 x1 x2 x3 x4 x5 x6 x7 x8 x9 x10 x11 x12 x13 x14 x15 : Int) : ref_Blur [x0, x1, x2, x3, x4, x5, x6, x7, x8, x9, x10, x11, x12, x13, x14, x15] 2 = some [w64 ((w64 ((w64 ((w64 ((w64 ((w64 ((w64 ((w64 ((w64 ((w64 ((w64 ((w64 ((w64 ((w64 ((w64 ((w64 (0 + w64 (x0 * 1))) + w64 (x1 * 2))) + w64 (x2 * 2))) + w64 (x3 * 4))) + w64 (x4 * 2))) + w64 (x5 * 4))) + w64 (x6 * 4))) + w64 (x7 * 8))) + w64 (x8 * 2))) + w64 (x9 * 4))) + w64 (x10 * 4))) + w64 (x11 * 8))) + w64 (x12 * 4))) + w64 (x13 * 8))) + w64 (x14 * 8))) + w64 (x15 * 16)),
 w64 ((w64 ((w64 ((w64 ((w64 ((w64 ((w64 ((w64 ((w64 ((w64 ((w64 ((w64 ((w64 ((w64 ((w64 ((w64 (0 + w64 (x0 * 2))) + w64 (x1 * 1))) + w64 (x2 * 4))) + w64 (x3 * 2))) + w64 (x4 * 4))) + w64 (x5 * 2))) + w64 (x6 * 8))) + w64 (x7 * 4))) + w64 (x8 * 4))) + w64 (x9 * 2))) + w64 (x10 * 8))) + w64 (x11 * 4))) + w64 (x12 * 8))) + w64 (x13 * 4))) + w64 (x14 * 16))) + w64 (x15 * 8)),
 w64 ((w64 ((w64 ((w64 ((w64 ((w64 ((w64 ((w64 ((w64 ((w64 ((w64 ((w64 ((w64 ((w64 ((w64 ((w64 (0 + w64 (x0 * 2))) + w64 (x1 * 4))) + w64 (x2 * 1))) + w64 (x3 * 2))) + w64 (x4 * 4))) + w64 (x5 * 8))) + w64 (x6 * 2))) + w64 (x7 * 4))) + w64 (x8 * 4))) + w64 (x9 * 8))) + w64 (x10 * 2))) + w64 (x11 * 4))) + w64 (x12 * 8))) + w64 (x13 * 16))) + w64 (x14 * 4))) + w64 (x15 * 8)),
 w64 ((w64 ((w64 ((w64 ((w64 ((w64 ((w64 ((w64 ((w64 ((w64 ((w64 ((w64 ((w64 ((w64 ((w64 ((w64 (0 + w64 (x0 * 4))) + w64 (x1 * 2))) + w64 (x2 * 2))) + w64 (x3 * 1))) + w64 (x4 * 8))) + w64 (x5 * 4))) + w64 (x6 * 4))) + w64 (x7 * 2))) + w64 (x8 * 8))) + w64 (x9 * 4))) + w64 (x10 * 4))) + w64 (x11 * 2))) + w64 (x12 * 16))) + w64 (x13 * 8))) + w64 (x14 * 8))) + w64 (x15 * 4)),
 w64 ((w64 ((w64 ((w64 ((w64 ((w64 ((w64 ((w64 ((w64 ((w64 ((w64 ((w64 ((w64 ((w64 ((w64 ((w64 (0 + w64 (x0 * 2))) + w64 (x1 * 4))) + w64 (x2 * 4))) + w64 (x3 * 8))) + w64 (x4 * 1))) + w64 (x5 * 2))) + w64 (x6 * 2))) + w64 (x7 * 4))) + w64 (x8 * 4))) + w64 (x9 * 8))) + w64 (x10 * 8))) + w64 (x11 * 16))) + w64 (x12 * 2))) + w64 (x13 * 4))) + w64 (x14 * 4))) + w64 (x15 * 8)),
 w64 ((w64 ((w64 ((w64 ((w64 ((w64 ((w64 ((w64 ((w64 ((w64 ((w64 ((w64 ((w64 ((w64 ((w64 ((w64 (0 + w64 (x0 * 4))) + w64 (x1 * 2))) + w64 (x2 * 8))) + w64 (x3 * 4))) + w64 (x4 * 2))) + w64 (x5 * 1))) + w64 (x6 * 4))) + w64 (x7 * 2))) + w64 (x8 * 8))) + w64 (x9 * 4))) + w64 (x10 * 16))) + w64 (x11 * 8))) + w64 (x12 * 4))) + w64 (x13 * 2))) + w64 (x14 * 8))) + w64 (x15 * 4)),
 w64 ((w64 ((w64 ((w64 ((w64 ((w64 ((w64 ((w64 ((w64 ((w64 ((w64 ((w64 ((w64 ((w64 ((w64 ((w64 (0 + w64 (x0 * 4))) + w64 (x1 * 8))) + w64 (x2 * 2))) + w64 (x3 * 4))) + w64 (x4 * 2))) + w64 (x5 * 4))) + w64 (x6 * 1))) + w64 (x7 * 2))) + w64 (x8 * 8))) + w64 (x9 * 16))) + w64 (x10 * 4))) + w64 (x11 * 8))) + w64 (x12 * 4))) + w64 (x13 * 8))) + w64 (x14 * 2))) + w64 (x15 * 4)),
 w64 ((w64 ((w64 ((w64 ((w64 ((w64 ((w64 ((w64 ((w64 ((w64 ((w64 ((w64 ((w64 ((w64 ((w64 ((w64 (0 + w64 (x0 * 8))) + w64 (x1 * 4))) + w64 (x2 * 4))) + w64 (x3 * 2))) + w64 (x4 * 4))) + w64 (x5 * 2))) + w64 (x6 * 2))) + w64 (x7 * 1))) + w64 (x8 * 16))) + w64 (x9 * 8))) + w64 (x10 * 8))) + w64 (x11 * 4))) + w64 (x12 * 8))) + w64 (x13 * 4))) + w64 (x14 * 4))) + w64 (x15 * 2)),
 w64 ((w64 ((w64 ((w64 ((w64 ((w64 ((w64 ((w64 ((w64 ((w64 ((w64 ((w64 ((w64 ((w64 ((w64 ((w64 (0 + w64 (x0 * 2))) + w64 (x1 * 4))) + w64 (x2 * 4))) + w64 (x3 * 8))) + w64 (x4 * 4))) + w64 (x5 * 8))) + w64 (x6 * 8))) + w64 (x7 * 16))) + w64 (x8 * 1))) + w64 (x9 * 2))) + w64 (x10 * 2))) + w64 (x11 * 4))) + w64 (x12 * 2))) + w64 (x13 * 4))) + w64 (x14 * 4))) + w64 (x15 * 8)),
 w64 ((w64 ((w64 ((w64 ((w64 ((w64 ((w64 ((w64 ((w64 ((w64 ((w64 ((w64 ((w64 ((w64 ((w64 ((w64 (0 + w64 (x0 * 4))) + w64 (x1 * 2))) + w64 (x2 * 8))) + w64 (x3 * 4))) + w64 (x4 * 8))) + w64 (x5 * 4))) + w64 (x6 * 16))) + w64 (x7 * 8))) + w64 (x8 * 2))) + w64 (x9 * 1))) + w64 (x10 * 4))) + w64 (x11 * 2))) + w64 (x12 * 4))) + w64 (x13 * 2))) + w64 (x14 * 8))) + w64 (x15 * 4)),
 w64 ((w64 ((w64 ((w64 ((w64 ((w64 ((w64 ((w64 ((w64 ((w64 ((w64 ((w64 ((w64 ((w64 ((w64 ((w64 (0 + w64 (x0 * 4))) + w64 (x1 * 8))) + w64 (x2 * 2))) + w64 (x3 * 4))) + w64 (x4 * 8))) + w64 (x5 * 16))) + w64 (x6 * 4))) + w64 (x7 * 8))) + w64 (x8 * 2))) + w64 (x9 * 4))) + w64 (x10 * 1))) + w64 (x11 * 2))) + w64 (x12 * 4))) + w64 (x13 * 8))) + w64 (x14 * 2))) + w64 (x15 * 4)),
 w64 ((w64 ((w64 ((w64 ((w64 ((w64 ((w64 ((w64 ((w64 ((w64 ((w64 ((w64 ((w64 ((w64 ((w64 ((w64 (0 + w64 (x0 * 8))) + w64 (x1 * 4))) + w64 (x2 * 4))) + w64 (x3 * 2))) + w64 (x4 * 16))) + w64 (x5 * 8))) + w64 (x6 * 8))) + w64 (x7 * 4))) + w64 (x8 * 4))) + w64 (x9 * 2))) + w64 (x10 * 2))) + w64 (x11 * 1))) + w64 (x12 * 8))) + w64 (x13 * 4))) + w64 (x14 * 4))) + w64 (x15 * 2)),
 w64 ((w64 ((w64 ((w64 ((w64 ((w64 ((w64 ((w64 ((w64 ((w64 ((w64 ((w64 ((w64 ((w64 ((w64 ((w64 (0 + w64 (x0 * 4))) + w64 (x1 * 8))) + w64 (x2 * 8))) + w64 (x3 * 16))) + w64 (x4 * 2))) + w64 (x5 * 4))) + w64 (x6 * 4))) + w64 (x7 * 8))) + w64 (x8 * 2))) + w64 (x9 * 4))) + w64 (x10 * 4))) + w64 (x11 * 8))) + w64 (x12 * 1))) + w64 (x13 * 2))) + w64 (x14 * 2))) + w64 (x15 * 4)),
 w64 ((w64 ((w64 ((w64 ((w64 ((w64 ((w64 ((w64 ((w64 ((w64 ((w64 ((w64 ((w64 ((w64 ((w64 ((w64 (0 + w64 (x0 * 8))) + w64 (x1 * 4))) + w64 (x2 * 16))) + w64 (x3 * 8))) + w64 (x4 * 4))) + w64 (x5 * 2))) + w64 (x6 * 8))) + w64 (x7 * 4))) + w64 (x8 * 4))) + w64 (x9 * 2))) + w64 (x10 * 8))) + w64 (x11 * 4))) + w64 (x12 * 2))) + w64 (x13 * 1))) + w64 (x14 * 4))) + w64 (x15 * 2)),
 w64 ((w64 ((w64 ((w64 ((w64 ((w64 ((w64 ((w64 ((w64 ((w64 ((w64 ((w64 ((w64 ((w64 ((w64 ((w64 (0 + w64 (x0 * 8))) + w64 (x1 * 16))) + w64 (x2 * 4))) + w64 (x3 * 8))) + w64 (x4 * 4))) + w64 (x5 * 8))) + w64 (x6 * 2))) + w64 (x7 * 4))) + w64 (x8 * 4))) + w64 (x9 * 8))) + w64 (x10 * 2))) + w64 (x11 * 4))) + w64 (x12 * 2))) + w64 (x13 * 4))) + w64 (x14 * 1))) + w64 (x15 * 2)),
 w64 ((w64 ((w64 ((w64 ((w64 ((w64 ((w64 ((w64 ((w64 ((w64 ((w64 ((w64 ((w64 ((w64 ((w64 ((w64 (0 + w64 (x0 * 16))) + w64 (x1 * 8))) + w64 (x2 * 8))) + w64 (x3 * 4))) + w64 (x4 * 8))) + w64 (x5 * 4))) + w64 (x6 * 4))) + w64 (x7 * 2))) + w64 (x8 * 8))) + w64 (x9 * 4))) + w64 (x10 * 4))) + w64 (x11 * 2))) + w64 (x12 * 4))) + w64 (x13 * 2))) + w64 (x14 * 2))) + w64 (x15 * 1))] := by kernel_rfl
theorem wb_same4_2 (x0 x1 x2 x3 x4 x5 x6 x7 x8 x9 x10 x11 x12 x13 x14 x15 : Int) (h : ∀ v ∈ [x0, x1, x2, x3, x4, x5, x6, x7, x8, x9, x10, x11, x12, x13, x14, x15], -1000000000 ≤ v ∧ v ≤ 1000000000) : wave_each_with_wave_Blur_1 4 [x0, x1, x2, x3, x4, x5, x6, x7, x8, x9, x10, x11, x12, x13, x14, x15] 2 = ref_Blur [x0, x1, x2, x3, x4, x5, x6, x7, x8, x9, x10, x11, x12, x13, x14, x15] 2 := by
  rw [wb_each4_2, wb_blur4_2]
  simp only [ww_al, ww_ar, ww_ml, ww_mr]
  refine congrArg some ?_
  repeat (refine congr (congrArg List.cons (congrArg w64 (by omega))) ?_)
  rfl
theorem wb_each4_3 (x0 x1 x2 x3 x4 x5 x6 x7 x8 x9 x10 x11 x12 x13 x14 x15 : Int) : wave_each_with_wave_Blur_1 4 [x0, x1, x2, x3, x4, x5, x6, x7, x8, x9, x10, x11, x12, x13, x14, x15] 3 = some [w64 ((w64 ((w64 ((w64 (x0 + w64 (3 * x1))) + w64 (3 * (w64 (x2 + w64 (3 * x3)))))) + w64 (3 * (w64 ((w64 (x4 + w64 (3 * x5))) + w64 (3 * (w64 (x6 + w64 (3 * x7))))))))) + w64 (3 * (w64 ((w64 ((w64 (x8 + w64 (3 * x9))) + w64 (3 * (w64 (x10 + w64 (3 * x11)))))) + w64 (3 * (w64 ((w64 (x12 + w64 (3 * x13))) + w64 (3 * (w64 (x14 + w64 (3 * x15))))))))))),
 w64 ((w64 ((w64 ((w64 (w64 (3 * x0) + x1)) + w64 (3 * (w64 (w64 (3 * x2) + x3))))) + w64 (3 * (w64 ((w64 (w64 (3 * x4) + x5)) + w64 (3 * (w64 (w64 (3 * x6) + x7)))))))) + w64 (3 * (w64 ((w64 ((w64 (w64 (3 * x8) + x9)) + w64 (3 * (w64 (w64 (3 * x10) + x11))))) + w64 (3 * (w64 ((w64 (w64 (3 * x12) + x13)) + w64 (3 * (w64 (w64 (3 * x14) + x15)))))))))),
 w64 ((w64 ((w64 (w64 (3 * (w64 (x0 + w64 (3 * x1)))) + (w64 (x2 + w64 (3 * x3))))) + w64 (3 * (w64 (w64 (3 * (w64 (x4 + w64 (3 * x5)))) + (w64 (x6 + w64 (3 * x7)))))))) + w64 (3 * (w64 ((w64 (w64 (3 * (w64 (x8 + w64 (3 * x9)))) + (w64 (x10 + w64 (3 * x11))))) + w64 (3 * (w64 (w64 (3 * (w64 (x12 + w64 (3 * x13)))) + (w64 (x14 + w64 (3 * x15)))))))))),
 w64 ((w64 ((w64 (w64 (3 * (w64 (w64 (3 * x0) + x1))) + (w64 (w64 (3 * x2) + x3)))) + w64 (3 * (w64 (w64 (3 * (w64 (w64 (3 * x4) + x5))) + (w64 (w64 (3 * x6) + x7))))))) + w64 (3 * (w64 ((w64 (w64 (3 * (w64 (w64 (3 * x8) + x9))) + (w64 (w64 (3 * x10) + x11)))) + w64 (3 * (w64 (w64 (3 * (w64 (w64 (3 * x12) + x13))) + (w64 (w64 (3 * x14) + x15))))))))),
 w64 ((w64 (w64 (3 * (w64 ((w64 (x0 + w64 (3 * x1))) + w64 (3 * (w64 (x2 + w64 (3 * x3))))))) + (w64 ((w64 (x4 + w64 (3 * x5))) + w64 (3 * (w64 (x6 + w64 (3 * x7)))))))) + w64 (3 * (w64 (w64 (3 * (w64 ((w64 (x8 + w64 (3 * x9))) + w64 (3 * (w64 (x10 + w64 (3 * x11))))))) + (w64 ((w64 (x12 + w64 (3 * x13))) + w64 (3 * (w64 (x14 + w64 (3 * x15)))))))))),
 w64 ((w64 (w64 (3 * (w64 ((w64 (w64 (3 * x0) + x1)) + w64 (3 * (w64 (w64 (3 * x2) + x3)))))) + (w64 ((w64 (w64 (3 * x4) + x5)) + w64 (3 * (w64 (w64 (3 * x6) + x7))))))) + w64 (3 * (w64 (w64 (3 * (w64 ((w64 (w64 (3 * x8) + x9)) + w64 (3 * (w64 (w64 (3 * x10) + x11)))))) + (w64 ((w64 (w64 (3 * x12) + x13)) + w64 (3 * (w64 (w64 (3 * x14) + x15))))))))),
 w64 ((w64 (w64 (3 * (w64 (w64 (3 * (w64 (x0 + w64 (3 * x1)))) + (w64 (x2 + w64 (3 * x3)))))) + (w64 (w64 (3 * (w64 (x4 + w64 (3 * x5)))) + (w64 (x6 + w64 (3 * x7))))))) + w64 (3 * (w64 (w64 (3 * (w64 (w64 (3 * (w64 (x8 + w64 (3 * x9)))) + (w64 (x10 + w64 (3 * x11)))))) + (w64 (w64 (3 * (w64 (x12 + w64 (3 * x13)))) + (w64 (x14 + w64 (3 * x15))))))))),
 w64 ((w64 (w64 (3 * (w64 (w64 (3 * (w64 (w64 (3 * x0) + x1))) + (w64 (w64 (3 * x2) + x3))))) + (w64 (w64 (3 * (w64 (w64 (3 * x4) + x5))) + (w64 (w64 (3 * x6) + x7)))))) + w64 (3 * (w64 (w64 (3 * (w64 (w64 (3 * (w64 (w64 (3 * x8) + x9))) + (w64 (w64 (3 * x10) + x11))))) + (w64 (w64 (3 * (w64 (w64 (3 * x12) + x13))) + (w64 (w64 (3 * x14) + x15)))))))),
 w64 (w64 (3 * (w64 ((w64 ((w64 (x0 + w64 (3 * x1))) + w64 (3 * (w64 (x2 + w64 (3 * x3)))))) + w64 (3 * (w64 ((w64 (x4 + w64 (3 * x5))) + w64 (3 * (w64 (x6 + w64 (3 * x7)))))))))) + (w64 ((w64 ((w64 (x8 + w64 (3 * x9))) + w64 (3 * (w64 (x10 + w64 (3 * x11)))))) + w64 (3 * (w64 ((w64 (x12 + w64 (3 * x13))) + w64 (3 * (w64 (x14 + w64 (3 * x15)))))))))),
 w64 (w64 (3 * (w64 ((w64 ((w64 (w64 (3 * x0) + x1)) + w64 (3 * (w64 (w64 (3 * x2) + x3))))) + w64 (3 * (w64 ((w64 (w64 (3 * x4) + x5)) + w64 (3 * (w64 (w64 (3 * x6) + x7))))))))) + (w64 ((w64 ((w64 (w64 (3 * x8) + x9)) + w64 (3 * (w64 (w64 (3 * x10) + x11))))) + w64 (3 * (w64 ((w64 (w64 (3 * x12) + x13)) + w64 (3 * (w64 (w64 (3 * x14) + x15))))))))),
 w64 (w64 (3 * (w64 ((w64 (w64 (3 * (w64 (x0 + w64 (3 * x1)))) + (w64 (x2 + w64 (3 * x3))))) + w64 (3 * (w64 (w64 (3 * (w64 (x4 + w64 (3 * x5)))) + (w64 (x6 + w64 (3 * x7))))))))) + (w64 ((w64 (w64 (3 * (w64 (x8 + w64 (3 * x9)))) + (w64 (x10 + w64 (3 * x11))))) + w64 (3 * (w64 (w64 (3 * (w64 (x12 + w64 (3 * x13)))) + (w64 (x14 + w64 (3 * x15))))))))),
 w64 (w64 (3 * (w64 ((w64 (w64 (3 * (w64 (w64 (3 * x0) + x1))) + (w64 (w64 (3 * x2) + x3)))) + w64 (3 * (w64 (w64 (3 * (w64 (w64 (3 * x4) + x5))) + (w64 (w64 (3 * x6) + x7)))))))) + (w64 ((w64 (w64 (3 * (w64 (w64 (3 * x8) + x9))) + (w64 (w64 (3 * x10) + x11)))) + w64 (3 * (w64 (w64 (3 * (w64 (w64 (3 * x12) + x13))) + (w64 (w64 (3 * x14) + x15)))))))),
 w64 (w64 (3 * (w64 (w64 (3 * (w64 ((w64 (x0 + w64 (3 * x1))) + w64 (3 * (w64 (x2 + w64 (3 * x3))))))) + (w64 ((w64 (x4 + w64 (3 * x5))) + w64 (3 * (w64 (x6 + w64 (3 * x7))))))))) + (w64 (w64 (3 * (w64 ((w64 (x8 + w64 (3 * x9))) + w64 (3 * (w64 (x10 + w64 (3 * x11))))))) + (w64 ((w64 (x12 + w64 (3 * x13))) + w64 (3 * (w64 (x14 + w64 (3 * x15))))))))),
 w64 (w64 (3 * (w64 (w64 (3 * (w64 ((w64 (w64 (3 * x0) + x1)) + w64 (3 * (w64 (w64 (3 * x2) + x3)))))) + (w64 ((w64 (w64 (3 * x4) + x5)) + w64 (3 * (w64 (w64 (3 * x6) + x7)))))))) + (w64 (w64 (3 * (w64 ((w64 (w64 (3 * x8) + x9)) + w64 (3 * (w64 (w64 (3 * x10) + x11)))))) + (w64 ((w64 (w64 (3 * x12) + x13)) + w64 (3 * (w64 (w64 (3 * x14) + x15)))))))),
 w64 (w64 (3 * (w64 (w64 (3 * (w64 (w64 (3 * (w64 (x0 + w64 (3 * x1)))) + (w64 (x2 + w64 (3 * x3)))))) + (w64 (w64 (3 * (w64 (x4 + w64 (3 * x5)))) + (w64 (x6 + w64 (3 * x7)))))))) + (w64 (w64 (3 * (w64 (w64 (3 * (w64 (x8 + w64 (3 * x9)))) + (w64 (x10 + w64 (3 * x11)))))) + (w64 (w64 (3 * (w64 (x12 + w64 (3 * x13)))) + (w64 (x14 + w64 (3 * x15)))))))),
 w64 (w64 (3 * (w64 (w64 (3 * (w64 (w64 (3 * (w64 (w64 (3 * x0) + x1))) + (w64 (w64 (3 * x2) + x3))))) + (w64 (w64 (3 * (w64 (w64 (3 * x4) + x5))) + (w64 (w64 (3 * x6) + x7))))))) + (w64 (w64 (3 * (w64 (w64 (3 * (w64 (w64 (3 * x8) + x9))) + (w64 (w64 (3 * x10) + x11))))) + (w64 (w64 (3 * (w64 (w64 (3 * x12) + x13))) + (w64 (w64 (3 * x14) + x15)))))))] := by kernel_rfl
theorem wb_blur4_3 (x0 x1 x2 x3 x4 x5 x6 x7 x8 x9 x10 x11 x12 x13 x14 x15 : Int) : ref_Blur [x0, x1, x2, x3, x4, x5, x6, x7, x8, x9, x10, x11, x12, x13, x14, x15] 3 = some [w64 ((w64 ((w64 ((w64 ((w64 ((w64 ((w64 ((w64 ((w64 ((w64 ((w64 ((w64 ((w64 ((w64 ((w64 ((w64 (0 + w64 (x0 * 1))) + w64 (x1 * 3))) + w64 (x2 * 3))) + w64 (x3 * 9))) + w64 (x4 * 3))) + w64 (x5 * 9))) + w64 (x6 * 9))) + w64 (x7 * 27))) + w64 (x8 * 3))) + w64 (x9 * 9))) + w64 (x10 * 9))) + w64 (x11 * 27))) + w64 (x12 * 9))) + w64 (x13 * 27))) + w64 (x14 * 27))) + w64 (x15 * 81)),
 w64 ((w64 ((w64 ((w64 ((w64 ((w64 ((w64 ((w64 ((w64 ((w64 ((w64 ((w64 ((w64 ((w64 ((w64 ((w64 (0 + w64 (x0 * 3))) + w64 (x1 * 1))) + w64 (x2 * 9))) + w64 (x3 * 3))) + w64 (x4 * 9))) + w64 (x5 * 3))) + w64 (x6 * 27))) + w64 (x7 * 9))) + w64 (x8 * 9))) + w64 (x9 * 3))) + w64 (x10 * 27))) + w64 (x11 * 9))) + w64 (x12 * 27))) + w64 (x13 * 9))) + w64 (x14 * 81))) + w64 (x15 * 27)),
 w64 ((w64 ((w64 ((w64 ((w64 ((w64 ((w64 ((w64 ((w64 ((w64 ((w64 ((w64 ((w64 ((w64 ((w64 ((w64 (0 + w64 (x0 * 3))) + w64 (x1 * 9))) + w64 (x2 * 1))) + w64 (x3 * 3))) + w64 (x4 * 9))) + w64 (x5 * 27))) + w64 (x6 * 3))) + w64 (x7 * 9))) + w64 (x8 * 9))) + w64 (x9 * 27))) + w64 (x10 * 3))) + w64 (x11 * 9))) + w64 (x12 * 27))) + w64 (x13 * 81))) + w64 (x14 * 9))) + w64 (x15 * 27)),
 w64 ((w64 ((w64 ((w64 ((w64 ((w64 ((w64 ((w64 ((w64 ((w64 ((w64 ((w64 ((w64 ((w64 ((w64 ((w64 (0 + w64 (x0 * 9))) + w64 (x1 * 3))) + w64 (x2 * 3))) + w64 (x3 * 1))) + w64 (x4 * 27))) + w64 (x5 * 9))) + w64 (x6 * 9))) + w64 (x7 * 3))) + w64 (x8 * 27))) + w64 (x9 * 9))) + w64 (x10 * 9))) + w64 (x11 * 3))) + w64 (x12 * 81))) + w64 (x13 * 27))) + w64 (x14 * 27))) + w64 (x15 * 9)),
 w64 ((w64 ((w64 ((w64 ((w64 ((w64 ((w64 ((w64 ((w64 ((w64 ((w64 ((w64 ((w64 ((w64 ((w64 ((w64 (0 + w64 (x0 * 3))) + w64 (x1 * 9))) + w64 (x2 * 9))) + w64 (x3 * 27))) + w64 (x4 * 1))) + w64 (x5 * 3))) + w64 (x6 * 3))) + w64 (x7 * 9))) + w64 (x8 * 9))) + w64 (x9 * 27))) + w64 (x10 * 27))) + w64 (x11 * 81))) + w64 (x12 * 3))) + w64 (x13 * 9))) + w64 (x14 * 9))) + w64 (x15 * 27)),
 w64 ((w64 ((w64 ((w64 ((w64 ((w64 ((w64 ((w64 ((w64 ((w64 ((w64 ((w64 ((w64 ((w64 ((w64 ((w64 (0 + w64 (x0 * 9))) + w64 (x1 * 3))) + w64 (x2 * 27))) + w64 (x3 * 9))) + w64 (x4 * 3))) + w64 (x5 * 1))) + w64 (x6 * 9))) + w64 (x7 * 3))) + w64 (x8 * 27))) + w64 (x9 * 9))) + w64 (x10 * 81))) + w64 (x11 * 27))) + w64 (x12 * 9))) + w64 (x13 * 3))) + w64 (x14 * 27))) + w64 (x15 * 9)),
 w64 ((w64 ((w64 ((w64 ((w64 ((w64 ((w64 ((w64 ((w64 ((w64 ((w64 ((w64 ((w64 ((w64 ((w64 ((w64 (0 + w64 (x0 * 9))) + w64 (x1 * 27))) + w64 (x2 * 3))) + w64 (x3 * 9))) + w64 (x4 * 3))) + w64 (x5 * 9))) + w64 (x6 * 1))) + w64 (x7 * 3))) + w64 (x8 * 27))) + w64 (x9 * 81))) + w64 (x10 * 9))) + w64 (x11 * 27))) + w64 (x12 * 9))) + w64 (x13 * 27))) + w64 (x14 * 3))) + w64 (x15 * 9)),
 w64 ((w64 ((w64 ((w64 ((w64 ((w64 ((w64 ((w64 ((w64 ((w64 ((w64 ((w64 ((w64 ((w64 ((w64 ((w64 (0 + w64 (x0 * 27))) + w64 (x1 * 9))) + w64 (x2 * 9))) + w64 (x3 * 3))) + w64 (x4 * 9))) + w64 (x5 * 3))) + w64 (x6 * 3))) + w64 (x7 * 1))) + w64 (x8 * 81))) + w64 (x9 * 27))) + w64 (x10 * 27))) + w64 (x11 * 9))) + w64 (x12 * 27))) + w64 (x13 * 9))) + w64 (x14 * 9))) + w64 (x15 * 3)),
 w64 ((w64 ((w64 ((w64 ((w64 ((w64 ((w64 ((w64 ((w64 ((w64 ((w64 ((w64 ((w64 ((w64 ((w64 ((w64 (0 + w64 (x0 * 3))) + w64 (x1 * 9))) + w64 (x2 * 9))) + w64 (x3 * 27))) + w64 (x4 * 9))) + w64 (x5 * 27))) + w64 (x6 * 27))) + w64 (x7 * 81))) + w64 (x8 * 1))) + w64 (x9 * 3))) + w64 (x10 * 3))) + w64 (x11 * 9))) + w64 (x12 * 3))) + w64 (x13 * 9))) + w64 (x14 * 9))) + w64 (x15 * 27)),
 w64 ((w64 ((w64 ((w64 ((w64 ((w64 ((w64 ((w64 ((w64 ((w64 ((w64 ((w64 ((w64 ((w64 ((w64 ((w64 (0 + w64 (x0 * 9))) + w64 (x1 * 3))) + w64 (x2 * 27))) + w64 (x3 * 9))) + w64 (x4 * 27))) + w64 (x5 * 9))) + w64 (x6 * 81))) + w64 (x7 * 27))) + w64 (x8 * 3))) + w64 (x9 * 1))) + w64 (x10 * 9))) + w64 (x11 * 3))) + w64 (x12 * 9))) + w64 (x13 * 3))) + w64 (x14 * 27))) + w64 (x15 * 9)),
 w64 ((w64 ((w64 ((w64 ((w64 ((w64 ((w64 ((w64 ((w64 ((w64 ((w64 ((w64 ((w64 ((w64 ((w64 ((w64 (0 + w64 (x0 * 9))) + w64 (x1 * 27))) + w64 (x2 * 3))) + w64 (x3 * 9))) + w64 (x4 * 27))) + w64 (x5 * 81))) + w64 (x6 * 9))) + w64 (x7 * 27))) + w64 (x8 * 3))) + w64 (x9 * 9))) + w64 (x10 * 1))) + w64 (x11 * 3))) + w64 (x12 * 9))) + w64 (x13 * 27))) + w64 (x14 * 3))) + w64 (x15 * 9)),
 w64 ((w64 ((w64 ((w64 ((w64 ((w64 ((w64 ((w64 ((w64 ((w64 ((w64 ((w64 ((w64 ((w64 ((w64 ((w64 (0 + w64 (x0 * 27))) + w64 (x1 * 9))) + w64 (x2 * 9))) + w64 (x3 * 3))) + w64 (x4 * 81))) + w64 (x5 * 27))) + w64 (x6 * 27))) + w64 (x7 * 9))) + w64 (x8 * 9))) + w64 (x9 * 3))) + w64 (x10 * 3))) + w64 (x11 * 1))) + w64 (x12 * 27))) + w64 (x13 * 9))) + w64 (x14 * 9))) + w64 (x15 * 3)),
 w64 ((w64 ((w64 ((w64 ((w64 ((w64 ((w64 ((w64 ((w64 ((w64 ((w64 ((w64 ((w64 ((w64 ((w64 ((w64 (0 + w64 (x0 * 9))) + w64 (x1 * 27))) + w64 (x2 * 27))) + w64 (x3 * 81))) + w64 (x4 * 3))) + w64 (x5 * 9))) + w64 (x6 * 9))) + w64 (x7 * 27))) + w64 (x8 * 3))) + w64 (x9 * 9))) + w64 (x10 * 9))) + w64 (x11 * 27))) + w64 (x12 * 1))) + w64 (x13 * 3))) + w64 (x14 * 3))) + w64 (x15 * 9)),
 w64 ((w64 ((w64 ((w64 ((w64 ((w64 ((w64 ((w64 ((w64 ((w64 ((w64 ((w64 ((w64 ((w64 ((w64 ((w64 (0 + w64 (x0 * 27))) + w64 (x1 * 9))) + w64 (x2 * 81))) + w64 (x3 * 27))) + w64 (x4 * 9))) + w64 (x5 * 3))) + w64 (x6 * 27))) + w64 (x7 * 9))) + w64 (x8 * 9))) + w64 (x9 * 3))) + w64 (x10 * 27))) + w64 (x11 * 9))) + w64 (x12 * 3))) + w64 (x13 * 1))) + w64 (x14 * 9))) + w64 (x15 * 3)),
 w64 ((w64 ((w64 ((w64 ((w64 ((w64 ((w64 ((w64 ((w64 ((w64 ((w64 ((w64 ((w64 ((w64 ((w64 ((w64 (0 + w64 (x0 * 27))) + w64 (x1 * 81))) + w64 (x2 * 9))) + w64 (x3 * 27))) + w64 (x4 * 9))) + w64 (x5 * 27))) + w64 (x6 * 3))) + w64 (x7 * 9))) + w64 (x8 * 9))) + w64 (x9 * 27))) + w64 (x10 * 3))) + w64 (x11 * 9))) + w64 (x12 * 3))) + w64 (x13 * 9))) + w64 (x14 * 1))) + w64 (x15 * 3)),
 w64 ((w64 ((w64 ((w64 ((w64 ((w64 ((w64 ((w64 ((w64 ((w64 ((w64 ((w64 ((w64 ((w64 ((w64 ((w64 (0 + w64 (x0 * 81))) + w64 (x1 * 27))) + w64 (x2 * 27))) + w64 (x3 * 9))) + w64 (x4 * 27))) + w64 (x5 * 9))) + w64 (x6 * 9))) + w64 (x7 * 3))) + w64 (x8 * 27))) + w64 (x9 * 9))) + w64 (x10 * 9))) + w64 (x11 * 3))) + w64 (x12 * 9))) + w64 (x13 * 3))) + w64 (x14 * 3))) + w64 (x15 * 1))] := by kernel_rfl
theorem wb_same4_3 (x0 x1 x2 x3 x4 x5 x6 x7 x8 x9 x10 x11 x12 x13 x14 x15 : Int) (h : ∀ v ∈ [x0, x1, x2, x3, x4, x5, x6, x7, x8, x9, x10, x11, x12, x13, x14, x15], -1000000000 ≤ v ∧ v ≤ 1000000000) : wave_each_with_wave_Blur_1 4 [x0, x1, x2, x3, x4, x5, x6, x7, x8, x9, x10, x11, x12, x13, x14, x15] 3 = ref_Blur [x0, x1, x2, x3, x4, x5, x6, x7, x8, x9, x10, x11, x12, x13, x14, x15] 3 := by
  rw [wb_each4_3, wb_blur4_3]
  simp only [ww_al, ww_ar, ww_ml, ww_mr]
  refine congrArg some ?_
  repeat (refine congr (congrArg List.cons (congrArg w64 (by omega))) ?_)
  rfl

theorem wb_same {k c : Nat} (hk : k ≤ 4) (hc : c ≤ 3) {l : List Int} (hl : l.length = 2 ^ k) (hb : ∀ v ∈ l, -1000000000 ≤ v ∧ v ≤ 1000000000) : ∃ r, wave_each_with_wave_Blur_1 (k : Int) l (c : Int) = some r ∧ ref_Blur l (c : Int) = some r := by
  rcases (by omega : k = 0 ∨ k = 1 ∨ k = 2 ∨ k = 3 ∨ k = 4) with rfl | rfl | rfl | rfl | rfl
  · obtain ⟨x0, rfl⟩ := wt_len0 hl
    rcases (by omega : c = 0 ∨ c = 1 ∨ c = 2 ∨ c = 3) with rfl | rfl | rfl | rfl
    · exact ⟨_, (wb_same0_0 x0 hb).trans (wb_blur0_0 x0), wb_blur0_0 x0⟩
    · exact ⟨_, (wb_same0_1 x0 hb).trans (wb_blur0_1 x0), wb_blur0_1 x0⟩
    · exact ⟨_, (wb_same0_2 x0 hb).trans (wb_blur0_2 x0), wb_blur0_2 x0⟩
    · exact ⟨_, (wb_same0_3 x0 hb).trans (wb_blur0_3 x0), wb_blur0_3 x0⟩
  · obtain ⟨x0, x1, rfl⟩ := wt_len1 hl
    rcases (by omega : c = 0 ∨ c = 1 ∨ c = 2 ∨ c = 3) with rfl | rfl | rfl | rfl
    · exact ⟨_, (wb_same1_0 x0 x1 hb).trans (wb_blur1_0 x0 x1), wb_blur1_0 x0 x1⟩
    · exact ⟨_, (wb_same1_1 x0 x1 hb).trans (wb_blur1_1 x0 x1), wb_blur1_1 x0 x1⟩
    · exact ⟨_, (wb_same1_2 x0 x1 hb).trans (wb_blur1_2 x0 x1), wb_blur1_2 x0 x1⟩
    · exact ⟨_, (wb_same1_3 x0 x1 hb).trans (wb_blur1_3 x0 x1), wb_blur1_3 x0 x1⟩
  · obtain ⟨x0, x1, x2, x3, rfl⟩ := wt_len2 hl
    rcases (by omega : c = 0 ∨ c = 1 ∨ c = 2 ∨ c = 3) with rfl | rfl | rfl | rfl
    · exact ⟨_, (wb_same2_0 x0 x1 x2 x3 hb).trans (wb_blur2_0 x0 x1 x2 x3), wb_blur2_0 x0 x1 x2 x3⟩
    · exact ⟨_, (wb_same2_1 x0 x1 x2 x3 hb).trans (wb_blur2_1 x0 x1 x2 x3), wb_blur2_1 x0 x1 x2 x3⟩
    · exact ⟨_, (wb_same2_2 x0 x1 x2 x3 hb).trans (wb_blur2_2 x0 x1 x2 x3), wb_blur2_2 x0 x1 x2 x3⟩
    · exact ⟨_, (wb_same2_3 x0 x1 x2 x3 hb).trans (wb_blur2_3 x0 x1 x2 x3), wb_blur2_3 x0 x1 x2 x3⟩
  · obtain ⟨x0, x1, x2, x3, x4, x5, x6, x7, rfl⟩ := wt_len3 hl
    rcases (by omega : c = 0 ∨ c = 1 ∨ c = 2 ∨ c = 3) with rfl | rfl | rfl | rfl
    · exact ⟨_, (wb_same3_0 x0 x1 x2 x3 x4 x5 x6 x7 hb).trans (wb_blur3_0 x0 x1 x2 x3 x4 x5 x6 x7), wb_blur3_0 x0 x1 x2 x3 x4 x5 x6 x7⟩
    · exact ⟨_, (wb_same3_1 x0 x1 x2 x3 x4 x5 x6 x7 hb).trans (wb_blur3_1 x0 x1 x2 x3 x4 x5 x6 x7), wb_blur3_1 x0 x1 x2 x3 x4 x5 x6 x7⟩
    · exact ⟨_, (wb_same3_2 x0 x1 x2 x3 x4 x5 x6 x7 hb).trans (wb_blur3_2 x0 x1 x2 x3 x4 x5 x6 x7), wb_blur3_2 x0 x1 x2 x3 x4 x5 x6 x7⟩
    · exact ⟨_, (wb_same3_3 x0 x1 x2 x3 x4 x5 x6 x7 hb).trans (wb_blur3_3 x0 x1 x2 x3 x4 x5 x6 x7), wb_blur3_3 x0 x1 x2 x3 x4 x5 x6 x7⟩
  · obtain ⟨x0, x1, x2, x3, x4, x5, x6, x7, x8, x9, x10, x11, x12, x13, x14, x15, rfl⟩ := wt_len4 hl
    rcases (by omega : c = 0 ∨ c = 1 ∨ c = 2 ∨ c = 3) with rfl | rfl | rfl | rfl
    · exact ⟨_, (wb_same4_0 x0 x1 x2 x3 x4 x5 x6 x7 x8 x9 x10 x11 x12 x13 x14 x15 hb).trans (wb_blur4_0 x0 x1 x2 x3 x4 x5 x6 x7 x8 x9 x10 x11 x12 x13 x14 x15), wb_blur4_0 x0 x1 x2 x3 x4 x5 x6 x7 x8 x9 x10 x11 x12 x13 x14 x15⟩
    · exact ⟨_, (wb_same4_1 x0 x1 x2 x3 x4 x5 x6 x7 x8 x9 x10 x11 x12 x13 x14 x15 hb).trans (wb_blur4_1 x0 x1 x2 x3 x4 x5 x6 x7 x8 x9 x10 x11 x12 x13 x14 x15), wb_blur4_1 x0 x1 x2 x3 x4 x5 x6 x7 x8 x9 x10 x11 x12 x13 x14 x15⟩
    · exact ⟨_, (wb_same4_2 x0 x1 x2 x3 x4 x5 x6 x7 x8 x9 x10 x11 x12 x13 x14 x15 hb).trans (wb_blur4_2 x0 x1 x2 x3 x4 x5 x6 x7 x8 x9 x10 x11 x12 x13 x14 x15), wb_blur4_2 x0 x1 x2 x3 x4 x5 x6 x7 x8 x9 x10 x11 x12 x13 x14 x15⟩
    · exact ⟨_, (wb_same4_3 x0 x1 x2 x3 x4 x5 x6 x7 x8 x9 x10 x11 x12 x13 x14 x15 hb).trans (wb_blur4_3 x0 x1 x2 x3 x4 x5 x6 x7 x8 x9 x10 x11 x12 x13 x14 x15), wb_blur4_3 x0 x1 x2 x3 x4 x5 x6 x7 x8 x9 x10 x11 x12 x13 x14 x15⟩
theorem WaveBlurs_true (a0 : Int) (a1 : List Int) (a2 : Int) (f0 : Fits (.int .i64) a0) (f1 : Fits (.slice (.int .i64)) a1) (f2 : Fits (.int .i64) a2) : law_WaveBlurs a0 a1 a2 = some true := by
  unfold law_WaveBlurs wave_Blur law_WaveBlurs_g4
  rw [wt_wrong, wt_check, within_eq, bind_some']
  have e : ((decide (a2 < (0 : Int))) || (decide (a2 > (3 : Int)))) = !decide (0 ≤ a2 ∧ a2 ≤ 3) := by
    rw [or_dec, not_dec]; exact decide_eq_decide.2 (by omega)
  rw [e]
  by_cases hz : wtc a0 a1 = 0
  · obtain ⟨k, hk, rfl, hl, hb⟩ := wt_valid hz
    rw [hz]
    by_cases hc : 0 ≤ a2 ∧ a2 ≤ 3
    · obtain ⟨c, rfl⟩ := Int.eq_ofNat_of_zero_le hc.1
      obtain ⟨r, h1, h2⟩ := wb_same (c := c) hk (by omega) hl hb
      rw [decide_eq_true hc, h1, h2]
      simp [ref_Ints_eq]
    · rw [decide_eq_false hc]; rfl
  · have e1 : (wtc a0 a1 != 0) = true := by simp [hz]
    have e2 : (wtc a0 a1 == 0) = false := by simp [hz]
    simp [e1, e2]

end Go.Proofs.Ytbicjcdenfcojaa.waveBlurs
namespace Go.Proofs.Ytbicjcdenfcojaa.waveBlurs
open Go.ChangeShapes Go.WideShapes Go.ChangeAt Go.RowKit
open Go.ChangeMaps (open_string shut_string)
theorem own : ownKnob Try.prog.godebug = none := by kernel_rfl
theorem laidOut : laidOutB Try.prog = true := by kernel_rfl
theorem lifted (os : Os) (started : os.Started) (H : Type) (enc : TypeId × Value → H) :
    ReturnsInHanded {} Try.checked os 5 .any (Rows.waveBlursSpec.pre6 enc Try.prog Try.f5 Rows.waveBlursRow.domain false) (Rows.waveBlursSpec.post enc Try.prog Try.f5 false true false false) := by
  refine returnsInHanded_of_change (C := Try.checked) own started (by kernel_rfl) Try.func5
    (ChangeSpec.witness6 (enc := enc) (C := Try.checked) false ⟨#[], #[.int .i64 0, .slice none 0 0, .int .i64 0], []⟩ 8 (by kernel_rfl) (by kernel_rfl) (by kernel_rfl) (by kernel_rfl)) ?_
  intro W base args ds gs before hval0 hW hcnd _
  have hval : ∀ (j : Nat) t v, Try.f5.params[j]? = some t → args[j]? = some v → Value.okWide Try.prog W .any base t v := hval0
  have hW' := hW
  obtain ⟨p, q, hA0, hV, rfl, hfz, hnd⟩ := hW
  have hA : DataW.TrodAll enc Try.prog W 0 (fun _ => true) true Try.f5.params.toList args.toList ds p := hA0
  rw [Try.params5] at hA hval
  obtain ⟨v0, vs0, d0, ds0, p0, q0, hargs, rfl, rfl, h0, r0⟩ := trodAll_cons hA
  obtain ⟨v1, vs1, d1, ds1, p1, q1, rfl, rfl, rfl, h1, r1⟩ := trodAll_cons r0
  obtain ⟨v2, vs2, d2, ds2, p2, q2, rfl, rfl, rfl, h2, r2⟩ := trodAll_cons r1
  obtain ⟨rfl, rfl, rfl⟩ := trodAll_nil r2
  obtain rfl : args = #[v0, v1, v2] := by cases args; simp_all
  obtain ⟨rfl, rfl⟩ := trodVars_none hV
  obtain ⟨x0, f0, k0⟩ := Go.Sl.read_arg (u := (.int .i64)) (by kernel_rfl) (by kernel_rfl) (hval 0 3 v0 rfl rfl) h0
  have lt0 : ∀ x ∈ p0, x.block < W.heap.size := by obtain ⟨m, hm⟩ := h0; exact DataW.trod_lt m _ _ _ hm
  obtain ⟨x1, f1, k1⟩ := Go.Sl.read_arg (u := (.slice (.int .i64))) (by kernel_rfl) (by kernel_rfl) (hval 1 22 v1 rfl rfl) h1
  have lt1 : ∀ x ∈ p1, x.block < W.heap.size := by obtain ⟨m, hm⟩ := h1; exact DataW.trod_lt m _ _ _ hm
  obtain ⟨x2, f2, k2⟩ := Go.Sl.read_arg (u := (.int .i64)) (by kernel_rfl) (by kernel_rfl) (hval 2 3 v2 rfl rfl) h2
  have lt2 : ∀ x ∈ p2, x.block < W.heap.size := by obtain ⟨m, hm⟩ := h2; exact DataW.trod_lt m _ _ _ hm
  clear hA0 hval0
  have hm := WaveBlurs_true x0 x1 x2 f0 f1 f2
  refine (Go.Sl.law_of (vs := [v0, v1, v2]) (law_WaveBlurs_ok hm) rfl (.cons (k0 _ _) (.cons (k1 _ _) (.cons (k2 _ _) .nil)))).mono fun e W' ⟨he, bel⟩ => ?_
  subst he
  exact ⟨_, rfl, _, _, _, [], _, [], hW', trodAll_mk1 (shut_bool Try.underlying4 _), (trodAll_cons_mk (Below.trod laidOut (by kernel_rfl) (of_decide_eq_true (by kernel_rfl)) h0 bel lt0) (trodAll_cons_mk (Below.trod laidOut (by kernel_rfl) (of_decide_eq_true (by kernel_rfl)) h1 bel lt1) (trodAll_cons_mk (Below.trod laidOut (by kernel_rfl) (of_decide_eq_true (by kernel_rfl)) h2 bel lt2) trodAll_mk0))), rfl, bel.frame _, fun h => by cases h⟩
theorem proved : Rows.WaveBlursSaid :=
  OpenClaim.holds_of_wide 5 Try.f5 rfl rfl rfl rfl rfl rfl rfl ⟨rfl, rfl, rfl, rfl, rfl⟩ rfl rfl rfl rfl rfl (by kernel_rfl) Try.func5 (by kernel_rfl)
    (of_decide_eq_true (by kernel_rfl)) (by unfold Func.isWrapper; first | (rw [if_pos (by decide +kernel)]; kernel_rfl) | (rw [if_neg (by decide +kernel)]; exact ⟨rfl, rfl⟩))
    (fun os started H enc _ => lifted os started H enc)
#print axioms proved
end Go.Proofs.Ytbicjcdenfcojaa.waveBlurs
