/- For any dimension and list wave.Back returns the specified results: WaveBacks returns true and changes nothing; no conditions. -/
import Derived.Test.YtjgpfbdenfoffaaRows
import Derived.WalkKit
import Derived.ProofKit
import Derived.OpenShut
import Derived.ShutString
import Derived.ChangeOld
import Derived.Below
import Derived.Test.YtjgpfbdenfoffaaWaveBacksM
set_option linter.all false
set_option maxRecDepth 100000
namespace Go.Proofs.Ytjgpfbdenfoffaa.waveBacks
open Go Go.Sl

theorem within_eq (a b c : Int) : ref_Within a b c = some (decide (a ≤ b ∧ b ≤ c)) := by
  unfold ref_Within
  rw [Bool.decide_and]

theorem ref_Ints_eq (a b : List Int) : ref_Ints a b = some (decide (a = b)) := by
  unfold ref_Ints
  rw [len_ne]
  by_cases h : a.length = b.length
  · rw [forL_eqs (q := b) (fun n a c hc => by
      unfold ref_Ints_b1
      rw [idx_nat, hc]
      by_cases h : a = c <;> simp [h, bne_dec]) h]
    by_cases h2 : a = b <;> simp [h2, h]
  · have : ¬ a = b := fun e => h (by rw [e])
    simp [h, this]

theorem ww_val (n : Int) : w64 n = if n % 18446744073709551616 ≥ 9223372036854775808 then n % 18446744073709551616 - 18446744073709551616 else n % 18446744073709551616 := by
  unfold w64 IntKind.wrap
  simp only [IntKind.bits, IntKind.signed, Bool.true_and, Int.reducePow, Nat.reduceSub]
  split
  · rename_i h; have h := of_decide_eq_true h; rw [if_pos (by omega)]
  · rename_i h; have h := of_decide_eq_false (eq_false_of_ne_true h); rw [if_neg (by omega)]
theorem ww_mod (n : Int) : w64 n % 18446744073709551616 = n % 18446744073709551616 := by
  rw [ww_val]; split <;> omega
theorem ww_eq {a b : Int} (h : a % 18446744073709551616 = b % 18446744073709551616) : w64 a = w64 b := by
  rw [ww_val, ww_val, h]
theorem ww_al (a b : Int) : w64 (w64 a + b) = w64 (a + b) := ww_eq (by have := ww_mod a; omega)
theorem ww_ar (a b : Int) : w64 (a + w64 b) = w64 (a + b) := ww_eq (by have := ww_mod b; omega)
theorem ww_sl (a b : Int) : w64 (w64 a - b) = w64 (a - b) := ww_eq (by have := ww_mod a; omega)
theorem ww_sr (a b : Int) : w64 (a - w64 b) = w64 (a - b) := ww_eq (by have := ww_mod b; omega)
theorem wt_each0 (x0 : Int) : wave_each_with_wave_turn 0 [x0] = some [x0] := by kernel_rfl
theorem wt_wave0 (x0 : Int) : ref_Wave [x0] = some [w64 (0 + x0)] := by kernel_rfl
theorem wt_each1 (x0 x1 : Int) : wave_each_with_wave_turn 1 [x0, x1] = some [w64 (x0 + x1),
 w64 (x0 - x1)] := by kernel_rfl
theorem wt_wave1 (x0 x1 : Int) : ref_Wave [x0, x1] = some [w64 (w64 (0 + x0) + x1),
 w64 (w64 (0 + x0) + w64 (0 - x1))] := by kernel_rfl
theorem wt_each2 (x0 x1 x2 x3 : Int) : wave_each_with_wave_turn 2 [x0, x1, x2, x3] = some [w64 (w64 (x0 + x1) + w64 (x2 + x3)),
 w64 (w64 (x0 - x1) + w64 (x2 - x3)),
 w64 (w64 (x0 + x1) - w64 (x2 + x3)),
 w64 (w64 (x0 - x1) - w64 (x2 - x3))] := by kernel_rfl
theorem wt_wave2 (x0 x1 x2 x3 : Int) : ref_Wave [x0, x1, x2, x3] = some [w64 (w64 (w64 (w64 (0 + x0) + x1) + x2) + x3),
 w64 (w64 (w64 (w64 (0 + x0) + w64 (0 - x1)) + x2) + w64 (0 - x3)),
 w64 (w64 (w64 (w64 (0 + x0) + x1) + w64 (0 - x2)) + w64 (0 - x3)),
 w64 (w64 (w64 (w64 (0 + x0) + w64 (0 - x1)) + w64 (0 - x2)) + x3)] := by kernel_rfl
theorem wt_each3 (x0 x1 x2 x3 x4 x5 x6 x7 : Int) : wave_each_with_wave_turn 3 [x0, x1, x2, x3, x4, x5, x6, x7] = some [w64 (w64 (w64 (x0 + x1) + w64 (x2 + x3)) + w64 (w64 (x4 + x5) + w64 (x6 + x7))),
 w64 (w64 (w64 (x0 - x1) + w64 (x2 - x3)) + w64 (w64 (x4 - x5) + w64 (x6 - x7))),
 w64 (w64 (w64 (x0 + x1) - w64 (x2 + x3)) + w64 (w64 (x4 + x5) - w64 (x6 + x7))),
 w64 (w64 (w64 (x0 - x1) - w64 (x2 - x3)) + w64 (w64 (x4 - x5) - w64 (x6 - x7))),
 w64 (w64 (w64 (x0 + x1) + w64 (x2 + x3)) - w64 (w64 (x4 + x5) + w64 (x6 + x7))),
 w64 (w64 (w64 (x0 - x1) + w64 (x2 - x3)) - w64 (w64 (x4 - x5) + w64 (x6 - x7))),
 w64 (w64 (w64 (x0 + x1) - w64 (x2 + x3)) - w64 (w64 (x4 + x5) - w64 (x6 + x7))),
 w64 (w64 (w64 (x0 - x1) - w64 (x2 - x3)) - w64 (w64 (x4 - x5) - w64 (x6 - x7)))] := by kernel_rfl
theorem wt_wave3 (x0 x1 x2 x3 x4 x5 x6 x7 : Int) : ref_Wave [x0, x1, x2, x3, x4, x5, x6, x7] = some [w64 (w64 (w64 (w64 (w64 (w64 (w64 (w64 (0 + x0) + x1) + x2) + x3) + x4) + x5) + x6) + x7),
 w64 (w64 (w64 (w64 (w64 (w64 (w64 (w64 (0 + x0) + w64 (0 - x1)) + x2) + w64 (0 - x3)) + x4) + w64 (0 - x5)) + x6) + w64 (0 - x7)),
 w64 (w64 (w64 (w64 (w64 (w64 (w64 (w64 (0 + x0) + x1) + w64 (0 - x2)) + w64 (0 - x3)) + x4) + x5) + w64 (0 - x6)) + w64 (0 - x7)),
 w64 (w64 (w64 (w64 (w64 (w64 (w64 (w64 (0 + x0) + w64 (0 - x1)) + w64 (0 - x2)) + x3) + x4) + w64 (0 - x5)) + w64 (0 - x6)) + x7),
 w64 (w64 (w64 (w64 (w64 (w64 (w64 (w64 (0 + x0) + x1) + x2) + x3) + w64 (0 - x4)) + w64 (0 - x5)) + w64 (0 - x6)) + w64 (0 - x7)),
 w64 (w64 (w64 (w64 (w64 (w64 (w64 (w64 (0 + x0) + w64 (0 - x1)) + x2) + w64 (0 - x3)) + w64 (0 - x4)) + x5) + w64 (0 - x6)) + x7),
 w64 (w64 (w64 (w64 (w64 (w64 (w64 (w64 (0 + x0) + x1) + w64 (0 - x2)) + w64 (0 - x3)) + w64 (0 - x4)) + w64 (0 - x5)) + x6) + x7),
 w64 (w64 (w64 (w64 (w64 (w64 (w64 (w64 (0 + x0) + w64 (0 - x1)) + w64 (0 - x2)) + x3) + w64 (0 - x4)) + x5) + x6) + w64 (0 - x7))] := by kernel_rfl
theorem wt_each4 (x0 x1 x2 x3 x4 x5 x6 x7 x8 x9 x10 x11 x12 x13 x14 x15 : Int) : wave_each_with_wave_turn 4 [x0, x1, x2, x3, x4, x5, x6, x7, x8, x9, x10, x11, x12, x13, x14, x15] = some [w64 (w64 (w64 (w64 (x0 + x1) + w64 (x2 + x3)) + w64 (w64 (x4 + x5) + w64 (x6 + x7))) + w64 (w64 (w64 (x8 + x9) + w64 (x10 + x11)) + w64 (w64 (x12 + x13) + w64 (x14 + x15)))),
 w64 (w64 (w64 (w64 (x0 - x1) + w64 (x2 - x3)) + w64 (w64 (x4 - x5) + w64 (x6 - x7))) + w64 (w64 (w64 (x8 - x9) + w64 (x10 - x11)) + w64 (w64 (x12 - x13) + w64 (x14 - x15)))),
 w64 (w64 (w64 (w64 (x0 + x1) - w64 (x2 + x3)) + w64 (w64 (x4 + x5) - w64 (x6 + x7))) + w64 (w64 (w64 (x8 + x9) - w64 (x10 + x11)) + w64 (w64 (x12 + x13) - w64 (x14 + x15)))),
 w64 (w64 (w64 (w64 (x0 - x1) - w64 (x2 - x3)) + w64 (w64 (x4 - x5) - w64 (x6 - x7))) + w64 (w64 (w64 (x8 - x9) - w64 (x10 - x11)) + w64 (w64 (x12 - x13) - w64 (x14 - x15)))),
 w64 (w64 (w64 (w64 (x0 + x1) + w64 (x2 + x3)) - w64 (w64 (x4 + x5) + w64 (x6 + x7))) + w64 (w64 (w64 (x8 + x9) + w64 (x10 + x11)) - w64 (w64 (x12 + x13) + w64 (x14 + x15)))),
 w64 (w64 (w64 (w64 (x0 - x1) + w64 (x2 - x3)) - w64 (w64 (x4 - x5) + w64 (x6 - x7))) + w64 (w64 (w64 (x8 - x9) + w64 (x10 - x11)) - w64 (w64 (x12 - x13) + w64 (x14 - x15)))),
 w64 (w64 (w64 (w64 (x0 + x1) - w64 (x2 + x3)) - w64 (w64 (x4 + x5) - w64 (x6 + x7))) + w64 (w64 (w64 (x8 + x9) - w64 (x10 + x11)) - w64 (w64 (x12 + x13) - w64 (x14 + x15)))),
 w64 (w64 (w64 (w64 (x0 - x1) - w64 (x2 - x3)) - w64 (w64 (x4 - x5) - w64 (x6 - x7))) + w64 (w64 (w64 (x8 - x9) - w64 (x10 - x11)) - w64 (w64 (x12 - x13) - w64 (x14 - x15)))),
 w64 (w64 (w64 (w64 (x0 + x1) + w64 (x2 + x3)) + w64 (w64 (x4 + x5) + w64 (x6 + x7))) - w64 (w64 (w64 (x8 + x9) + w64 (x10 + x11)) + w64 (w64 (x12 + x13) + w64 (x14 + x15)))),
 w64 (w64 (w64 (w64 (x0 - x1) + w64 (x2 - x3)) + w64 (w64 (x4 - x5) + w64 (x6 - x7))) - w64 (w64 (w64 (x8 - x9) + w64 (x10 - x11)) + w64 (w64 (x12 - x13) + w64 (x14 - x15)))),
 w64 (w64 (w64 (w64 (x0 + x1) - w64 (x2 + x3)) + w64 (w64 (x4 + x5) - w64 (x6 + x7))) - w64 (w64 (w64 (x8 + x9) - w64 (x10 + x11)) + w64 (w64 (x12 + x13) - w64 (x14 + x15)))),
 w64 (w64 (w64 (w64 (x0 - x1) - w64 (x2 - x3)) + w64 (w64 (x4 - x5) - w64 (x6 - x7))) - w64 (w64 (w64 (x8 - x9) - w64 (x10 - x11)) + w64 (w64 (x12 - x13) - w64 (x14 - x15)))),
 w64 (w64 (w64 (w64 (x0 + x1) + w64 (x2 + x3)) - w64 (w64 (x4 + x5) + w64 (x6 + x7))) - w64 (w64 (w64 (x8 + x9) + w64 (x10 + x11)) - w64 (w64 (x12 + x13) + w64 (x14 + x15)))),
 w64 (w64 (w64 (w64 (x0 - x1) + w64 (x2 - x3)) - w64 (w64 (x4 - x5) + w64 (x6 - x7))) - w64 (w64 (w64 (x8 - x9) + w64 (x10 - x11)) - w64 (w64 (x12 - x13) + w64 (x14 - x15)))),
 w64 (w64 (w64 (w64 (x0 + x1) - w64 (x2 + x3)) - w64 (w64 (x4 + x5) - w64 (x6 + x7))) - w64 (w64 (w64 (x8 + x9) - w64 (x10 + x11)) - w64 (w64 (x12 + x13) - w64 (x14 + x15)))),
 w64 (w64 (w64 (w64 (x0 - x1) - w64 (x2 - x3)) - w64 (w64 (x4 - x5) - w64 (x6 - x7))) - w64 (w64 (w64 (x8 - x9) - w64 (x10 - x11)) - w64 (w64 (x12 - x13) - w64 (x14 - x15))))] := by kernel_rfl
theorem wt_wave4 (x0 x1 x2 x3 x4 x5 x6 x7 x8 x9 x10 x11 x12 x13 x14 x15 : Int) : ref_Wave [x0, x1, x2, x3, x4, x5, x6, x7, x8, x9, x10, x11, x12, x13, x14, x15] = some [w64 (w64 (w64 (w64 (w64 (w64 (w64 (w64 (w64 (w64 (w64 (w64 (w64 (w64 (w64 (w64 (0 + x0) + x1) + x2) + x3) + x4) + x5) + x6) + x7) + x8) + x9) + x10) + x11) + x12) + x13) + x14) + x15),
 w64 (w64 (w64 (w64 (w64 (w64 (w64 (w64 (w64 (w64 (w64 (w64 (w64 (w64 (w64 (w64 (0 + x0) + w64 (0 - x1)) + x2) + w64 (0 - x3)) + x4) + w64 (0 - x5)) + x6) + w64 (0 - x7)) + x8) + w64 (0 - x9)) + x10) + w64 (0 - x11)) + x12) + w64 (0 - x13)) + x14) + w64 (0 - x15)),
 w64 (w64 (w64 (w64 (w64 (w64 (w64 (w64 (w64 (w64 (w64 (w64 (w64 (w64 (w64 (w64 (0 + x0) + x1) + w64 (0 - x2)) + w64 (0 - x3)) + x4) + x5) + w64 (0 - x6)) + w64 (0 - x7)) + x8) + x9) + w64 (0 - x10)) + w64 (0 - x11)) + x12) + x13) + w64 (0 - x14)) + w64 (0 - x15)),
 w64 (w64 (w64 (w64 (w64 (w64 (w64 (w64 (w64 (w64 (w64 (w64 (w64 (w64 (w64 (w64 (0 + x0) + w64 (0 - x1)) + w64 (0 - x2)) + x3) + x4) + w64 (0 - x5)) + w64 (0 - x6)) + x7) + x8) + w64 (0 - x9)) + w64 (0 - x10)) + x11) + x12) + w64 (0 - x13)) + w64 (0 - x14)) + x15),
 w64 (w64 (w64 (w64 (w64 (w64 (w64 (w64 (w64 (w64 (w64 (w64 (w64 (w64 (w64 (w64 (0 + x0) + x1) + x2) + x3) + w64 (0 - x4)) + w64 (0 - x5)) + w64 (0 - x6)) + w64 (0 - x7)) + x8) + x9) + x10) + x11) + w64 (0 - x12)) + w64 (0 - x13)) + w64 (0 - x14)) + w64 (0 - x15)),
 w64 (w64 (w64 (w64 (w64 (w64 (w64 (w64 (w64 (w64 (w64 (w64 (w64 (w64 (w64 (w64 (0 + x0) + w64 (0 - x1)) + x2) + w64 (0 - x3)) + w64 (0 - x4)) + x5) + w64 (0 - x6)) + x7) + x8) + w64 (0 - x9)) + x10) + w64 (0 - x11)) + w64 (0 - x12)) + x13) + w64 (0 - x14)) + x15),
 w64 (w64 (w64 (w64 (w64 (w64 (w64 (w64 (w64 (w64 (w64 (w64 (w64 (w64 (w64 (w64 (0 + x0) + x1) + w64 (0 - x2)) + w64 (0 - x3)) + w64 (0 - x4)) + w64 (0 - x5)) + x6) + x7) + x8) + x9) + w64 (0 - x10)) + w64 (0 - x11)) + w64 (0 - x12)) + w64 (0 - x13)) + x14) + x15),
 w64 (w64 (w64 (w64 (w64 (w64 (w64 (w64 (w64 (w64 (w64 (w64 (w64 (w64 (w64 (w64 (0 + x0) + w64 (0 - x1)) + w64 (0 - x2)) + x3) + w64 (0 - x4)) + x5) + x6) + w64 (0 - x7)) + x8) + w64 (0 - x9)) + w64 (0 - x10)) + x11) + w64 (0 - x12)) + x13) + x14) + w64 (0 - x15)),
 w64 (w64 (w64 (w64 (w64 (w64 (w64 (w64 (w64 (w64 (w64 (w64 (w64 (w64 (w64 (w64 (0 + x0) + x1) + x2) + x3) + x4) + x5) + x6) + x7) + w64 (0 - x8)) + w64 (0 - x9)) + w64 (0 - x10)) + w64 (0 - x11)) + w64 (0 - x12)) + w64 (0 - x13)) + w64 (0 - x14)) + w64 (0 - x15)),
 w64 (w64 (w64 (w64 (w64 (w64 (w64 (w64 (w64 (w64 (w64 (w64 (w64 (w64 (w64 (w64 (0 + x0) + w64 (0 - x1)) + x2) + w64 (0 - x3)) + x4) + w64 (0 - x5)) + x6) + w64 (0 - x7)) + w64 (0 - x8)) + x9) + w64 (0 - x10)) + x11) + w64 (0 - x12)) + x13) + w64 (0 - x14)) + x15),
 w64 (w64 (w64 (w64 (w64 (w64 (w64 (w64 (w64 (w64 (w64 (w64 (w64 (w64 (w64 (w64 (0 + x0) + x1) + w64 (0 - x2)) + w64 (0 - x3)) + x4) + x5) + w64 (0 - x6)) + w64 (0 - x7)) + w64 (0 - x8)) + w64 (0 - x9)) + x10) + x11) + w64 (0 - x12)) + w64 (0 - x13)) + x14) + x15),
 w64 (w64 (w64 (w64 (w64 (w64 (w64 (w64 (w64 (w64 (w64 (w64 (w64 (w64 (w64 (w64 (0 + x0) + w64 (0 - x1)) + w64 (0 - x2)) + x3) + x4) + w64 (0 - x5)) + w64 (0 - x6)) + x7) + w64 (0 - x8)) + x9) + x10) + w64 (0 - x11)) + w64 (0 - x12)) + x13) + x14) + w64 (0 - x15)),
 w64 (w64 (w64 (w64 (w64 (w64 (w64 (w64 (w64 (w64 (w64 (w64 (w64 (w64 (w64 (w64 (0 + x0) + x1) + x2) + x3) + w64 (0 - x4)) + w64 (0 - x5)) + w64 (0 - x6)) + w64 (0 - x7)) + w64 (0 - x8)) + w64 (0 - x9)) + w64 (0 - x10)) + w64 (0 - x11)) + x12) + x13) + x14) + x15),
 w64 (w64 (w64 (w64 (w64 (w64 (w64 (w64 (w64 (w64 (w64 (w64 (w64 (w64 (w64 (w64 (0 + x0) + w64 (0 - x1)) + x2) + w64 (0 - x3)) + w64 (0 - x4)) + x5) + w64 (0 - x6)) + x7) + w64 (0 - x8)) + x9) + w64 (0 - x10)) + x11) + x12) + w64 (0 - x13)) + x14) + w64 (0 - x15)),
 w64 (w64 (w64 (w64 (w64 (w64 (w64 (w64 (w64 (w64 (w64 (w64 (w64 (w64 (w64 (w64 (0 + x0) + x1) + w64 (0 - x2)) + w64 (0 - x3)) + w64 (0 - x4)) + w64 (0 - x5)) + x6) + x7) + w64 (0 - x8)) + w64 (0 - x9)) + x10) + x11) + x12) + x13) + w64 (0 - x14)) + w64 (0 - x15)),
 w64 (w64 (w64 (w64 (w64 (w64 (w64 (w64 (w64 (w64 (w64 (w64 (w64 (w64 (w64 (w64 (0 + x0) + w64 (0 - x1)) + w64 (0 - x2)) + x3) + w64 (0 - x4)) + x5) + x6) + w64 (0 - x7)) + w64 (0 - x8)) + x9) + x10) + w64 (0 - x11)) + x12) + w64 (0 - x13)) + w64 (0 - x14)) + x15)] := by kernel_rfl
theorem wt_same0 (x0 : Int) (h : ∀ v ∈ [x0], -1000000000 ≤ v ∧ v ≤ 1000000000) : wave_each_with_wave_turn 0 [x0] = ref_Wave [x0] := by
  rw [wt_each0, wt_wave0]
  have := h x0 (by simp)
  rw [w64_id (by omega) (by omega), Int.zero_add]
theorem wt_same1 (x0 x1 : Int) (h : ∀ v ∈ [x0, x1], -1000000000 ≤ v ∧ v ≤ 1000000000) : wave_each_with_wave_turn 1 [x0, x1] = ref_Wave [x0, x1] := by
  rw [wt_each1, wt_wave1]
  simp only [ww_al, ww_ar, ww_sl, ww_sr]
  refine congrArg some ?_
  repeat (refine congr (congrArg List.cons (congrArg w64 (by omega))) ?_)
  rfl
theorem wt_same2 (x0 x1 x2 x3 : Int) (h : ∀ v ∈ [x0, x1, x2, x3], -1000000000 ≤ v ∧ v ≤ 1000000000) : wave_each_with_wave_turn 2 [x0, x1, x2, x3] = ref_Wave [x0, x1, x2, x3] := by
  rw [wt_each2, wt_wave2]
  simp only [ww_al, ww_ar, ww_sl, ww_sr]
  refine congrArg some ?_
  repeat (refine congr (congrArg List.cons (congrArg w64 (by omega))) ?_)
  rfl
theorem wt_same3 (x0 x1 x2 x3 x4 x5 x6 x7 : Int) (h : ∀ v ∈ [x0, x1, x2, x3, x4, x5, x6, x7], -1000000000 ≤ v ∧ v ≤ 1000000000) : wave_each_with_wave_turn 3 [x0, x1, x2, x3, x4, x5, x6, x7] = ref_Wave [x0, x1, x2, x3, x4, x5, x6, x7] := by
  rw [wt_each3, wt_wave3]
  simp only [ww_al, ww_ar, ww_sl, ww_sr]
  refine congrArg some ?_
  repeat (refine congr (congrArg List.cons (congrArg w64 (by omega))) ?_)
  rfl
theorem wt_same4 (x0 x1 x2 x3 x4 x5 x6 x7 x8 x9 x10 x11 x12 x13 x14 x15 : Int) (h : ∀ v ∈ [x0, x1, x2, x3, x4, x5, x6, x7, x8, x9, x10, x11, x12, x13, x14, x15], -1000000000 ≤ v ∧ v ≤ 1000000000) : wave_each_with_wave_turn 4 [x0, x1, x2, x3, x4, x5, x6, x7, x8, x9, x10, x11, x12, x13, x14, x15] = ref_Wave [x0, x1, x2, x3, x4, x5, x6, x7, x8, x9, x10, x11, x12, x13, x14, x15] := by
  rw [wt_each4, wt_wave4]
  simp only [ww_al, ww_ar, ww_sl, ww_sr]
  refine congrArg some ?_
  repeat (refine congr (congrArg List.cons (congrArg w64 (by omega))) ?_)
  rfl
theorem wt_len0 {l : List Int} (h : l.length = 1) : ∃ x0, l = [x0] := by
  match l, h with
  | [x0], _ => exact ⟨x0, rfl⟩
theorem wt_len1 {l : List Int} (h : l.length = 2) : ∃ x0 x1, l = [x0, x1] := by
  match l, h with
  | [x0, x1], _ => exact ⟨x0, x1, rfl⟩
theorem wt_len2 {l : List Int} (h : l.length = 4) : ∃ x0 x1 x2 x3, l = [x0, x1, x2, x3] := by
  match l, h with
  | [x0, x1, x2, x3], _ => exact ⟨x0, x1, x2, x3, rfl⟩
theorem wt_len3 {l : List Int} (h : l.length = 8) : ∃ x0 x1 x2 x3 x4 x5 x6 x7, l = [x0, x1, x2, x3, x4, x5, x6, x7] := by
  match l, h with
  | [x0, x1, x2, x3, x4, x5, x6, x7], _ => exact ⟨x0, x1, x2, x3, x4, x5, x6, x7, rfl⟩
theorem wt_len4 {l : List Int} (h : l.length = 16) : ∃ x0 x1 x2 x3 x4 x5 x6 x7 x8 x9 x10 x11 x12 x13 x14 x15, l = [x0, x1, x2, x3, x4, x5, x6, x7, x8, x9, x10, x11, x12, x13, x14, x15] := by
  match l, h with
  | [x0, x1, x2, x3, x4, x5, x6, x7, x8, x9, x10, x11, x12, x13, x14, x15], _ => exact ⟨x0, x1, x2, x3, x4, x5, x6, x7, x8, x9, x10, x11, x12, x13, x14, x15, rfl⟩
def wvb (v : Int) : Bool := decide (v < -1000000000) || decide (v > 1000000000)
theorem wt_bad (l : List Int) : slices_ContainsFunc_Lintint_with_wave_wrong_1 l = some (l.any wvb) := by
  unfold slices_ContainsFunc_Lintint_with_wave_wrong_1 slices_IndexFunc_Lintint_with_wave_wrong_1
  rcases forL_at (body := slices_IndexFunc_Lintint_with_wave_wrong_1_b1) (fin := fun _ => (Esc.brk () : Esc Int Unit)) (p := wvb) (g := fun j => Esc.ret j) (l := l)
    (fun i a _ => by unfold slices_IndexFunc_Lintint_with_wave_wrong_1_b1 wave_wrong_1 wvb; cases (decide (a < -1000000000) || decide (a > 1000000000)) <;> rfl) (i := 0) with ⟨h1, h2⟩ | ⟨h1, j, h2, h3, h4⟩
  · rw [h2, h1]; rfl
  · rw [h4, h1]
    simp [h2]
def wtc (a0 : Int) (l : List Int) : Int := if ¬ (0 ≤ a0 ∧ a0 ≤ 4) then 1 else if l.length ≠ 2 ^ a0.toNat then 3 else bif l.any wvb then 4 else 0
theorem wt_len {l : List Int} {k : Nat} (h : k ≤ 4) : ((l.length : Int) != bShl .i64 1 (k : Int)) = !decide (l.length = 2 ^ k) := by
  rw [bShl_one (by omega), bne_dec, not_dec]
  exact decide_eq_decide.2 (by omega)
theorem wt_wrong (a0 : Int) (l : List Int) : wave_wrong a0 l = some (wtc a0 l) := by
  unfold wave_wrong wtc
  have e1 : ((decide (a0 < (0 : Int))) || (decide (a0 > (4 : Int)))) = !decide (0 ≤ a0 ∧ a0 ≤ 4) := by
    rw [or_dec, not_dec]; exact decide_eq_decide.2 (by omega)
  rw [e1, wt_bad]
  by_cases h : 0 ≤ a0 ∧ a0 ≤ 4
  · obtain ⟨k, rfl⟩ := Int.eq_ofNat_of_zero_le h.1
    rw [ck_ok (by omega), wt_len (by omega), decide_eq_true h, if_neg (by omega), Int.toNat_natCast]
    by_cases hl : l.length = 2 ^ k
    · rw [if_neg (by omega), decide_eq_true hl]
      cases l.any wvb <;> rfl
    · rw [if_pos hl, decide_eq_false hl]; rfl
  · rw [if_pos h, decide_eq_false h]; rfl
theorem wt_check (a0 : Int) (l : List Int) : ref_WaveCheck a0 l = some (wtc a0 l) := by
  unfold ref_WaveCheck wtc
  rw [within_eq]
  rw [forL_ex (p := wvb) (y := Esc.ret 4) (fun i a _ => by
    unfold ref_WaveCheck_b1 wvb
    rw [within_eq]
    have : (decide (a < -1000000000) || decide (a > 1000000000)) = !decide (-1000000000 ≤ a ∧ a ≤ 1000000000) := by
      rw [or_dec, not_dec]; exact decide_eq_decide.2 (by omega)
    rw [this]
    cases decide (-1000000000 ≤ a ∧ a ≤ 1000000000) <;> rfl)]
  by_cases h : 0 ≤ a0 ∧ a0 ≤ 4
  · obtain ⟨k, rfl⟩ := Int.eq_ofNat_of_zero_le h.1
    rw [wrap_u64 (n := (k : Int)) (by omega) (by omega), ck_ok (by omega), wt_len (by omega), decide_eq_true h, if_neg (by omega), Int.toNat_natCast]
    by_cases hl : l.length = 2 ^ k
    · rw [if_neg (by omega), decide_eq_true hl]
      cases l.any wvb <;> rfl
    · rw [if_pos hl, decide_eq_false hl]; rfl
  · rw [if_pos h, decide_eq_false h]; rfl
theorem wt_valid {a0 : Int} {l : List Int} (h : wtc a0 l = 0) : ∃ k : Nat, k ≤ 4 ∧ a0 = (k : Int) ∧ l.length = 2 ^ k ∧ ∀ v ∈ l, -1000000000 ≤ v ∧ v ≤ 1000000000 := by
  unfold wtc at h
  split at h
  · omega
  · split at h
    · omega
    · rename_i h1 h2
      refine ⟨a0.toNat, by omega, by omega, by omega, fun v hv => ?_⟩
      cases hb : l.any wvb with
      | true => rw [hb] at h; cases h
      | false =>
        have := List.any_eq_false.1 hb v hv
        unfold wvb at this
        simp only [Bool.or_eq_true, decide_eq_true_eq, not_or] at this
        omega
theorem wt_same {k : Nat} (hk : k ≤ 4) {l : List Int} (hl : l.length = 2 ^ k) (hb : ∀ v ∈ l, -1000000000 ≤ v ∧ v ≤ 1000000000) : wave_each_with_wave_turn (k : Int) l = ref_Wave l := by
  rcases (by omega : k = 0 ∨ k = 1 ∨ k = 2 ∨ k = 3 ∨ k = 4) with rfl | rfl | rfl | rfl | rfl
  · obtain ⟨x0, rfl⟩ := wt_len0 hl
    exact wt_same0 x0 hb
  · obtain ⟨x0, x1, rfl⟩ := wt_len1 hl
    exact wt_same1 x0 x1 hb
  · obtain ⟨x0, x1, x2, x3, rfl⟩ := wt_len2 hl
    exact wt_same2 x0 x1 x2 x3 hb
  · obtain ⟨x0, x1, x2, x3, x4, x5, x6, x7, rfl⟩ := wt_len3 hl
    exact wt_same3 x0 x1 x2 x3 x4 x5 x6 x7 hb
  · obtain ⟨x0, x1, x2, x3, x4, x5, x6, x7, x8, x9, x10, x11, x12, x13, x14, x15, rfl⟩ := wt_len4 hl
    exact wt_same4 x0 x1 x2 x3 x4 x5 x6 x7 x8 x9 x10 x11 x12 x13 x14 x15 hb
theorem wt_some {k : Nat} (hk : k ≤ 4) {l : List Int} (hl : l.length = 2 ^ k) : ∃ r, ref_Wave l = some r := by
  rcases (by omega : k = 0 ∨ k = 1 ∨ k = 2 ∨ k = 3 ∨ k = 4) with rfl | rfl | rfl | rfl | rfl
  · obtain ⟨x0, rfl⟩ := wt_len0 hl
    exact ⟨_, wt_wave0 x0⟩
  · obtain ⟨x0, x1, rfl⟩ := wt_len1 hl
    exact ⟨_, wt_wave1 x0 x1⟩
  · obtain ⟨x0, x1, x2, x3, rfl⟩ := wt_len2 hl
    exact ⟨_, wt_wave2 x0 x1 x2 x3⟩
  · obtain ⟨x0, x1, x2, x3, x4, x5, x6, x7, rfl⟩ := wt_len3 hl
    exact ⟨_, wt_wave3 x0 x1 x2 x3 x4 x5 x6 x7⟩
  · obtain ⟨x0, x1, x2, x3, x4, x5, x6, x7, x8, x9, x10, x11, x12, x13, x14, x15, rfl⟩ := wt_len4 hl
    exact ⟨_, wt_wave4 x0 x1 x2 x3 x4 x5 x6 x7 x8 x9 x10 x11 x12 x13 x14 x15⟩

theorem ww_to {a b : Int} (h : a = b) (h1 : -9223372036854775808 ≤ b ∧ b ≤ 9223372036854775807) : w64 a = b := by rw [h]; exact w64_id h1.1 h1.2
theorem wb_div {a b : Int} (h : Int.tmod a b = 0) : b * Int.tdiv a b = a := by
  have := Int.mul_tdiv_add_tmod a b
  omega
theorem wb_main0 (x0 : Int) (hb : ∀ v ∈ [x0], -1000000000 ≤ v ∧ v ≤ 1000000000) : ∃ t, ref_Wave [x0] = some t ∧ t.length = 1 ∧ (∀ v ∈ t, -16000000000 ≤ v ∧ v ≤ 16000000000) ∧ ((∀ v ∈ t, Int.tmod v 1 = 0) → ref_Wave (t.map fun v => Int.tdiv v 1) = some [x0]) := by
  have h0 := hb x0 (.head _)
  have e : ref_Wave [x0] = some [x0] := by rw [wt_wave0, ww_to (b := x0) (by omega) (by omega)]
  refine ⟨[x0], e, rfl, fun v hv => by rw [List.mem_singleton.1 hv]; omega, fun _ => ?_⟩
  rw [List.map_cons, List.map_nil, Int.tdiv_one, e]
theorem wb_lin1 (x0 x1 : Int) (hx0 : -1125899906842624 ≤ x0 ∧ x0 ≤ 1125899906842624) (hx1 : -1125899906842624 ≤ x1 ∧ x1 ≤ 1125899906842624) : ref_Wave [x0, x1] = some [x0 + x1, x0 - x1] := by
  rw [wt_wave1]
  simp only [ww_al, ww_ar, ww_sl, ww_sr]
  refine congrArg some ?_
  repeat (refine congr (congrArg List.cons (ww_to (by omega) (by omega))) ?_)
  rfl
theorem wb_can1 {a b : Int} (h : 2 * a = 2 * b) : a = b := by omega
theorem wb_qb1 {q l : Int} (h : 2 * q = l) (hl : -16000000000 ≤ l ∧ l ≤ 16000000000) : -1125899906842624 ≤ q ∧ q ≤ 1125899906842624 := by omega
theorem wb_dq1_0 (q0 q1 : Int) : 2 * (q0 + q1) = 2 * q0 + 2 * q1 := by omega
theorem wb_id1_0 (x0 x1 : Int) : (x0 + x1) + (x0 - x1) = 2 * x0 := by omega
theorem wb_dq1_1 (q0 q1 : Int) : 2 * (q0 - q1) = 2 * q0 - 2 * q1 := by omega
theorem wb_id1_1 (x0 x1 : Int) : (x0 + x1) - (x0 - x1) = 2 * x1 := by omega
theorem wb_inv1 (x0 x1 q0 q1 : Int) (hq0 : -1125899906842624 ≤ q0 ∧ q0 ≤ 1125899906842624) (hq1 : -1125899906842624 ≤ q1 ∧ q1 ≤ 1125899906842624) (e0 : 2 * q0 = x0 + x1) (e1 : 2 * q1 = x0 - x1) : ref_Wave [q0, q1] = some [x0, x1] := by
  rw [wb_lin1 q0 q1 hq0 hq1]
  refine congrArg some ?_
  refine congr (congrArg List.cons (wb_can1 (by rw [wb_dq1_0, e0, e1, wb_id1_0]))) ?_
  refine congr (congrArg List.cons (wb_can1 (by rw [wb_dq1_1, e0, e1, wb_id1_1]))) ?_
  rfl
theorem wb_main1 (x0 x1 : Int) (hb : ∀ v ∈ [x0, x1], -1000000000 ≤ v ∧ v ≤ 1000000000) : ∃ t, ref_Wave [x0, x1] = some t ∧ t.length = 2 ∧ (∀ v ∈ t, -16000000000 ≤ v ∧ v ≤ 16000000000) ∧ ((∀ v ∈ t, Int.tmod v 2 = 0) → ref_Wave (t.map fun v => Int.tdiv v 2) = some [x0, x1]) := by
  have h0 := hb x0 (.head _)
  have h1 := hb x1 (.tail _ (.head _))
  clear hb
  have b0 : -16000000000 ≤ x0 + x1 ∧ x0 + x1 ≤ 16000000000 := by omega
  have b1 : -16000000000 ≤ x0 - x1 ∧ x0 - x1 ≤ 16000000000 := by clear b0; omega
  refine ⟨_, wb_lin1 x0 x1 ⟨by have := h0.1; clear b0 b1; omega, by have := h0.2; clear b0 b1; omega⟩ ⟨by have := h1.1; clear b0 b1; omega, by have := h1.2; clear b0 b1; omega⟩, rfl, ?_, fun h => ?_⟩
  · intro v hv
    simp only [List.mem_cons, List.not_mem_nil, or_false] at hv
    rcases hv with rfl | rfl
    · exact b0
    · exact b1
  · refine wb_inv1 x0 x1 _ _ (wb_qb1 (wb_div (h _ (.head _))) b0) (wb_qb1 (wb_div (h _ (.tail _ (.head _)))) b1) (wb_div (h _ (.head _))) (wb_div (h _ (.tail _ (.head _))))
theorem wb_lin2 (x0 x1 x2 x3 : Int) (hx0 : -1125899906842624 ≤ x0 ∧ x0 ≤ 1125899906842624) (hx1 : -1125899906842624 ≤ x1 ∧ x1 ≤ 1125899906842624) (hx2 : -1125899906842624 ≤ x2 ∧ x2 ≤ 1125899906842624) (hx3 : -1125899906842624 ≤ x3 ∧ x3 ≤ 1125899906842624) : ref_Wave [x0, x1, x2, x3] = some [x0 + x1 + x2 + x3, x0 - x1 + x2 - x3, x0 + x1 - x2 - x3, x0 - x1 - x2 + x3] := by
  rw [wt_wave2]
  simp only [ww_al, ww_ar, ww_sl, ww_sr]
  refine congrArg some ?_
  repeat (refine congr (congrArg List.cons (ww_to (by omega) (by omega))) ?_)
  rfl
theorem wb_can2 {a b : Int} (h : 4 * a = 4 * b) : a = b := by omega
theorem wb_qb2 {q l : Int} (h : 4 * q = l) (hl : -16000000000 ≤ l ∧ l ≤ 16000000000) : -1125899906842624 ≤ q ∧ q ≤ 1125899906842624 := by omega
theorem wb_dq2_0 (q0 q1 q2 q3 : Int) : 4 * (q0 + q1 + q2 + q3) = 4 * q0 + 4 * q1 + 4 * q2 + 4 * q3 := by omega
theorem wb_id2_0 (x0 x1 x2 x3 : Int) : (x0 + x1 + x2 + x3) + (x0 - x1 + x2 - x3) + (x0 + x1 - x2 - x3) + (x0 - x1 - x2 + x3) = 4 * x0 := by omega
theorem wb_dq2_1 (q0 q1 q2 q3 : Int) : 4 * (q0 - q1 + q2 - q3) = 4 * q0 - 4 * q1 + 4 * q2 - 4 * q3 := by omega
theorem wb_id2_1 (x0 x1 x2 x3 : Int) : (x0 + x1 + x2 + x3) - (x0 - x1 + x2 - x3) + (x0 + x1 - x2 - x3) - (x0 - x1 - x2 + x3) = 4 * x1 := by omega
theorem wb_dq2_2 (q0 q1 q2 q3 : Int) : 4 * (q0 + q1 - q2 - q3) = 4 * q0 + 4 * q1 - 4 * q2 - 4 * q3 := by omega
theorem wb_id2_2 (x0 x1 x2 x3 : Int) : (x0 + x1 + x2 + x3) + (x0 - x1 + x2 - x3) - (x0 + x1 - x2 - x3) - (x0 - x1 - x2 + x3) = 4 * x2 := by omega
theorem wb_dq2_3 (q0 q1 q2 q3 : Int) : 4 * (q0 - q1 - q2 + q3) = 4 * q0 - 4 * q1 - 4 * q2 + 4 * q3 := by omega
theorem wb_id2_3 (x0 x1 x2 x3 : Int) : (x0 + x1 + x2 + x3) - (x0 - x1 + x2 - x3) - (x0 + x1 - x2 - x3) + (x0 - x1 - x2 + x3) = 4 * x3 := by omega
theorem wb_inv2 (x0 x1 x2 x3 q0 q1 q2 q3 : Int) (hq0 : -1125899906842624 ≤ q0 ∧ q0 ≤ 1125899906842624) (hq1 : -1125899906842624 ≤ q1 ∧ q1 ≤ 1125899906842624) (hq2 : -1125899906842624 ≤ q2 ∧ q2 ≤ 1125899906842624) (hq3 : -1125899906842624 ≤ q3 ∧ q3 ≤ 1125899906842624) (e0 : 4 * q0 = x0 + x1 + x2 + x3) (e1 : 4 * q1 = x0 - x1 + x2 - x3) (e2 : 4 * q2 = x0 + x1 - x2 - x3) (e3 : 4 * q3 = x0 - x1 - x2 + x3) : ref_Wave [q0, q1, q2, q3] = some [x0, x1, x2, x3] := by
  rw [wb_lin2 q0 q1 q2 q3 hq0 hq1 hq2 hq3]
  refine congrArg some ?_
  refine congr (congrArg List.cons (wb_can2 (by rw [wb_dq2_0, e0, e1, e2, e3, wb_id2_0]))) ?_
  refine congr (congrArg List.cons (wb_can2 (by rw [wb_dq2_1, e0, e1, e2, e3, wb_id2_1]))) ?_
  refine congr (congrArg List.cons (wb_can2 (by rw [wb_dq2_2, e0, e1, e2, e3, wb_id2_2]))) ?_
  refine congr (congrArg List.cons (wb_can2 (by rw [wb_dq2_3, e0, e1, e2, e3, wb_id2_3]))) ?_
  rfl
theorem wb_main2 (x0 x1 x2 x3 : Int) (hb : ∀ v ∈ [x0, x1, x2, x3], -1000000000 ≤ v ∧ v ≤ 1000000000) : ∃ t, ref_Wave [x0, x1, x2, x3] = some t ∧ t.length = 4 ∧ (∀ v ∈ t, -16000000000 ≤ v ∧ v ≤ 16000000000) ∧ ((∀ v ∈ t, Int.tmod v 4 = 0) → ref_Wave (t.map fun v => Int.tdiv v 4) = some [x0, x1, x2, x3]) := by
  have h0 := hb x0 (.head _)
  have h1 := hb x1 (.tail _ (.head _))
  have h2 := hb x2 (.tail _ (.tail _ (.head _)))
  have h3 := hb x3 (.tail _ (.tail _ (.tail _ (.head _))))
  clear hb
  have b0 : -16000000000 ≤ x0 + x1 + x2 + x3 ∧ x0 + x1 + x2 + x3 ≤ 16000000000 := by omega
  have b1 : -16000000000 ≤ x0 - x1 + x2 - x3 ∧ x0 - x1 + x2 - x3 ≤ 16000000000 := by clear b0; omega
  have b2 : -16000000000 ≤ x0 + x1 - x2 - x3 ∧ x0 + x1 - x2 - x3 ≤ 16000000000 := by clear b0 b1; omega
  have b3 : -16000000000 ≤ x0 - x1 - x2 + x3 ∧ x0 - x1 - x2 + x3 ≤ 16000000000 := by clear b0 b1 b2; omega
  refine ⟨_, wb_lin2 x0 x1 x2 x3 ⟨by have := h0.1; clear b0 b1 b2 b3; omega, by have := h0.2; clear b0 b1 b2 b3; omega⟩ ⟨by have := h1.1; clear b0 b1 b2 b3; omega, by have := h1.2; clear b0 b1 b2 b3; omega⟩ ⟨by have := h2.1; clear b0 b1 b2 b3; omega, by have := h2.2; clear b0 b1 b2 b3; omega⟩ ⟨by have := h3.1; clear b0 b1 b2 b3; omega, by have := h3.2; clear b0 b1 b2 b3; omega⟩, rfl, ?_, fun h => ?_⟩
  · intro v hv
    simp only [List.mem_cons, List.not_mem_nil, or_false] at hv
    rcases hv with rfl | rfl | rfl | rfl
    · exact b0
    · exact b1
    · exact b2
    · exact b3
  · refine wb_inv2 x0 x1 x2 x3 _ _ _ _ (wb_qb2 (wb_div (h _ (.head _))) b0) (wb_qb2 (wb_div (h _ (.tail _ (.head _)))) b1) (wb_qb2 (wb_div (h _ (.tail _ (.tail _ (.head _))))) b2) (wb_qb2 (wb_div (h _ (.tail _ (.tail _ (.tail _ (.head _)))))) b3) (wb_div (h _ (.head _))) (wb_div (h _ (.tail _ (.head _)))) (wb_div (h _ (.tail _ (.tail _ (.head _))))) (wb_div (h _ (.tail _ (.tail _ (.tail _ (.head _))))))
theorem wb_lin3 (x0 x1 x2 x3 x4 x5 x6 x7 : Int) (hx0 : -1125899906842624 ≤ x0 ∧ x0 ≤ 1125899906842624) (hx1 : -1125899906842624 ≤ x1 ∧ x1 ≤ 1125899906842624) (hx2 : -1125899906842624 ≤ x2 ∧ x2 ≤ 1125899906842624) (hx3 : -1125899906842624 ≤ x3 ∧ x3 ≤ 1125899906842624) (hx4 : -1125899906842624 ≤ x4 ∧ x4 ≤ 1125899906842624) (hx5 : -1125899906842624 ≤ x5 ∧ x5 ≤ 1125899906842624) (hx6 : -1125899906842624 ≤ x6 ∧ x6 ≤ 1125899906842624) (hx7 : -1125899906842624 ≤ x7 ∧ x7 ≤ 1125899906842624) : ref_Wave [x0, x1, x2, x3, x4, x5, x6, x7] = some [x0 + x1 + x2 + x3 + x4 + x5 + x6 + x7, x0 - x1 + x2 - x3 + x4 - x5 + x6 - x7, x0 + x1 - x2 - x3 + x4 + x5 - x6 - x7, x0 - x1 - x2 + x3 + x4 - x5 - x6 + x7, x0 + x1 + x2 + x3 - x4 - x5 - x6 - x7, x0 - x1 + x2 - x3 - x4 + x5 - x6 + x7, x0 + x1 - x2 - x3 - x4 - x5 + x6 + x7, x0 - x1 - x2 + x3 - x4 + x5 + x6 - x7] := by
  rw [wt_wave3]
  simp only [ww_al, ww_ar, ww_sl, ww_sr]
  refine congrArg some ?_
  repeat (refine congr (congrArg List.cons (ww_to (by omega) (by omega))) ?_)
  rfl
theorem wb_can3 {a b : Int} (h : 8 * a = 8 * b) : a = b := by omega
theorem wb_qb3 {q l : Int} (h : 8 * q = l) (hl : -16000000000 ≤ l ∧ l ≤ 16000000000) : -1125899906842624 ≤ q ∧ q ≤ 1125899906842624 := by omega
theorem wb_dq3_0 (q0 q1 q2 q3 q4 q5 q6 q7 : Int) : 8 * (q0 + q1 + q2 + q3 + q4 + q5 + q6 + q7) = 8 * q0 + 8 * q1 + 8 * q2 + 8 * q3 + 8 * q4 + 8 * q5 + 8 * q6 + 8 * q7 := by omega
theorem wb_id3_0 (x0 x1 x2 x3 x4 x5 x6 x7 : Int) : (x0 + x1 + x2 + x3 + x4 + x5 + x6 + x7) + (x0 - x1 + x2 - x3 + x4 - x5 + x6 - x7) + (x0 + x1 - x2 - x3 + x4 + x5 - x6 - x7) + (x0 - x1 - x2 + x3 + x4 - x5 - x6 + x7) + (x0 + x1 + x2 + x3 - x4 - x5 - x6 - x7) + (x0 - x1 + x2 - x3 - x4 + x5 - x6 + x7) + (x0 + x1 - x2 - x3 - x4 - x5 + x6 + x7) + (x0 - x1 - x2 + x3 - x4 + x5 + x6 - x7) = 8 * x0 := by omega
theorem wb_dq3_1 (q0 q1 q2 q3 q4 q5 q6 q7 : Int) : 8 * (q0 - q1 + q2 - q3 + q4 - q5 + q6 - q7) = 8 * q0 - 8 * q1 + 8 * q2 - 8 * q3 + 8 * q4 - 8 * q5 + 8 * q6 - 8 * q7 := by omega
theorem wb_id3_1 (x0 x1 x2 x3 x4 x5 x6 x7 : Int) : (x0 + x1 + x2 + x3 + x4 + x5 + x6 + x7) - (x0 - x1 + x2 - x3 + x4 - x5 + x6 - x7) + (x0 + x1 - x2 - x3 + x4 + x5 - x6 - x7) - (x0 - x1 - x2 + x3 + x4 - x5 - x6 + x7) + (x0 + x1 + x2 + x3 - x4 - x5 - x6 - x7) - (x0 - x1 + x2 - x3 - x4 + x5 - x6 + x7) + (x0 + x1 - x2 - x3 - x4 - x5 + x6 + x7) - (x0 - x1 - x2 + x3 - x4 + x5 + x6 - x7) = 8 * x1 := by omega
theorem wb_dq3_2 (q0 q1 q2 q3 q4 q5 q6 q7 : Int) : 8 * (q0 + q1 - q2 - q3 + q4 + q5 - q6 - q7) = 8 * q0 + 8 * q1 - 8 * q2 - 8 * q3 + 8 * q4 + 8 * q5 - 8 * q6 - 8 * q7 := by omega
theorem wb_id3_2 (x0 x1 x2 x3 x4 x5 x6 x7 : Int) : (x0 + x1 + x2 + x3 + x4 + x5 + x6 + x7) + (x0 - x1 + x2 - x3 + x4 - x5 + x6 - x7) - (x0 + x1 - x2 - x3 + x4 + x5 - x6 - x7) - (x0 - x1 - x2 + x3 + x4 - x5 - x6 + x7) + (x0 + x1 + x2 + x3 - x4 - x5 - x6 - x7) + (x0 - x1 + x2 - x3 - x4 + x5 - x6 + x7) - (x0 + x1 - x2 - x3 - x4 - x5 + x6 + x7) - (x0 - x1 - x2 + x3 - x4 + x5 + x6 - x7) = 8 * x2 := by omega
theorem wb_dq3_3 (q0 q1 q2 q3 q4 q5 q6 q7 : Int) : 8 * (q0 - q1 - q2 + q3 + q4 - q5 - q6 + q7) = 8 * q0 - 8 * q1 - 8 * q2 + 8 * q3 + 8 * q4 - 8 * q5 - 8 * q6 + 8 * q7 := by omega
theorem wb_id3_3 (x0 x1 x2 x3 x4 x5 x6 x7 : Int) : (x0 + x1 + x2 + x3 + x4 + x5 + x6 + x7) - (x0 - x1 + x2 - x3 + x4 - x5 + x6 - x7) - (x0 + x1 - x2 - x3 + x4 + x5 - x6 - x7) + (x0 - x1 - x2 + x3 + x4 - x5 - x6 + x7) + (x0 + x1 + x2 + x3 - x4 - x5 - x6 - x7) - (x0 - x1 + x2 - x3 - x4 + x5 - x6 + x7) - (x0 + x1 - x2 - x3 - x4 - x5 + x6 + x7) + (x0 - x1 - x2 + x3 - x4 + x5 + x6 - x7) = 8 * x3 := by omega
theorem wb_dq3_4 (q0 q1 q2 q3 q4 q5 q6 q7 : Int) : 8 * (q0 + q1 + q2 + q3 - q4 - q5 - q6 - q7) = 8 * q0 + 8 * q1 + 8 * q2 + 8 * q3 - 8 * q4 - 8 * q5 - 8 * q6 - 8 * q7 := by omega
theorem wb_id3_4 (x0 x1 x2 x3 x4 x5 x6 x7 : Int) : (x0 + x1 + x2 + x3 + x4 + x5 + x6 + x7) + (x0 - x1 + x2 - x3 + x4 - x5 + x6 - x7) + (x0 + x1 - x2 - x3 + x4 + x5 - x6 - x7) + (x0 - x1 - x2 + x3 + x4 - x5 - x6 + x7) - (x0 + x1 + x2 + x3 - x4 - x5 - x6 - x7) - (x0 - x1 + x2 - x3 - x4 + x5 - x6 + x7) - (x0 + x1 - x2 - x3 - x4 - x5 + x6 + x7) - (x0 - x1 - x2 + x3 - x4 + x5 + x6 - x7) = 8 * x4 := by omega
theorem wb_dq3_5 (q0 q1 q2 q3 q4 q5 q6 q7 : Int) : 8 * (q0 - q1 + q2 - q3 - q4 + q5 - q6 + q7) = 8 * q0 - 8 * q1 + 8 * q2 - 8 * q3 - 8 * q4 + 8 * q5 - 8 * q6 + 8 * q7 := by omega
theorem wb_id3_5 (x0 x1 x2 x3 x4 x5 x6 x7 : Int) : (x0 + x1 + x2 + x3 + x4 + x5 + x6 + x7) - (x0 - x1 + x2 - x3 + x4 - x5 + x6 - x7) + (x0 + x1 - x2 - x3 + x4 + x5 - x6 - x7) - (x0 - x1 - x2 + x3 + x4 - x5 - x6 + x7) - (x0 + x1 + x2 + x3 - x4 - x5 - x6 - x7) + (x0 - x1 + x2 - x3 - x4 + x5 - x6 + x7) - (x0 + x1 - x2 - x3 - x4 - x5 + x6 + x7) + (x0 - x1 - x2 + x3 - x4 + x5 + x6 - x7) = 8 * x5 := by omega
theorem wb_dq3_6 (q0 q1 q2 q3 q4 q5 q6 q7 : Int) : 8 * (q0 + q1 - q2 - q3 - q4 - q5 + q6 + q7) = 8 * q0 + 8 * q1 - 8 * q2 - 8 * q3 - 8 * q4 - 8 * q5 + 8 * q6 + 8 * q7 := by omega
theorem wb_id3_6 (x0 x1 x2 x3 x4 x5 x6 x7 : Int) : (x0 + x1 + x2 + x3 + x4 + x5 + x6 + x7) + (x0 - x1 + x2 - x3 + x4 - x5 + x6 - x7) - (x0 + x1 - x2 - x3 + x4 + x5 - x6 - x7) - (x0 - x1 - x2 + x3 + x4 - x5 - x6 + x7) - (x0 + x1 + x2 + x3 - x4 - x5 - x6 - x7) - (x0 - x1 + x2 - x3 - x4 + x5 - x6 + x7) + (x0 + x1 - x2 - x3 - x4 - x5 + x6 + x7) + (x0 - x1 - x2 + x3 - x4 + x5 + x6 - x7) = 8 * x6 := by omega
theorem wb_dq3_7 (q0 q1 q2 q3 q4 q5 q6 q7 : Int) : 8 * (q0 - q1 - q2 + q3 - q4 + q5 + q6 - q7) = 8 * q0 - 8 * q1 - 8 * q2 + 8 * q3 - 8 * q4 + 8 * q5 + 8 * q6 - 8 * q7 := by omega
theorem wb_id3_7 (x0 x1 x2 x3 x4 x5 x6 x7 : Int) : (x0 + x1 + x2 + x3 + x4 + x5 + x6 + x7) - (x0 - x1 + x2 - x3 + x4 - x5 + x6 - x7) - (x0 + x1 - x2 - x3 + x4 + x5 - x6 - x7) + (x0 - x1 - x2 + x3 + x4 - x5 - x6 + x7) - (x0 + x1 + x2 + x3 - x4 - x5 - x6 - x7) + (x0 - x1 + x2 - x3 - x4 + x5 - x6 + x7) + (x0 + x1 - x2 - x3 - x4 - x5 + x6 + x7) - (x0 - x1 - x2 + x3 - x4 + x5 + x6 - x7) = 8 * x7 := by omega
theorem wb_inv3 (x0 x1 x2 x3 x4 x5 x6 x7 q0 q1 q2 q3 q4 q5 q6 q7 : Int) (hq0 : -1125899906842624 ≤ q0 ∧ q0 ≤ 1125899906842624) (hq1 : -1125899906842624 ≤ q1 ∧ q1 ≤ 1125899906842624) (hq2 : -1125899906842624 ≤ q2 ∧ q2 ≤ 1125899906842624) (hq3 : -1125899906842624 ≤ q3 ∧ q3 ≤ 1125899906842624) (hq4 : -1125899906842624 ≤ q4 ∧ q4 ≤ 1125899906842624) (hq5 : -1125899906842624 ≤ q5 ∧ q5 ≤ 1125899906842624) (hq6 : -1125899906842624 ≤ q6 ∧ q6 ≤ 1125899906842624) (hq7 : -1125899906842624 ≤ q7 ∧ q7 ≤ 1125899906842624) (e0 : 8 * q0 = x0 + x1 + x2 + x3 + x4 + x5 + x6 + x7) (e1 : 8 * q1 = x0 - x1 + x2 - x3 + x4 - x5 + x6 - x7) (e2 : 8 * q2 = x0 + x1 - x2 - x3 + x4 + x5 - x6 - x7) (e3 : 8 * q3 = x0 - x1 - x2 + x3 + x4 - x5 - x6 + x7) (e4 : 8 * q4 = x0 + x1 + x2 + x3 - x4 - x5 - x6 - x7) (e5 : 8 * q5 = x0 - x1 + x2 - x3 - x4 + x5 - x6 + x7) (e6 : 8 * q6 = x0 + x1 - x2 - x3 - x4 - x5 + x6 + x7) (e7 : 8 * q7 = x0 - x1 - x2 + x3 - x4 + x5 + x6 - x7) : ref_Wave [q0, q1, q2, q3, q4, q5, q6, q7] = some [x0, x1, x2, x3, x4, x5, x6, x7] := by
  rw [wb_lin3 q0 q1 q2 q3 q4 q5 q6 q7 hq0 hq1 hq2 hq3 hq4 hq5 hq6 hq7]
  refine congrArg some ?_
  refine congr (congrArg List.cons (wb_can3 (by rw [wb_dq3_0, e0, e1, e2, e3, e4, e5, e6, e7, wb_id3_0]))) ?_
  refine congr (congrArg List.cons (wb_can3 (by rw [wb_dq3_1, e0, e1, e2, e3, e4, e5, e6, e7, wb_id3_1]))) ?_
  refine congr (congrArg List.cons (wb_can3 (by rw [wb_dq3_2, e0, e1, e2, e3, e4, e5, e6, e7, wb_id3_2]))) ?_
  refine congr (congrArg List.cons (wb_can3 (by rw [wb_dq3_3, e0, e1, e2, e3, e4, e5, e6, e7, wb_id3_3]))) ?_
  refine congr (congrArg List.cons (wb_can3 (by rw [wb_dq3_4, e0, e1, e2, e3, e4, e5, e6, e7, wb_id3_4]))) ?_
  refine congr (congrArg List.cons (wb_can3 (by rw [wb_dq3_5, e0, e1, e2, e3, e4, e5, e6, e7, wb_id3_5]))) ?_
  refine congr (congrArg List.cons (wb_can3 (by rw [wb_dq3_6, e0, e1, e2, e3, e4, e5, e6, e7, wb_id3_6]))) ?_
  refine congr (congrArg List.cons (wb_can3 (by rw [wb_dq3_7, e0, e1, e2, e3, e4, e5, e6, e7, wb_id3_7]))) ?_
  rfl
theorem wb_main3 (x0 x1 x2 x3 x4 x5 x6 x7 : Int) (hb : ∀ v ∈ [x0, x1, x2, x3, x4, x5, x6, x7], -1000000000 ≤ v ∧ v ≤ 1000000000) : ∃ t, ref_Wave [x0, x1, x2, x3, x4, x5, x6, x7] = some t ∧ t.length = 8 ∧ (∀ v ∈ t, -16000000000 ≤ v ∧ v ≤ 16000000000) ∧ ((∀ v ∈ t, Int.tmod v 8 = 0) → ref_Wave (t.map fun v => Int.tdiv v 8) = some [x0, x1, x2, x3, x4, x5, x6, x7]) := by
  have h0 := hb x0 (.head _)
  have h1 := hb x1 (.tail _ (.head _))
  have h2 := hb x2 (.tail _ (.tail _ (.head _)))
  have h3 := hb x3 (.tail _ (.tail _ (.tail _ (.head _))))
  have h4 := hb x4 (.tail _ (.tail _ (.tail _ (.tail _ (.head _)))))
  have h5 := hb x5 (.tail _ (.tail _ (.tail _ (.tail _ (.tail _ (.head _))))))
  have h6 := hb x6 (.tail _ (.tail _ (.tail _ (.tail _ (.tail _ (.tail _ (.head _)))))))
  have h7 := hb x7 (.tail _ (.tail _ (.tail _ (.tail _ (.tail _ (.tail _ (.tail _ (.head _))))))))
  clear hb
  have b0 : -16000000000 ≤ x0 + x1 + x2 + x3 + x4 + x5 + x6 + x7 ∧ x0 + x1 + x2 + x3 + x4 + x5 + x6 + x7 ≤ 16000000000 := by omega
  have b1 : -16000000000 ≤ x0 - x1 + x2 - x3 + x4 - x5 + x6 - x7 ∧ x0 - x1 + x2 - x3 + x4 - x5 + x6 - x7 ≤ 16000000000 := by clear b0; omega
  have b2 : -16000000000 ≤ x0 + x1 - x2 - x3 + x4 + x5 - x6 - x7 ∧ x0 + x1 - x2 - x3 + x4 + x5 - x6 - x7 ≤ 16000000000 := by clear b0 b1; omega
  have b3 : -16000000000 ≤ x0 - x1 - x2 + x3 + x4 - x5 - x6 + x7 ∧ x0 - x1 - x2 + x3 + x4 - x5 - x6 + x7 ≤ 16000000000 := by clear b0 b1 b2; omega
  have b4 : -16000000000 ≤ x0 + x1 + x2 + x3 - x4 - x5 - x6 - x7 ∧ x0 + x1 + x2 + x3 - x4 - x5 - x6 - x7 ≤ 16000000000 := by clear b0 b1 b2 b3; omega
  have b5 : -16000000000 ≤ x0 - x1 + x2 - x3 - x4 + x5 - x6 + x7 ∧ x0 - x1 + x2 - x3 - x4 + x5 - x6 + x7 ≤ 16000000000 := by clear b0 b1 b2 b3 b4; omega
  have b6 : -16000000000 ≤ x0 + x1 - x2 - x3 - x4 - x5 + x6 + x7 ∧ x0 + x1 - x2 - x3 - x4 - x5 + x6 + x7 ≤ 16000000000 := by clear b0 b1 b2 b3 b4 b5; omega
  have b7 : -16000000000 ≤ x0 - x1 - x2 + x3 - x4 + x5 + x6 - x7 ∧ x0 - x1 - x2 + x3 - x4 + x5 + x6 - x7 ≤ 16000000000 := by clear b0 b1 b2 b3 b4 b5 b6; omega
  refine ⟨_, wb_lin3 x0 x1 x2 x3 x4 x5 x6 x7 ⟨by have := h0.1; clear b0 b1 b2 b3 b4 b5 b6 b7; omega, by have := h0.2; clear b0 b1 b2 b3 b4 b5 b6 b7; omega⟩ ⟨by have := h1.1; clear b0 b1 b2 b3 b4 b5 b6 b7; omega, by have := h1.2; clear b0 b1 b2 b3 b4 b5 b6 b7; omega⟩ ⟨by have := h2.1; clear b0 b1 b2 b3 b4 b5 b6 b7; omega, by have := h2.2; clear b0 b1 b2 b3 b4 b5 b6 b7; omega⟩ ⟨by have := h3.1; clear b0 b1 b2 b3 b4 b5 b6 b7; omega, by have := h3.2; clear b0 b1 b2 b3 b4 b5 b6 b7; omega⟩ ⟨by have := h4.1; clear b0 b1 b2 b3 b4 b5 b6 b7; omega, by have := h4.2; clear b0 b1 b2 b3 b4 b5 b6 b7; omega⟩ ⟨by have := h5.1; clear b0 b1 b2 b3 b4 b5 b6 b7; omega, by have := h5.2; clear b0 b1 b2 b3 b4 b5 b6 b7; omega⟩ ⟨by have := h6.1; clear b0 b1 b2 b3 b4 b5 b6 b7; omega, by have := h6.2; clear b0 b1 b2 b3 b4 b5 b6 b7; omega⟩ ⟨by have := h7.1; clear b0 b1 b2 b3 b4 b5 b6 b7; omega, by have := h7.2; clear b0 b1 b2 b3 b4 b5 b6 b7; omega⟩, rfl, ?_, fun h => ?_⟩
  · intro v hv
    simp only [List.mem_cons, List.not_mem_nil, or_false] at hv
    rcases hv with rfl | rfl | rfl | rfl | rfl | rfl | rfl | rfl
    · exact b0
    · exact b1
    · exact b2
    · exact b3
    · exact b4
    · exact b5
    · exact b6
    · exact b7
  · refine wb_inv3 x0 x1 x2 x3 x4 x5 x6 x7 _ _ _ _ _ _ _ _ (wb_qb3 (wb_div (h _ (.head _))) b0) (wb_qb3 (wb_div (h _ (.tail _ (.head _)))) b1) (wb_qb3 (wb_div (h _ (.tail _ (.tail _ (.head _))))) b2) (wb_qb3 (wb_div (h _ (.tail _ (.tail _ (.tail _ (.head _)))))) b3) (wb_qb3 (wb_div (h _ (.tail _ (.tail _ (.tail _ (.tail _ (.head _))))))) b4) (wb_qb3 (wb_div (h _ (.tail _ (.tail _ (.tail _ (.tail _ (.tail _ (.head _)))))))) b5) (wb_qb3 (wb_div (h _ (.tail _ (.tail _ (.tail _ (.tail _ (.tail _ (.tail _ (.head _))))))))) b6) (wb_qb3 (wb_div (h _ (.tail _ (.tail _ (.tail _ (.tail _ (.tail _ (.tail _ (.tail _ (.head _)))))))))) b7) (wb_div (h _ (.head _))) (wb_div (h _ (.tail _ (.head _)))) (wb_div (h _ (.tail _ (.tail _ (.head _))))) (wb_div (h _ (.tail _ (.tail _ (.tail _ (.head _)))))) (wb_div (h _ (.tail _ (.tail _ (.tail _ (.tail _ (.head _))))))) (wb_div (h _ (.tail _ (.tail _ (.tail _ (.tail _ (.tail _ (.head _)))))))) (wb_div (h _ (.tail _ (.tail _ (.tail _ (.tail _ (.tail _ (.tail _ (.head _))))))))) (wb_div (h _ (.tail _ (.tail _ (.tail _ (.tail _ (.tail _ (.tail _ (.tail _ (.head _))))))))))
theorem wb_lin4 (x0 x1 x2 x3 x4 x5 x6 x7 x8 x9 x10 x11 x12 x13 x14 x15 : Int) (hx0 : -1125899906842624 ≤ x0 ∧ x0 ≤ 1125899906842624) (hx1 : -1125899906842624 ≤ x1 ∧ x1 ≤ 1125899906842624) (hx2 : -1125899906842624 ≤ x2 ∧ x2 ≤ 1125899906842624) (hx3 : -1125899906842624 ≤ x3 ∧ x3 ≤ 1125899906842624) (hx4 : -1125899906842624 ≤ x4 ∧ x4 ≤ 1125899906842624) (hx5 : -1125899906842624 ≤ x5 ∧ x5 ≤ 1125899906842624) (hx6 : -1125899906842624 ≤ x6 ∧ x6 ≤ 1125899906842624) (hx7 : -1125899906842624 ≤ x7 ∧ x7 ≤ 1125899906842624) (hx8 : -1125899906842624 ≤ x8 ∧ x8 ≤ 1125899906842624) (hx9 : -1125899906842624 ≤ x9 ∧ x9 ≤ 1125899906842624) (hx10 : -1125899906842624 ≤ x10 ∧ x10 ≤ 1125899906842624) (hx11 : -1125899906842624 ≤ x11 ∧ x11 ≤ 1125899906842624) (hx12 : -1125899906842624 ≤ x12 ∧ x12 ≤ 1125899906842624) (hx13 : -1125899906842624 ≤ x13 ∧ x13 ≤ 1125899906842624) (hx14 : -1125899906842624 ≤ x14 ∧ x14 ≤ 1125899906842624) (hx15 : -1125899906842624 ≤ x15 ∧ x15 ≤ 1125899906842624) : ref_Wave [x0, x1, x2, x3, x4, x5, x6, x7, x8, x9, x10, x11, x12, x13, x14, x15] = some [x0 + x1 + x2 + x3 + x4 + x5 + x6 + x7 + x8 + x9 + x10 + x11 + x12 + x13 + x14 + x15, x0 - x1 + x2 - x3 + x4 - x5 + x6 - x7 + x8 - x9 + x10 - x11 + x12 - x13 + x14 - x15, x0 + x1 - x2 - x3 + x4 + x5 - x6 - x7 + x8 + x9 - x10 - x11 + x12 + x13 - x14 - x15, x0 - x1 - x2 + x3 + x4 - x5 - x6 + x7 + x8 - x9 - x10 + x11 + x12 - x13 - x14 + x15, x0 + x1 + x2 + x3 - x4 - x5 - x6 - x7 + x8 + x9 + x10 + x11 - x12 - x13 - x14 - x15, x0 - x1 + x2 - x3 - x4 + x5 - x6 + x7 + x8 - x9 + x10 - x11 - x12 + x13 - x14 + x15, x0 + x1 - x2 - x3 - x4 - x5 + x6 + x7 + x8 + x9 - x10 - x11 - x12 - x13 + x14 + x15, x0 - x1 - x2 + x3 - x4 + x5 + x6 - x7 + x8 - x9 - x10 + x11 - x12 + x13 + x14 - x15, x0 + x1 + x2 + x3 + x4 + x5 + x6 + x7 - x8 - x9 - x10 - x11 - x12 - x13 - x14 - x15, x0 - x1 + x2 - x3 + x4 - x5 + x6 - x7 - x8 + x9 - x10 + x11 - x12 + x13 - x14 + x15, x0 + x1 - x2 - x3 + x4 + x5 - x6 - x7 - x8 - x9 + x10 + x11 - x12 - x13 + x14 + x15, x0 - x1 - x2 + x3 + x4 - x5 - x6 + x7 - x8 + x9 + x10 - x11 - x12 + x13 + x14 - x15, x0 + x1 + x2 + x3 - x4 - x5 - x6 - x7 - x8 - x9 - x10 - x11 + x12 + x13 + x14 + x15, x0 - x1 + x2 - x3 - x4 + x5 - x6 + x7 - x8 + x9 - x10 + x11 + x12 - x13 + x14 - x15, x0 + x1 - x2 - x3 - x4 - x5 + x6 + x7 - x8 - x9 + x10 + x11 + x12 + x13 - x14 - x15, x0 - x1 - x2 + x3 - x4 + x5 + x6 - x7 - x8 + x9 + x10 - x11 + x12 - x13 - x14 + x15] := by
  rw [wt_wave4]
  simp only [ww_al, ww_ar, ww_sl, ww_sr]
  refine congrArg some ?_
  repeat (refine congr (congrArg List.cons (ww_to (by omega) (by omega))) ?_)
  rfl
theorem wb_can4 {a b : Int} (h : 16 * a = 16 * b) : a = b := by omega
theorem wb_qb4 {q l : Int} (h : 16 * q = l) (hl : -16000000000 ≤ l ∧ l ≤ 16000000000) : -1125899906842624 ≤ q ∧ q ≤ 1125899906842624 := by omega
theorem wb_dq4_0 (q0 q1 q2 q3 q4 q5 q6 q7 q8 q9 q10 q11 q12 q13 q14 q15 : Int) : 16 * (q0 + q1 + q2 + q3 + q4 + q5 + q6 + q7 + q8 + q9 + q10 + q11 + q12 + q13 + q14 + q15) = 16 * q0 + 16 * q1 + 16 * q2 + 16 * q3 + 16 * q4 + 16 * q5 + 16 * q6 + 16 * q7 + 16 * q8 + 16 * q9 + 16 * q10 + 16 * q11 + 16 * q12 + 16 * q13 + 16 * q14 + 16 * q15 := by omega
theorem wb_id4_0 (x0 x1 x2 x3 x4 x5 x6 x7 x8 x9 x10 x11 x12 x13 x14 x15 : Int) : (x0 + x1 + x2 + x3 + x4 + x5 + x6 + x7 + x8 + x9 + x10 + x11 + x12 + x13 + x14 + x15) + (x0 - x1 + x2 - x3 + x4 - x5 + x6 - x7 + x8 - x9 + x10 - x11 + x12 - x13 + x14 - x15) + (x0 + x1 - x2 - x3 + x4 + x5 - x6 - x7 + x8 + x9 - x10 - x11 + x12 + x13 - x14 - x15) + (x0 - x1 - x2 + x3 + x4 - x5 - x6 + x7 + x8 - x9 - x10 + x11 + x12 - x13 - x14 + x15) + (x0 + x1 + x2 + x3 - x4 - x5 - x6 - x7 + x8 + x9 + x10 + x11 - x12 - x13 - x14 - x15) + (x0 - x1 + x2 - x3 - x4 + x5 - x6 + x7 + x8 - x9 + x10 - x11 - x12 + x13 - x14 + x15) + (x0 + x1 - x2 - x3 - x4 - x5 + x6 + x7 + x8 + x9 - x10 - x11 - x12 - x13 + x14 + x15) + (x0 - x1 - x2 + x3 - x4 + x5 + x6 - x7 + x8 - x9 - x10 + x11 - x12 + x13 + x14 - x15) + (x0 + x1 + x2 + x3 + x4 + x5 + x6 + x7 - x8 - x9 - x10 - x11 - x12 - x13 - x14 - x15) + (x0 - x1 + x2 - x3 + x4 - x5 + x6 - x7 - x8 + x9 - x10 + x11 - x12 + x13 - x14 + x15) + (x0 + x1 - x2 - x3 + x4 + x5 - x6 - x7 - x8 - x9 + x10 + x11 - x12 - x13 + x14 + x15) + (x0 - x1 - x2 + x3 + x4 - x5 - x6 + x7 - x8 + x9 + x10 - x11 - x12 + x13 + x14 - x15) + (x0 + x1 + x2 + x3 - x4 - x5 - x6 - x7 - x8 - x9 - x10 - x11 + x12 + x13 + x14 + x15) + (x0 - x1 + x2 - x3 - x4 + x5 - x6 + x7 - x8 + x9 - x10 + x11 + x12 - x13 + x14 - x15) + (x0 + x1 - x2 - x3 - x4 - x5 + x6 + x7 - x8 - x9 + x10 + x11 + x12 + x13 - x14 - x15) + (x0 - x1 - x2 + x3 - x4 + x5 + x6 - x7 - x8 + x9 + x10 - x11 + x12 - x13 - x14 + x15) = 16 * x0 := by omega
theorem wb_dq4_1 (q0 q1 q2 q3 q4 q5 q6 q7 q8 q9 q10 q11 q12 q13 q14 q15 : Int) : 16 * (q0 - q1 + q2 - q3 + q4 - q5 + q6 - q7 + q8 - q9 + q10 - q11 + q12 - q13 + q14 - q15) = 16 * q0 - 16 * q1 + 16 * q2 - 16 * q3 + 16 * q4 - 16 * q5 + 16 * q6 - 16 * q7 + 16 * q8 - 16 * q9 + 16 * q10 - 16 * q11 + 16 * q12 - 16 * q13 + 16 * q14 - 16 * q15 := by omega
theorem wb_id4_1 (x0 x1 x2 x3 x4 x5 x6 x7 x8 x9 x10 x11 x12 x13 x14 x15 : Int) : (x0 + x1 + x2 + x3 + x4 + x5 + x6 + x7 + x8 + x9 + x10 + x11 + x12 + x13 + x14 + x15) - (x0 - x1 + x2 - x3 + x4 - x5 + x6 - x7 + x8 - x9 + x10 - x11 + x12 - x13 + x14 - x15) + (x0 + x1 - x2 - x3 + x4 + x5 - x6 - x7 + x8 + x9 - x10 - x11 + x12 + x13 - x14 - x15) - (x0 - x1 - x2 + x3 + x4 - x5 - x6 + x7 + x8 - x9 - x10 + x11 + x12 - x13 - x14 + x15) + (x0 + x1 + x2 + x3 - x4 - x5 - x6 - x7 + x8 + x9 + x10 + x11 - x12 - x13 - x14 - x15) - (x0 - x1 + x2 - x3 - x4 + x5 - x6 + x7 + x8 - x9 + x10 - x11 - x12 + x13 - x14 + x15) + (x0 + x1 - x2 - x3 - x4 - x5 + x6 + x7 + x8 + x9 - x10 - x11 - x12 - x13 + x14 + x15) - (x0 - x1 - x2 + x3 - x4 + x5 + x6 - x7 + x8 - x9 - x10 + x11 - x12 + x13 + x14 - x15) + (x0 + x1 + x2 + x3 + x4 + x5 + x6 + x7 - x8 - x9 - x10 - x11 - x12 - x13 - x14 - x15) - (x0 - x1 + x2 - x3 + x4 - x5 + x6 - x7 - x8 + x9 - x10 + x11 - x12 + x13 - x14 + x15) + (x0 + x1 - x2 - x3 + x4 + x5 - x6 - x7 - x8 - x9 + x10 + x11 - x12 - x13 + x14 + x15) - (x0 - x1 - x2 + x3 + x4 - x5 - x6 + x7 - x8 + x9 + x10 - x11 - x12 + x13 + x14 - x15) + (x0 + x1 + x2 + x3 - x4 - x5 - x6 - x7 - x8 - x9 - x10 - x11 + x12 + x13 + x14 + x15) - (x0 - x1 + x2 - x3 - x4 + x5 - x6 + x7 - x8 + x9 - x10 + x11 + x12 - x13 + x14 - x15) + (x0 + x1 - x2 - x3 - x4 - x5 + x6 + x7 - x8 - x9 + x10 + x11 + x12 + x13 - x14 - x15) - (x0 - x1 - x2 + x3 - x4 + x5 + x6 - x7 - x8 + x9 + x10 - x11 + x12 - x13 - x14 + x15) = 16 * x1 := by omega
theorem wb_dq4_2 (q0 q1 q2 q3 q4 q5 q6 q7 q8 q9 q10 q11 q12 q13 q14 q15 : Int) : 16 * (q0 + q1 - q2 - q3 + q4 + q5 - q6 - q7 + q8 + q9 - q10 - q11 + q12 + q13 - q14 - q15) = 16 * q0 + 16 * q1 - 16 * q2 - 16 * q3 + 16 * q4 + 16 * q5 - 16 * q6 - 16 * q7 + 16 * q8 + 16 * q9 - 16 * q10 - 16 * q11 + 16 * q12 + 16 * q13 - 16 * q14 - 16 * q15 := by omega
theorem wb_id4_2 (x0 x1 x2 x3 x4 x5 x6 x7 x8 x9 x10 x11 x12 x13 x14 x15 : Int) : (x0 + x1 + x2 + x3 + x4 + x5 + x6 + x7 + x8 + x9 + x10 + x11 + x12 + x13 + x14 + x15) + (x0 - x1 + x2 - x3 + x4 - x5 + x6 - x7 + x8 - x9 + x10 - x11 + x12 - x13 + x14 - x15) - (x0 + x1 - x2 - x3 + x4 + x5 - x6 - x7 + x8 + x9 - x10 - x11 + x12 + x13 - x14 - x15) - (x0 - x1 - x2 + x3 + x4 - x5 - x6 + x7 + x8 - x9 - x10 + x11 + x12 - x13 - x14 + x15) + (x0 + x1 + x2 + x3 - x4 - x5 - x6 - x7 + x8 + x9 + x10 + x11 - x12 - x13 - x14 - x15) + (x0 - x1 + x2 - x3 - x4 + x5 - x6 + x7 + x8 - x9 + x10 - x11 - x12 + x13 - x14 + x15) - (x0 + x1 - x2 - x3 - x4 - x5 + x6 + x7 + x8 + x9 - x10 - x11 - x12 - x13 + x14 + x15) - (x0 - x1 - x2 + x3 - x4 + x5 + x6 - x7 + x8 - x9 - x10 + x11 - x12 + x13 + x14 - x15) + (x0 + x1 + x2 + x3 + x4 + x5 + x6 + x7 - x8 - x9 - x10 - x11 - x12 - x13 - x14 - x15) + (x0 - x1 + x2 - x3 + x4 - x5 + x6 - x7 - x8 + x9 - x10 + x11 - x12 + x13 - x14 + x15) - (x0 + x1 - x2 - x3 + x4 + x5 - x6 - x7 - x8 - x9 + x10 + x11 - x12 - x13 + x14 + x15) - (x0 - x1 - x2 + x3 + x4 - x5 - x6 + x7 - x8 + x9 + x10 - x11 - x12 + x13 + x14 - x15) + (x0 + x1 + x2 + x3 - x4 - x5 - x6 - x7 - x8 - x9 - x10 - x11 + x12 + x13 + x14 + x15) + (x0 - x1 + x2 - x3 - x4 + x5 - x6 + x7 - x8 + x9 - x10 + x11 + x12 - x13 + x14 - x15) - (x0 + x1 - x2 - x3 - x4 - x5 + x6 + x7 - x8 - x9 + x10 + x11 + x12 + x13 - x14 - x15) - (x0 - x1 - x2 + x3 - x4 + x5 + x6 - x7 - x8 + x9 + x10 - x11 + x12 - x13 - x14 + x15) = 16 * x2 := by omega
theorem wb_dq4_3 (q0 q1 q2 q3 q4 q5 q6 q7 q8 q9 q10 q11 q12 q13 q14 q15 : Int) : 16 * (q0 - q1 - q2 + q3 + q4 - q5 - q6 + q7 + q8 - q9 - q10 + q11 + q12 - q13 - q14 + q15) = 16 * q0 - 16 * q1 - 16 * q2 + 16 * q3 + 16 * q4 - 16 * q5 - 16 * q6 + 16 * q7 + 16 * q8 - 16 * q9 - 16 * q10 + 16 * q11 + 16 * q12 - 16 * q13 - 16 * q14 + 16 * q15 := by omega
theorem wb_id4_3 (x0 x1 x2 x3 x4 x5 x6 x7 x8 x9 x10 x11 x12 x13 x14 x15 : Int) : (x0 + x1 + x2 + x3 + x4 + x5 + x6 + x7 + x8 + x9 + x10 + x11 + x12 + x13 + x14 + x15) - (x0 - x1 + x2 - x3 + x4 - x5 + x6 - x7 + x8 - x9 + x10 - x11 + x12 - x13 + x14 - x15) - (x0 + x1 - x2 - x3 + x4 + x5 - x6 - x7 + x8 + x9 - x10 - x11 + x12 + x13 - x14 - x15) + (x0 - x1 - x2 + x3 + x4 - x5 - x6 + x7 + x8 - x9 - x10 + x11 + x12 - x13 - x14 + x15) + (x0 + x1 + x2 + x3 - x4 - x5 - x6 - x7 + x8 + x9 + x10 + x11 - x12 - x13 - x14 - x15) - (x0 - x1 + x2 - x3 - x4 + x5 - x6 + x7 + x8 - x9 + x10 - x11 - x12 + x13 - x14 + x15) - (x0 + x1 - x2 - x3 - x4 - x5 + x6 + x7 + x8 + x9 - x10 - x11 - x12 - x13 + x14 + x15) + (x0 - x1 - x2 + x3 - x4 + x5 + x6 - x7 + x8 - x9 - x10 + x11 - x12 + x13 + x14 - x15) + (x0 + x1 + x2 + x3 + x4 + x5 + x6 + x7 - x8 - x9 - x10 - x11 - x12 - x13 - x14 - x15) - (x0 - x1 + x2 - x3 + x4 - x5 + x6 - x7 - x8 + x9 - x10 + x11 - x12 + x13 - x14 + x15) - (x0 + x1 - x2 - x3 + x4 + x5 - x6 - x7 - x8 - x9 + x10 + x11 - x12 - x13 + x14 + x15) + (x0 - x1 - x2 + x3 + x4 - x5 - x6 + x7 - x8 + x9 + x10 - x11 - x12 + x13 + x14 - x15) + (x0 + x1 + x2 + x3 - x4 - x5 - x6 - x7 - x8 - x9 - x10 - x11 + x12 + x13 + x14 + x15) - (x0 - x1 + x2 - x3 - x4 + x5 - x6 + x7 - x8 + x9 - x10 + x11 + x12 - x13 + x14 - x15) - (x0 + x1 - x2 - x3 - x4 - x5 + x6 + x7 - x8 - x9 + x10 + x11 + x12 + x13 - x14 - x15) + (x0 - x1 - x2 + x3 - x4 + x5 + x6 - x7 - x8 + x9 + x10 - x11 + x12 - x13 - x14 + x15) = 16 * x3 := by omega
theorem wb_dq4_4 (q0 q1 q2 q3 q4 q5 q6 q7 q8 q9 q10 q11 q12 q13 q14 q15 : Int) : 16 * (q0 + q1 + q2 + q3 - q4 - q5 - q6 - q7 + q8 + q9 + q10 + q11 - q12 - q13 - q14 - q15) = 16 * q0 + 16 * q1 + 16 * q2 + 16 * q3 - 16 * q4 - 16 * q5 - 16 * q6 - 16 * q7 + 16 * q8 + 16 * q9 + 16 * q10 + 16 * q11 - 16 * q12 - 16 * q13 - 16 * q14 - 16 * q15 := by omega
theorem wb_id4_4 (x0 x1 x2 x3 x4 x5 x6 x7 x8 x9 x10 x11 x12 x13 x14 x15 : Int) : (x0 + x1 + x2 + x3 + x4 + x5 + x6 + x7 + x8 + x9 + x10 + x11 + x12 + x13 + x14 + x15) + (x0 - x1 + x2 - x3 + x4 - x5 + x6 - x7 + x8 - x9 + x10 - x11 + x12 - x13 + x14 - x15) + (x0 + x1 - x2 - x3 + x4 + x5 - x6 - x7 + x8 + x9 - x10 - x11 + x12 + x13 - x14 - x15) + (x0 - x1 - x2 + x3 + x4 - x5 - x6 + x7 + x8 - x9 - x10 + x11 + x12 - x13 - x14 + x15) - (x0 + x1 + x2 + x3 - x4 - x5 - x6 - x7 + x8 + x9 + x10 + x11 - x12 - x13 - x14 - x15) - (x0 - x1 + x2 - x3 - x4 + x5 - x6 + x7 + x8 - x9 + x10 - x11 - x12 + x13 - x14 + x15) - (x0 + x1 - x2 - x3 - x4 - x5 + x6 + x7 + x8 + x9 - x10 - x11 - x12 - x13 + x14 + x15) - (x0 - x1 - x2 + x3 - x4 + x5 + x6 - x7 + x8 - x9 - x10 + x11 - x12 + x13 + x14 - x15) + (x0 + x1 + x2 + x3 + x4 + x5 + x6 + x7 - x8 - x9 - x10 - x11 - x12 - x13 - x14 - x15) + (x0 - x1 + x2 - x3 + x4 - x5 + x6 - x7 - x8 + x9 - x10 + x11 - x12 + x13 - x14 + x15) + (x0 + x1 - x2 - x3 + x4 + x5 - x6 - x7 - x8 - x9 + x10 + x11 - x12 - x13 + x14 + x15) + (x0 - x1 - x2 + x3 + x4 - x5 - x6 + x7 - x8 + x9 + x10 - x11 - x12 + x13 + x14 - x15) - (x0 + x1 + x2 + x3 - x4 - x5 - x6 - x7 - x8 - x9 - x10 - x11 + x12 + x13 + x14 + x15) - (x0 - x1 + x2 - x3 - x4 + x5 - x6 + x7 - x8 + x9 - x10 + x11 + x12 - x13 + x14 - x15) - (x0 + x1 - x2 - x3 - x4 - x5 + x6 + x7 - x8 - x9 + x10 + x11 + x12 + x13 - x14 - x15) - (x0 - x1 - x2 + x3 - x4 + x5 + x6 - x7 - x8 + x9 + x10 - x11 + x12 - x13 - x14 + x15) = 16 * x4 := by omega
theorem wb_dq4_5 (q0 q1 q2 q3 q4 q5 q6 q7 q8 q9 q10 q11 q12 q13 q14 q15 : Int) : 16 * (q0 - q1 + q2 - q3 - q4 + q5 - q6 + q7 + q8 - q9 + q10 - q11 - q12 + q13 - q14 + q15) = 16 * q0 - 16 * q1 + 16 * q2 - 16 * q3 - 16 * q4 + 16 * q5 - 16 * q6 + 16 * q7 + 16 * q8 - 16 * q9 + 16 * q10 - 16 * q11 - 16 * q12 + 16 * q13 - 16 * q14 + 16 * q15 := by omega
theorem wb_id4_5 (x0 x1 x2 x3 x4 x5 x6 x7 x8 x9 x10 x11 x12 x13 x14 x15 : Int) : (x0 + x1 + x2 + x3 + x4 + x5 + x6 + x7 + x8 + x9 + x10 + x11 + x12 + x13 + x14 + x15) - (x0 - x1 + x2 - x3 + x4 - x5 + x6 - x7 + x8 - x9 + x10 - x11 + x12 - x13 + x14 - x15) + (x0 + x1 - x2 - x3 + x4 + x5 - x6 - x7 + x8 + x9 - x10 - x11 + x12 + x13 - x14 - x15) - (x0 - x1 - x2 + x3 + x4 - x5 - x6 + x7 + x8 - x9 - x10 + x11 + x12 - x13 - x14 + x15) - (x0 + x1 + x2 + x3 - x4 - x5 - x6 - x7 + x8 + x9 + x10 + x11 - x12 - x13 - x14 - x15) + (x0 - x1 + x2 - x3 - x4 + x5 - x6 + x7 + x8 - x9 + x10 - x11 - x12 + x13 - x14 + x15) - (x0 + x1 - x2 - x3 - x4 - x5 + x6 + x7 + x8 + x9 - x10 - x11 - x12 - x13 + x14 + x15) + (x0 - x1 - x2 + x3 - x4 + x5 + x6 - x7 + x8 - x9 - x10 + x11 - x12 + x13 + x14 - x15) + (x0 + x1 + x2 + x3 + x4 + x5 + x6 + x7 - x8 - x9 - x10 - x11 - x12 - x13 - x14 - x15) - (x0 - x1 + x2 - x3 + x4 - x5 + x6 - x7 - x8 + x9 - x10 + x11 - x12 + x13 - x14 + x15) + (x0 + x1 - x2 - x3 + x4 + x5 - x6 - x7 - x8 - x9 + x10 + x11 - x12 - x13 + x14 + x15) - (x0 - x1 - x2 + x3 + x4 - x5 - x6 + x7 - x8 + x9 + x10 - x11 - x12 + x13 + x14 - x15) - (x0 + x1 + x2 + x3 - x4 - x5 - x6 - x7 - x8 - x9 - x10 - x11 + x12 + x13 + x14 + x15) + (x0 - x1 + x2 - x3 - x4 + x5 - x6 + x7 - x8 + x9 - x10 + x11 + x12 - x13 + x14 - x15) - (x0 + x1 - x2 - x3 - x4 - x5 + x6 + x7 - x8 - x9 + x10 + x11 + x12 + x13 - x14 - x15) + (x0 - x1 - x2 + x3 - x4 + x5 + x6 - x7 - x8 + x9 + x10 - x11 + x12 - x13 - x14 + x15) = 16 * x5 := by omega
theorem wb_dq4_6 (q0 q1 q2 q3 q4 q5 q6 q7 q8 q9 q10 q11 q12 q13 q14 q15 : Int) : 16 * (q0 + q1 - q2 - q3 - q4 - q5 + q6 + q7 + q8 + q9 - q10 - q11 - q12 - q13 + q14 + q15) = 16 * q0 + 16 * q1 - 16 * q2 - 16 * q3 - 16 * q4 - 16 * q5 + 16 * q6 + 16 * q7 + 16 * q8 + 16 * q9 - 16 * q10 - 16 * q11 - 16 * q12 - 16 * q13 + 16 * q14 + 16 * q15 := by omega
theorem wb_id4_6 (x0 x1 x2 x3 x4 x5 x6 x7 x8 x9 x10 x11 x12 x13 x14 x15 : Int) : (x0 + x1 + x2 + x3 + x4 + x5 + x6 + x7 + x8 + x9 + x10 + x11 + x12 + x13 + x14 + x15) + (x0 - x1 + x2 - x3 + x4 - x5 + x6 - x7 + x8 - x9 + x10 - x11 + x12 - x13 + x14 - x15) - (x0 + x1 - x2 - x3 + x4 + x5 - x6 - x7 + x8 + x9 - x10 - x11 + x12 + x13 - x14 - x15) - (x0 - x1 - x2 + x3 + x4 - x5 - x6 + x7 + x8 - x9 - x10 + x11 + x12 - x13 - x14 + x15) - (x0 + x1 + x2 + x3 - x4 - x5 - x6 - x7 + x8 + x9 + x10 + x11 - x12 - x13 - x14 - x15) - (x0 - x1 + x2 - x3 - x4 + x5 - x6 + x7 + x8 - x9 + x10 - x11 - x12 + x13 - x14 + x15) + (x0 + x1 - x2 - x3 - x4 - x5 + x6 + x7 + x8 + x9 - x10 - x11 - x12 - x13 + x14 + x15) + (x0 - x1 - x2 + x3 - x4 + x5 + x6 - x7 + x8 - x9 - x10 + x11 - x12 + x13 + x14 - x15) + (x0 + x1 + x2 + x3 + x4 + x5 + x6 + x7 - x8 - x9 - x10 - x11 - x12 - x13 - x14 - x15) + (x0 - x1 + x2 - x3 + x4 - x5 + x6 - x7 - x8 + x9 - x10 + x11 - x12 + x13 - x14 + x15) - (x0 + x1 - x2 - x3 + x4 + x5 - x6 - x7 - x8 - x9 + x10 + x11 - x12 - x13 + x14 + x15) - (x0 - x1 - x2 + x3 + x4 - x5 - x6 + x7 - x8 + x9 + x10 - x11 - x12 + x13 + x14 - x15) - (x0 + x1 + x2 + x3 - x4 - x5 - x6 - x7 - x8 - x9 - x10 - x11 + x12 + x13 + x14 + x15) - (x0 - x1 + x2 - x3 - x4 + x5 - x6 + x7 - x8 + x9 - x10 + x11 + x12 - x13 + x14 - x15) + (x0 + x1 - x2 - x3 - x4 - x5 + x6 + x7 - x8 - x9 + x10 + x11 + x12 + x13 - x14 - x15) + (x0 - x1 - x2 + x3 - x4 + x5 + x6 - x7 - x8 + x9 + x10 - x11 + x12 - x13 - x14 + x15) = 16 * x6 := by omega
theorem wb_dq4_7 (q0 q1 q2 q3 q4 q5 q6 q7 q8 q9 q10 q11 q12 q13 q14 q15 : Int) : 16 * (q0 - q1 - q2 + q3 - q4 + q5 + q6 - q7 + q8 - q9 - q10 + q11 - q12 + q13 + q14 - q15) = 16 * q0 - 16 * q1 - 16 * q2 + 16 * q3 - 16 * q4 + 16 * q5 + 16 * q6 - 16 * q7 + 16 * q8 - 16 * q9 - 16 * q10 + 16 * q11 - 16 * q12 + 16 * q13 + 16 * q14 - 16 * q15 := by omega
theorem wb_id4_7 (x0 x1 x2 x3 x4 x5 x6 x7 x8 x9 x10 x11 x12 x13 x14 x15 : Int) : (x0 + x1 + x2 + x3 + x4 + x5 + x6 + x7 + x8 + x9 + x10 + x11 + x12 + x13 + x14 + x15) - (x0 - x1 + x2 - x3 + x4 - x5 + x6 - x7 + x8 - x9 + x10 - x11 + x12 - x13 + x14 - x15) - (x0 + x1 - x2 - x3 + x4 + x5 - x6 - x7 + x8 + x9 - x10 - x11 + x12 + x13 - x14 - x15) + (x0 - x1 - x2 + x3 + x4 - x5 - x6 + x7 + x8 - x9 - x10 + x11 + x12 - x13 - x14 + x15) - (x0 + x1 + x2 + x3 - x4 - x5 - x6 - x7 + x8 + x9 + x10 + x11 - x12 - x13 - x14 - x15) + (x0 - x1 + x2 - x3 - x4 + x5 - x6 + x7 + x8 - x9 + x10 - x11 - x12 + x13 - x14 + x15) + (x0 + x1 - x2 - x3 - x4 - x5 + x6 + x7 + x8 + x9 - x10 - x11 - x12 - x13 + x14 + x15) - (x0 - x1 - x2 + x3 - x4 + x5 + x6 - x7 + x8 - x9 - x10 + x11 - x12 + x13 + x14 - x15) + (x0 + x1 + x2 + x3 + x4 + x5 + x6 + x7 - x8 - x9 - x10 - x11 - x12 - x13 - x14 - x15) - (x0 - x1 + x2 - x3 + x4 - x5 + x6 - x7 - x8 + x9 - x10 + x11 - x12 + x13 - x14 + x15) - (x0 + x1 - x2 - x3 + x4 + x5 - x6 - x7 - x8 - x9 + x10 + x11 - x12 - x13 + x14 + x15) + (x0 - x1 - x2 + x3 + x4 - x5 - x6 + x7 - x8 + x9 + x10 - x11 - x12 + x13 + x14 - x15) - (x0 + x1 + x2 + x3 - x4 - x5 - x6 - x7 - x8 - x9 - x10 - x11 + x12 + x13 + x14 + x15) + (x0 - x1 + x2 - x3 - x4 + x5 - x6 + x7 - x8 + x9 - x10 + x11 + x12 - x13 + x14 - x15) + (x0 + x1 - x2 - x3 - x4 - x5 + x6 + x7 - x8 - x9 + x10 + x11 + x12 + x13 - x14 - x15) - (x0 - x1 - x2 + x3 - x4 + x5 + x6 - x7 - x8 + x9 + x10 - x11 + x12 - x13 - x14 + x15) = 16 * x7 := by omega
theorem wb_dq4_8 (q0 q1 q2 q3 q4 q5 q6 q7 q8 q9 q10 q11 q12 q13 q14 q15 : Int) : 16 * (q0 + q1 + q2 + q3 + q4 + q5 + q6 + q7 - q8 - q9 - q10 - q11 - q12 - q13 - q14 - q15) = 16 * q0 + 16 * q1 + 16 * q2 + 16 * q3 + 16 * q4 + 16 * q5 + 16 * q6 + 16 * q7 - 16 * q8 - 16 * q9 - 16 * q10 - 16 * q11 - 16 * q12 - 16 * q13 - 16 * q14 - 16 * q15 := by omega
theorem wb_id4_8 (x0 x1 x2 x3 x4 x5 x6 x7 x8 x9 x10 x11 x12 x13 x14 x15 : Int) : (x0 + x1 + x2 + x3 + x4 + x5 + x6 + x7 + x8 + x9 + x10 + x11 + x12 + x13 + x14 + x15) + (x0 - x1 + x2 - x3 + x4 - x5 + x6 - x7 + x8 - x9 + x10 - x11 + x12 - x13 + x14 - x15) + (x0 + x1 - x2 - x3 + x4 + x5 - x6 - x7 + x8 + x9 - x10 - x11 + x12 + x13 - x14 - x15) + (x0 - x1 - x2 + x3 + x4 - x5 - x6 + x7 + x8 - x9 - x10 + x11 + x12 - x13 - x14 + x15) + (x0 + x1 + x2 + x3 - x4 - x5 - x6 - x7 + x8 + x9 + x10 + x11 - x12 - x13 - x14 - x15) + (x0 - x1 + x2 - x3 - x4 + x5 - x6 + x7 + x8 - x9 + x10 - x11 - x12 + x13 - x14 + x15) + (x0 + x1 - x2 - x3 - x4 - x5 + x6 + x7 + x8 + x9 - x10 - x11 - x12 - x13 + x14 + x15) + (x0 - x1 - x2 + x3 - x4 + x5 + x6 - x7 + x8 - x9 - x10 + x11 - x12 + x13 + x14 - x15) - (x0 + x1 + x2 + x3 + x4 + x5 + x6 + x7 - x8 - x9 - x10 - x11 - x12 - x13 - x14 - x15) - (x0 - x1 + x2 - x3 + x4 - x5 + x6 - x7 - x8 + x9 - x10 + x11 - x12 + x13 - x14 + x15) - (x0 + x1 - x2 - x3 + x4 + x5 - x6 - x7 - x8 - x9 + x10 + x11 - x12 - x13 + x14 + x15) - (x0 - x1 - x2 + x3 + x4 - x5 - x6 + x7 - x8 + x9 + x10 - x11 - x12 + x13 + x14 - x15) - (x0 + x1 + x2 + x3 - x4 - x5 - x6 - x7 - x8 - x9 - x10 - x11 + x12 + x13 + x14 + x15) - (x0 - x1 + x2 - x3 - x4 + x5 - x6 + x7 - x8 + x9 - x10 + x11 + x12 - x13 + x14 - x15) - (x0 + x1 - x2 - x3 - x4 - x5 + x6 + x7 - x8 - x9 + x10 + x11 + x12 + x13 - x14 - x15) - (x0 - x1 - x2 + x3 - x4 + x5 + x6 - x7 - x8 + x9 + x10 - x11 + x12 - x13 - x14 + x15) = 16 * x8 := by omega
theorem wb_dq4_9 (q0 q1 q2 q3 q4 q5 q6 q7 q8 q9 q10 q11 q12 q13 q14 q15 : Int) : 16 * (q0 - q1 + q2 - q3 + q4 - q5 + q6 - q7 - q8 + q9 - q10 + q11 - q12 + q13 - q14 + q15) = 16 * q0 - 16 * q1 + 16 * q2 - 16 * q3 + 16 * q4 - 16 * q5 + 16 * q6 - 16 * q7 - 16 * q8 + 16 * q9 - 16 * q10 + 16 * q11 - 16 * q12 + 16 * q13 - 16 * q14 + 16 * q15 := by omega
theorem wb_id4_9 (x0 x1 x2 x3 x4 x5 x6 x7 x8 x9 x10 x11 x12 x13 x14 x15 : Int) : (x0 + x1 + x2 + x3 + x4 + x5 + x6 + x7 + x8 + x9 + x10 + x11 + x12 + x13 + x14 + x15) - (x0 - x1 + x2 - x3 + x4 - x5 + x6 - x7 + x8 - x9 + x10 - x11 + x12 - x13 + x14 - x15) + (x0 + x1 - x2 - x3 + x4 + x5 - x6 - x7 + x8 + x9 - x10 - x11 + x12 + x13 - x14 - x15) - (x0 - x1 - x2 + x3 + x4 - x5 - x6 + x7 + x8 - x9 - x10 + x11 + x12 - x13 - x14 + x15) + (x0 + x1 + x2 + x3 - x4 - x5 - x6 - x7 + x8 + x9 + x10 + x11 - x12 - x13 - x14 - x15) - (x0 - x1 + x2 - x3 - x4 + x5 - x6 + x7 + x8 - x9 + x10 - x11 - x12 + x13 - x14 + x15) + (x0 + x1 - x2 - x3 - x4 - x5 + x6 + x7 + x8 + x9 - x10 - x11 - x12 - x13 + x14 + x15) - (x0 - x1 - x2 + x3 - x4 + x5 + x6 - x7 + x8 - x9 - x10 + x11 - x12 + x13 + x14 - x15) - (x0 + x1 + x2 + x3 + x4 + x5 + x6 + x7 - x8 - x9 - x10 - x11 - x12 - x13 - x14 - x15) + (x0 - x1 + x2 - x3 + x4 - x5 + x6 - x7 - x8 + x9 - x10 + x11 - x12 + x13 - x14 + x15) - (x0 + x1 - x2 - x3 + x4 + x5 - x6 - x7 - x8 - x9 + x10 + x11 - x12 - x13 + x14 + x15) + (x0 - x1 - x2 + x3 + x4 - x5 - x6 + x7 - x8 + x9 + x10 - x11 - x12 + x13 + x14 - x15) - (x0 + x1 + x2 + x3 - x4 - x5 - x6 - x7 - x8 - x9 - x10 - x11 + x12 + x13 + x14 + x15) + (x0 - x1 + x2 - x3 - x4 + x5 - x6 + x7 - x8 + x9 - x10 + x11 + x12 - x13 + x14 - x15) - (x0 + x1 - x2 - x3 - x4 - x5 + x6 + x7 - x8 - x9 + x10 + x11 + x12 + x13 - x14 - x15) + (x0 - x1 - x2 + x3 - x4 + x5 + x6 - x7 - x8 + x9 + x10 - x11 + x12 - x13 - x14 + x15) = 16 * x9 := by omega
theorem wb_dq4_10 (q0 q1 q2 q3 q4 q5 q6 q7 q8 q9 q10 q11 q12 q13 q14 q15 : Int) : 16 * (q0 + q1 - q2 - q3 + q4 + q5 - q6 - q7 - q8 - q9 + q10 + q11 - q12 - q13 + q14 + q15) = 16 * q0 + 16 * q1 - 16 * q2 - 16 * q3 + 16 * q4 + 16 * q5 - 16 * q6 - 16 * q7 - 16 * q8 - 16 * q9 + 16 * q10 + 16 * q11 - 16 * q12 - 16 * q13 + 16 * q14 + 16 * q15 := by omega
theorem wb_id4_10 (x0 x1 x2 x3 x4 x5 x6 x7 x8 x9 x10 x11 x12 x13 x14 x15 : Int) : (x0 + x1 + x2 + x3 + x4 + x5 + x6 + x7 + x8 + x9 + x10 + x11 + x12 + x13 + x14 + x15) + (x0 - x1 + x2 - x3 + x4 - x5 + x6 - x7 + x8 - x9 + x10 - x11 + x12 - x13 + x14 - x15) - (x0 + x1 - x2 - x3 + x4 + x5 - x6 - x7 + x8 + x9 - x10 - x11 + x12 + x13 - x14 - x15) - (x0 - x1 - x2 + x3 + x4 - x5 - x6 + x7 + x8 - x9 - x10 + x11 + x12 - x13 - x14 + x15) + (x0 + x1 + x2 + x3 - x4 - x5 - x6 - x7 + x8 + x9 + x10 + x11 - x12 - x13 - x14 - x15) + (x0 - x1 + x2 - x3 - x4 + x5 - x6 + x7 + x8 - x9 + x10 - x11 - x12 + x13 - x14 + x15) - (x0 + x1 - x2 - x3 - x4 - x5 + x6 + x7 + x8 + x9 - x10 - x11 - x12 - x13 + x14 + x15) - (x0 - x1 - x2 + x3 - x4 + x5 + x6 - x7 + x8 - x9 - x10 + x11 - x12 + x13 + x14 - x15) - (x0 + x1 + x2 + x3 + x4 + x5 + x6 + x7 - x8 - x9 - x10 - x11 - x12 - x13 - x14 - x15) - (x0 - x1 + x2 - x3 + x4 - x5 + x6 - x7 - x8 + x9 - x10 + x11 - x12 + x13 - x14 + x15) + (x0 + x1 - x2 - x3 + x4 + x5 - x6 - x7 - x8 - x9 + x10 + x11 - x12 - x13 + x14 + x15) + (x0 - x1 - x2 + x3 + x4 - x5 - x6 + x7 - x8 + x9 + x10 - x11 - x12 + x13 + x14 - x15) - (x0 + x1 + x2 + x3 - x4 - x5 - x6 - x7 - x8 - x9 - x10 - x11 + x12 + x13 + x14 + x15) - (x0 - x1 + x2 - x3 - x4 + x5 - x6 + x7 - x8 + x9 - x10 + x11 + x12 - x13 + x14 - x15) + (x0 + x1 - x2 - x3 - x4 - x5 + x6 + x7 - x8 - x9 + x10 + x11 + x12 + x13 - x14 - x15) + (x0 - x1 - x2 + x3 - x4 + x5 + x6 - x7 - x8 + x9 + x10 - x11 + x12 - x13 - x14 + x15) = 16 * x10 := by omega
theorem wb_dq4_11 (q0 q1 q2 q3 q4 q5 q6 q7 q8 q9 q10 q11 q12 q13 q14 q15 : Int) : 16 * (q0 - q1 - q2 + q3 + q4 - q5 - q6 + q7 - q8 + q9 + q10 - q11 - q12 + q13 + q14 - q15) = 16 * q0 - 16 * q1 - 16 * q2 + 16 * q3 + 16 * q4 - 16 * q5 - 16 * q6 + 16 * q7 - 16 * q8 + 16 * q9 + 16 * q10 - 16 * q11 - 16 * q12 + 16 * q13 + 16 * q14 - 16 * q15 := by omega
theorem wb_id4_11 (x0 x1 x2 x3 x4 x5 x6 x7 x8 x9 x10 x11 x12 x13 x14 x15 : Int) : (x0 + x1 + x2 + x3 + x4 + x5 + x6 + x7 + x8 + x9 + x10 + x11 + x12 + x13 + x14 + x15) - (x0 - x1 + x2 - x3 + x4 - x5 + x6 - x7 + x8 - x9 + x10 - x11 + x12 - x13 + x14 - x15) - (x0 + x1 - x2 - x3 + x4 + x5 - x6 - x7 + x8 + x9 - x10 - x11 + x12 + x13 - x14 - x15) + (x0 - x1 - x2 + x3 + x4 - x5 - x6 + x7 + x8 - x9 - x10 + x11 + x12 - x13 - x14 + x15) + (x0 + x1 + x2 + x3 - x4 - x5 - x6 - x7 + x8 + x9 + x10 + x11 - x12 - x13 - x14 - x15) - (x0 - x1 + x2 - x3 - x4 + x5 - x6 + x7 + x8 - x9 + x10 - x11 - x12 + x13 - x14 + x15) - (x0 + x1 - x2 - x3 - x4 - x5 + x6 + x7 + x8 + x9 - x10 - x11 - x12 - x13 + x14 + x15) + (x0 - x1 - x2 + x3 - x4 + x5 + x6 - x7 + x8 - x9 - x10 + x11 - x12 + x13 + x14 - x15) - (x0 + x1 + x2 + x3 + x4 + x5 + x6 + x7 - x8 - x9 - x10 - x11 - x12 - x13 - x14 - x15) + (x0 - x1 + x2 - x3 + x4 - x5 + x6 - x7 - x8 + x9 - x10 + x11 - x12 + x13 - x14 + x15) + (x0 + x1 - x2 - x3 + x4 + x5 - x6 - x7 - x8 - x9 + x10 + x11 - x12 - x13 + x14 + x15) - (x0 - x1 - x2 + x3 + x4 - x5 - x6 + x7 - x8 + x9 + x10 - x11 - x12 + x13 + x14 - x15) - (x0 + x1 + x2 + x3 - x4 - x5 - x6 - x7 - x8 - x9 - x10 - x11 + x12 + x13 + x14 + x15) + (x0 - x1 + x2 - x3 - x4 + x5 - x6 + x7 - x8 + x9 - x10 + x11 + x12 - x13 + x14 - x15) + (x0 + x1 - x2 - x3 - x4 - x5 + x6 + x7 - x8 - x9 + x10 + x11 + x12 + x13 - x14 - x15) - (x0 - x1 - x2 + x3 - x4 + x5 + x6 - x7 - x8 + x9 + x10 - x11 + x12 - x13 - x14 + x15) = 16 * x11 := by omega
theorem wb_dq4_12 (q0 q1 q2 q3 q4 q5 q6 q7 q8 q9 q10 q11 q12 q13 q14 q15 : Int) : 16 * (q0 + q1 + q2 + q3 - q4 - q5 - q6 - q7 - q8 - q9 - q10 - q11 + q12 + q13 + q14 + q15) = 16 * q0 + 16 * q1 + 16 * q2 + 16 * q3 - 16 * q4 - 16 * q5 - 16 * q6 - 16 * q7 - 16 * q8 - 16 * q9 - 16 * q10 - 16 * q11 + 16 * q12 + 16 * q13 + 16 * q14 + 16 * q15 := by omega
theorem wb_id4_12 (x0 x1 x2 x3 x4 x5 x6 x7 x8 x9 x10 x11 x12 x13 x14 x15 : Int) : (x0 + x1 + x2 + x3 + x4 + x5 + x6 + x7 + x8 + x9 + x10 + x11 + x12 + x13 + x14 + x15) + (x0 - x1 + x2 - x3 + x4 - x5 + x6 - x7 + x8 - x9 + x10 - x11 + x12 - x13 + x14 - x15) + (x0 + x1 - x2 - x3 + x4 + x5 - x6 - x7 + x8 + x9 - x10 - x11 + x12 + x13 - x14 - x15) + (x0 - x1 - x2 + x3 + x4 - x5 - x6 + x7 + x8 - x9 - x10 + x11 + x12 - x13 - x14 + x15) - (x0 + x1 + x2 + x3 - x4 - x5 - x6 - x7 + x8 + x9 + x10 + x11 - x12 - x13 - x14 - x15) - (x0 - x1 + x2 - x3 - x4 + x5 - x6 + x7 + x8 - x9 + x10 - x11 - x12 + x13 - x14 + x15) - (x0 + x1 - x2 - x3 - x4 - x5 + x6 + x7 + x8 + x9 - x10 - x11 - x12 - x13 + x14 + x15) - (x0 - x1 - x2 + x3 - x4 + x5 + x6 - x7 + x8 - x9 - x10 + x11 - x12 + x13 + x14 - x15) - (x0 + x1 + x2 + x3 + x4 + x5 + x6 + x7 - x8 - x9 - x10 - x11 - x12 - x13 - x14 - x15) - (x0 - x1 + x2 - x3 + x4 - x5 + x6 - x7 - x8 + x9 - x10 + x11 - x12 + x13 - x14 + x15) - (x0 + x1 - x2 - x3 + x4 + x5 - x6 - x7 - x8 - x9 + x10 + x11 - x12 - x13 + x14 + x15) - (x0 - x1 - x2 + x3 + x4 - x5 - x6 + x7 - x8 + x9 + x10 - x11 - x12 + x13 + x14 - x15) + (x0 + x1 + x2 + x3 - x4 - x5 - x6 - x7 - x8 - x9 - x10 - x11 + x12 + x13 + x14 + x15) + (x0 - x1 + x2 - x3 - x4 + x5 - x6 + x7 - x8 + x9 - x10 + x11 + x12 - x13 + x14 - x15) + (x0 + x1 - x2 - x3 - x4 - x5 + x6 + x7 - x8 - x9 + x10 + x11 + x12 + x13 - x14 - x15) + (x0 - x1 - x2 + x3 - x4 + x5 + x6 - x7 - x8 + x9 + x10 - x11 + x12 - x13 - x14 + x15) = 16 * x12 := by omega
theorem wb_dq4_13 (q0 q1 q2 q3 q4 q5 q6 q7 q8 q9 q10 q11 q12 q13 q14 q15 : Int) : 16 * (q0 - q1 + q2 - q3 - q4 + q5 - q6 + q7 - q8 + q9 - q10 + q11 + q12 - q13 + q14 - q15) = 16 * q0 - 16 * q1 + 16 * q2 - 16 * q3 - 16 * q4 + 16 * q5 - 16 * q6 + 16 * q7 - 16 * q8 + 16 * q9 - 16 * q10 + 16 * q11 + 16 * q12 - 16 * q13 + 16 * q14 - 16 * q15 := by omega
theorem wb_id4_13 (x0 x1 x2 x3 x4 x5 x6 x7 x8 x9 x10 x11 x12 x13 x14 x15 : Int) : (x0 + x1 + x2 + x3 + x4 + x5 + x6 + x7 + x8 + x9 + x10 + x11 + x12 + x13 + x14 + x15) - (x0 - x1 + x2 - x3 + x4 - x5 + x6 - x7 + x8 - x9 + x10 - x11 + x12 - x13 + x14 - x15) + (x0 + x1 - x2 - x3 + x4 + x5 - x6 - x7 + x8 + x9 - x10 - x11 + x12 + x13 - x14 - x15) - (x0 - x1 - x2 + x3 + x4 - x5 - x6 + x7 + x8 - x9 - x10 + x11 + x12 - x13 - x14 + x15) - (x0 + x1 + x2 + x3 - x4 - x5 - x6 - x7 + x8 + x9 + x10 + x11 - x12 - x13 - x14 - x15) + (x0 - x1 + x2 - x3 - x4 + x5 - x6 + x7 + x8 - x9 + x10 - x11 - x12 + x13 - x14 + x15) - (x0 + x1 - x2 - x3 - x4 - x5 + x6 + x7 + x8 + x9 - x10 - x11 - x12 - x13 + x14 + x15) + (x0 - x1 - x2 + x3 - x4 + x5 + x6 - x7 + x8 - x9 - x10 + x11 - x12 + x13 + x14 - x15) - (x0 + x1 + x2 + x3 + x4 + x5 + x6 + x7 - x8 - x9 - x10 - x11 - x12 - x13 - x14 - x15) + (x0 - x1 + x2 - x3 + x4 - x5 + x6 - x7 - x8 + x9 - x10 + x11 - x12 + x13 - x14 + x15) - (x0 + x1 - x2 - x3 + x4 + x5 - x6 - x7 - x8 - x9 + x10 + x11 - x12 - x13 + x14 + x15) + (x0 - x1 - x2 + x3 + x4 - x5 - x6 + x7 - x8 + x9 + x10 - x11 - x12 + x13 + x14 - x15) + (x0 + x1 + x2 + x3 - x4 - x5 - x6 - x7 - x8 - x9 - x10 - x11 + x12 + x13 + x14 + x15) - (x0 - x1 + x2 - x3 - x4 + x5 - x6 + x7 - x8 + x9 - x10 + x11 + x12 - x13 + x14 - x15) + (x0 + x1 - x2 - x3 - x4 - x5 + x6 + x7 - x8 - x9 + x10 + x11 + x12 + x13 - x14 - x15) - (x0 - x1 - x2 + x3 - x4 + x5 + x6 - x7 - x8 + x9 + x10 - x11 + x12 - x13 - x14 + x15) = 16 * x13 := by omega
theorem wb_dq4_14 (q0 q1 q2 q3 q4 q5 q6 q7 q8 q9 q10 q11 q12 q13 q14 q15 : Int) : 16 * (q0 + q1 - q2 - q3 - q4 - q5 + q6 + q7 - q8 - q9 + q10 + q11 + q12 + q13 - q14 - q15) = 16 * q0 + 16 * q1 - 16 * q2 - 16 * q3 - 16 * q4 - 16 * q5 + 16 * q6 + 16 * q7 - 16 * q8 - 16 * q9 + 16 * q10 + 16 * q11 + 16 * q12 + 16 * q13 - 16 * q14 - 16 * q15 := by omega
theorem wb_id4_14 (x0 x1 x2 x3 x4 x5 x6 x7 x8 x9 x10 x11 x12 x13 x14 x15 : Int) : (x0 + x1 + x2 + x3 + x4 + x5 + x6 + x7 + x8 + x9 + x10 + x11 + x12 + x13 + x14 + x15) + (x0 - x1 + x2 - x3 + x4 - x5 + x6 - x7 + x8 - x9 + x10 - x11 + x12 - x13 + x14 - x15) - (x0 + x1 - x2 - x3 + x4 + x5 - x6 - x7 + x8 + x9 - x10 - x11 + x12 + x13 - x14 - x15) - (x0 - x1 - x2 + x3 + x4 - x5 - x6 + x7 + x8 - x9 - x10 + x11 + x12 - x13 - x14 + x15) - (x0 + x1 + x2 + x3 - x4 - x5 - x6 - x7 + x8 + x9 + x10 + x11 - x12 - x13 - x14 - x15) - (x0 - x1 + x2 - x3 - x4 + x5 - x6 + x7 + x8 - x9 + x10 - x11 - x12 + x13 - x14 + x15) + (x0 + x1 - x2 - x3 - x4 - x5 + x6 + x7 + x8 + x9 - x10 - x11 - x12 - x13 + x14 + x15) + (x0 - x1 - x2 + x3 - x4 + x5 + x6 - x7 + x8 - x9 - x10 + x11 - x12 + x13 + x14 - x15) - (x0 + x1 + x2 + x3 + x4 + x5 + x6 + x7 - x8 - x9 - x10 - x11 - x12 - x13 - x14 - x15) - (x0 - x1 + x2 - x3 + x4 - x5 + x6 - x7 - x8 + x9 - x10 + x11 - x12 + x13 - x14 + x15) + (x0 + x1 - x2 - x3 + x4 + x5 - x6 - x7 - x8 - x9 + x10 + x11 - x12 - x13 + x14 + x15) + (x0 - x1 - x2 + x3 + x4 - x5 - x6 + x7 - x8 + x9 + x10 - x11 - x12 + x13 + x14 - x15) + (x0 + x1 + x2 + x3 - x4 - x5 - x6 - x7 - x8 - x9 - x10 - x11 + x12 + x13 + x14 + x15) + (x0 - x1 + x2 - x3 - x4 + x5 - x6 + x7 - x8 + x9 - x10 + x11 + x12 - x13 + x14 - x15) - (x0 + x1 - x2 - x3 - x4 - x5 + x6 + x7 - x8 - x9 + x10 + x11 + x12 + x13 - x14 - x15) - (x0 - x1 - x2 + x3 - x4 + x5 + x6 - x7 - x8 + x9 + x10 - x11 + x12 - x13 - x14 + x15) = 16 * x14 := by omega
theorem wb_dq4_15 (q0 q1 q2 q3 q4 q5 q6 q7 q8 q9 q10 q11 q12 q13 q14 q15 : Int) : 16 * (q0 - q1 - q2 + q3 - q4 + q5 + q6 - q7 - q8 + q9 + q10 - q11 + q12 - q13 - q14 + q15) = 16 * q0 - 16 * q1 - 16 * q2 + 16 * q3 - 16 * q4 + 16 * q5 + 16 * q6 - 16 * q7 - 16 * q8 + 16 * q9 + 16 * q10 - 16 * q11 + 16 * q12 - 16 * q13 - 16 * q14 + 16 * q15 := by omega
theorem wb_id4_15 (x0 x1 x2 x3 x4 x5 x6 x7 x8 x9 x10 x11 x12 x13 x14 x15 : Int) : (x0 + x1 + x2 + x3 + x4 + x5 + x6 + x7 + x8 + x9 + x10 + x11 + x12 + x13 + x14 + x15) - (x0 - x1 + x2 - x3 + x4 - x5 + x6 - x7 + x8 - x9 + x10 - x11 + x12 - x13 + x14 - x15) - (x0 + x1 - x2 - x3 + x4 + x5 - x6 - x7 + x8 + x9 - x10 - x11 + x12 + x13 - x14 - x15) + (x0 - x1 - x2 + x3 + x4 - x5 - x6 + x7 + x8 - x9 - x10 + x11 + x12 - x13 - x14 + x15) - (x0 + x1 + x2 + x3 - x4 - x5 - x6 - x7 + x8 + x9 + x10 + x11 - x12 - x13 - x14 - x15) + (x0 - x1 + x2 - x3 - x4 + x5 - x6 + x7 + x8 - x9 + x10 - x11 - x12 + x13 - x14 + x15) + (x0 + x1 - x2 - x3 - x4 - x5 + x6 + x7 + x8 + x9 - x10 - x11 - x12 - x13 + x14 + x15) - (x0 - x1 - x2 + x3 - x4 + x5 + x6 - x7 + x8 - x9 - x10 + x11 - x12 + x13 + x14 - x15) - (x0 + x1 + x2 + x3 + x4 + x5 + x6 + x7 - x8 - x9 - x10 - x11 - x12 - x13 - x14 - x15) + (x0 - x1 + x2 - x3 + x4 - x5 + x6 - x7 - x8 + x9 - x10 + x11 - x12 + x13 - x14 + x15) + (x0 + x1 - x2 - x3 + x4 + x5 - x6 - x7 - x8 - x9 + x10 + x11 - x12 - x13 + x14 + x15) - (x0 - x1 - x2 + x3 + x4 - x5 - x6 + x7 - x8 + x9 + x10 - x11 - x12 + x13 + x14 - x15) + (x0 + x1 + x2 + x3 - x4 - x5 - x6 - x7 - x8 - x9 - x10 - x11 + x12 + x13 + x14 + x15) - (x0 - x1 + x2 - x3 - x4 + x5 - x6 + x7 - x8 + x9 - x10 + x11 + x12 - x13 + x14 - x15) - (x0 + x1 - x2 - x3 - x4 - x5 + x6 + x7 - x8 - x9 + x10 + x11 + x12 + x13 - x14 - x15) + (x0 - x1 - x2 + x3 - x4 + x5 + x6 - x7 - x8 + x9 + x10 - x11 + x12 - x13 - x14 + x15) = 16 * x15 := by omega
theorem wb_inv4 (x0 x1 x2 x3 x4 x5 x6 x7 x8 x9 x10 x11 x12 x13 x14 x15 q0 q1 q2 q3 q4 q5 q6 q7 q8 q9 q10 q11 q12 q13 q14 q15 : Int) (hq0 : -1125899906842624 ≤ q0 ∧ q0 ≤ 1125899906842624) (hq1 : -1125899906842624 ≤ q1 ∧ q1 ≤ 1125899906842624) (hq2 : -1125899906842624 ≤ q2 ∧ q2 ≤ 1125899906842624) (hq3 : -1125899906842624 ≤ q3 ∧ q3 ≤ 1125899906842624) (hq4 : -1125899906842624 ≤ q4 ∧ q4 ≤ 1125899906842624) (hq5 : -1125899906842624 ≤ q5 ∧ q5 ≤ 1125899906842624) (hq6 : -1125899906842624 ≤ q6 ∧ q6 ≤ 1125899906842624) (hq7 : -1125899906842624 ≤ q7 ∧ q7 ≤ 1125899906842624) (hq8 : -1125899906842624 ≤ q8 ∧ q8 ≤ 1125899906842624) (hq9 : -1125899906842624 ≤ q9 ∧ q9 ≤ 1125899906842624) (hq10 : -1125899906842624 ≤ q10 ∧ q10 ≤ 1125899906842624) (hq11 : -1125899906842624 ≤ q11 ∧ q11 ≤ 1125899906842624) (hq12 : -1125899906842624 ≤ q12 ∧ q12 ≤ 1125899906842624) (hq13 : -1125899906842624 ≤ q13 ∧ q13 ≤ 1125899906842624) (hq14 : -1125899906842624 ≤ q14 ∧ q14 ≤ 1125899906842624) (hq15 : -1125899906842624 ≤ q15 ∧ q15 ≤ 1125899906842624) (e0 : 16 * q0 = x0 + x1 + x2 + x3 + x4 + x5 + x6 + x7 + x8 + x9 + x10 + x11 + x12 + x13 + x14 + x15) (e1 : 16 * q1 = x0 - x1 + x2 - x3 + x4 - x5 + x6 - x7 + x8 - x9 + x10 - x11 + x12 - x13 + x14 - x15) (e2 : 16 * q2 = x0 + x1 - x2 - x3 + x4 + x5 - x6 - x7 + x8 + x9 - x10 - x11 + x12 + x13 - x14 - x15) (e3 : 16 * q3 = x0 - x1 - x2 + x3 + x4 - x5 - x6 + x7 + x8 - x9 - x10 + x11 + x12 - x13 - x14 + x15) (e4 : 16 * q4 = x0 + x1 + x2 + x3 - x4 - x5 - x6 - x7 + x8 + x9 + x10 + x11 - x12 - x13 - x14 - x15) (e5 : 16 * q5 = x0 - x1 + x2 - x3 - x4 + x5 - x6 + x7 + x8 - x9 + x10 - x11 - x12 + x13 - x14 + x15) (e6 : 16 * q6 = x0 + x1 - x2 - x3 - x4 - x5 + x6 + x7 + x8 + x9 - x10 - x11 - x12 - x13 + x14 + x15) (e7 : 16 * q7 = x0 - x1 - x2 + x3 - x4 + x5 + x6 - x7 + x8 - x9 - x10 + x11 - x12 + x13 + x14 - x15) (e8 : 16 * q8 = x0 + x1 + x2 + x3 + x4 + x5 + x6 + x7 - x8 - x9 - x10 - x11 - x12 - x13 - x14 - x15) (e9 : 16 * q9 = x0 - x1 + x2 - x3 + x4 - x5 + x6 - x7 - x8 + x9 - x10 + x11 - x12 + x13 - x14 + x15) (e10 : 16 * q10 = x0 + x1 - x2 - x3 + x4 + x5 - x6 - x7 - x8 - x9 + x10 + x11 - x12 - x13 + x14 + x15) (e11 : 16 * q11 = x0 - x1 - x2 + x3 + x4 - x5 - x6 + x7 - x8 + x9 + x10 - x11 - x12 + x13 + x14 - x15) (e12 : 16 * q12 = x0 + x1 + x2 + x3 - x4 - x5 - x6 - x7 - x8 - x9 - x10 - x11 + x12 + x13 + x14 + x15) (e13 : 16 * q13 = x0 - x1 + x2 - x3 - x4 + x5 - x6 + x7 - x8 + x9 - x10 + x11 + x12 - x13 + x14 - x15) (e14 : 16 * q14 = x0 + x1 - x2 - x3 - x4 - x5 + x6 + x7 - x8 - x9 + x10 + x11 + x12 + x13 - x14 - x15) (e15 : 16 * q15 = x0 - x1 - x2 + x3 - x4 + x5 + x6 - x7 - x8 + x9 + x10 - x11 + x12 - x13 - x14 + x15) : ref_Wave [q0, q1, q2, q3, q4, q5, q6, q7, q8, q9, q10, q11, q12, q13, q14, q15] = some [x0, x1, x2, x3, x4, x5, x6, x7, x8, x9, x10, x11, x12, x13, x14, x15] := by
  rw [wb_lin4 q0 q1 q2 q3 q4 q5 q6 q7 q8 q9 q10 q11 q12 q13 q14 q15 hq0 hq1 hq2 hq3 hq4 hq5 hq6 hq7 hq8 hq9 hq10 hq11 hq12 hq13 hq14 hq15]
  refine congrArg some ?_
  refine congr (congrArg List.cons (wb_can4 (by rw [wb_dq4_0, e0, e1, e2, e3, e4, e5, e6, e7, e8, e9, e10, e11, e12, e13, e14, e15, wb_id4_0]))) ?_
  refine congr (congrArg List.cons (wb_can4 (by rw [wb_dq4_1, e0, e1, e2, e3, e4, e5, e6, e7, e8, e9, e10, e11, e12, e13, e14, e15, wb_id4_1]))) ?_
  refine congr (congrArg List.cons (wb_can4 (by rw [wb_dq4_2, e0, e1, e2, e3, e4, e5, e6, e7, e8, e9, e10, e11, e12, e13, e14, e15, wb_id4_2]))) ?_
  refine congr (congrArg List.cons (wb_can4 (by rw [wb_dq4_3, e0, e1, e2, e3, e4, e5, e6, e7, e8, e9, e10, e11, e12, e13, e14, e15, wb_id4_3]))) ?_
  refine congr (congrArg List.cons (wb_can4 (by rw [wb_dq4_4, e0, e1, e2, e3, e4, e5, e6, e7, e8, e9, e10, e11, e12, e13, e14, e15, wb_id4_4]))) ?_
  refine congr (congrArg List.cons (wb_can4 (by rw [wb_dq4_5, e0, e1, e2, e3, e4, e5, e6, e7, e8, e9, e10, e11, e12, e13, e14, e15, wb_id4_5]))) ?_
  refine congr (congrArg List.cons (wb_can4 (by rw [wb_dq4_6, e0, e1, e2, e3, e4, e5, e6, e7, e8, e9, e10, e11, e12, e13, e14, e15, wb_id4_6]))) ?_
  refine congr (congrArg List.cons (wb_can4 (by rw [wb_dq4_7, e0, e1, e2, e3, e4, e5, e6, e7, e8, e9, e10, e11, e12, e13, e14, e15, wb_id4_7]))) ?_
  refine congr (congrArg List.cons (wb_can4 (by rw [wb_dq4_8, e0, e1, e2, e3, e4, e5, e6, e7, e8, e9, e10, e11, e12, e13, e14, e15, wb_id4_8]))) ?_
  refine congr (congrArg List.cons (wb_can4 (by rw [wb_dq4_9, e0, e1, e2, e3, e4, e5, e6, e7, e8, e9, e10, e11, e12, e13, e14, e15, wb_id4_9]))) ?_
  refine congr (congrArg List.cons (wb_can4 (by rw [wb_dq4_10, e0, e1, e2, e3, e4, e5, e6, e7, e8, e9, e10, e11, e12, e13, e14, e15, wb_id4_10]))) ?_
  refine congr (congrArg List.cons (wb_can4 (by rw [wb_dq4_11, e0, e1, e2, e3, e4, e5, e6, e7, e8, e9, e10, e11, e12, e13, e14, e15, wb_id4_11]))) ?_
  refine congr (congrArg List.cons (wb_can4 (by rw [wb_dq4_12, e0, e1, e2, e3, e4, e5, e6, e7, e8, e9, e10, e11, e12, e13, e14, e15, wb_id4_12]))) ?_
  refine congr (congrArg List.cons (wb_can4 (by rw [wb_dq4_13, e0, e1, e2, e3, e4, e5, e6, e7, e8, e9, e10, e11, e12, e13, e14, e15, wb_id4_13]))) ?_
  refine congr (congrArg List.cons (wb_can4 (by rw [wb_dq4_14, e0, e1, e2, e3, e4, e5, e6, e7, e8, e9, e10, e11, e12, e13, e14, e15, wb_id4_14]))) ?_
  refine congr (congrArg List.cons (wb_can4 (by rw [wb_dq4_15, e0, e1, e2, e3, e4, e5, e6, e7, e8, e9, e10, e11, e12, e13, e14, e15, wb_id4_15]))) ?_
  rfl
theorem wb_main4 (x0 x1 x2 x3 x4 x5 x6 x7 x8 x9 x10 x11 x12 x13 x14 x15 : Int) (hb : ∀ v ∈ [x0, x1, x2, x3, x4, x5, x6, x7, x8, x9, x10, x11, x12, x13, x14, x15], -1000000000 ≤ v ∧ v ≤ 1000000000) : ∃ t, ref_Wave [x0, x1, x2, x3, x4, x5, x6, x7, x8, x9, x10, x11, x12, x13, x14, x15] = some t ∧ t.length = 16 ∧ (∀ v ∈ t, -16000000000 ≤ v ∧ v ≤ 16000000000) ∧ ((∀ v ∈ t, Int.tmod v 16 = 0) → ref_Wave (t.map fun v => Int.tdiv v 16) = some [x0, x1, x2, x3, x4, x5, x6, x7, x8, x9, x10, x11, x12, x13, x14, x15]) := by
  have h0 := hb x0 (.head _)
  have h1 := hb x1 (.tail _ (.head _))
  have h2 := hb x2 (.tail _ (.tail _ (.head _)))
  have h3 := hb x3 (.tail _ (.tail _ (.tail _ (.head _))))
  have h4 := hb x4 (.tail _ (.tail _ (.tail _ (.tail _ (.head _)))))
  have h5 := hb x5 (.tail _ (.tail _ (.tail _ (.tail _ (.tail _ (.head _))))))
  have h6 := hb x6 (.tail _ (.tail _ (.tail _ (.tail _ (.tail _ (.tail _ (.head _)))))))
  have h7 := hb x7 (.tail _ (.tail _ (.tail _ (.tail _ (.tail _ (.tail _ (.tail _ (.head _))))))))
  have h8 := hb x8 (.tail _ (.tail _ (.tail _ (.tail _ (.tail _ (.tail _ (.tail _ (.tail _ (.head _)))))))))
  have h9 := hb x9 (.tail _ (.tail _ (.tail _ (.tail _ (.tail _ (.tail _ (.tail _ (.tail _ (.tail _ (.head _))))))))))
  have h10 := hb x10 (.tail _ (.tail _ (.tail _ (.tail _ (.tail _ (.tail _ (.tail _ (.tail _ (.tail _ (.tail _ (.head _)))))))))))
  have h11 := hb x11 (.tail _ (.tail _ (.tail _ (.tail _ (.tail _ (.tail _ (.tail _ (.tail _ (.tail _ (.tail _ (.tail _ (.head _))))))))))))
  have h12 := hb x12 (.tail _ (.tail _ (.tail _ (.tail _ (.tail _ (.tail _ (.tail _ (.tail _ (.tail _ (.tail _ (.tail _ (.tail _ (.head _)))))))))))))
  have h13 := hb x13 (.tail _ (.tail _ (.tail _ (.tail _ (.tail _ (.tail _ (.tail _ (.tail _ (.tail _ (.tail _ (.tail _ (.tail _ (.tail _ (.head _))))))))))))))
  have h14 := hb x14 (.tail _ (.tail _ (.tail _ (.tail _ (.tail _ (.tail _ (.tail _ (.tail _ (.tail _ (.tail _ (.tail _ (.tail _ (.tail _ (.tail _ (.head _)))))))))))))))
  have h15 := hb x15 (.tail _ (.tail _ (.tail _ (.tail _ (.tail _ (.tail _ (.tail _ (.tail _ (.tail _ (.tail _ (.tail _ (.tail _ (.tail _ (.tail _ (.tail _ (.head _))))))))))))))))
  clear hb
  have b0 : -16000000000 ≤ x0 + x1 + x2 + x3 + x4 + x5 + x6 + x7 + x8 + x9 + x10 + x11 + x12 + x13 + x14 + x15 ∧ x0 + x1 + x2 + x3 + x4 + x5 + x6 + x7 + x8 + x9 + x10 + x11 + x12 + x13 + x14 + x15 ≤ 16000000000 := by omega
  have b1 : -16000000000 ≤ x0 - x1 + x2 - x3 + x4 - x5 + x6 - x7 + x8 - x9 + x10 - x11 + x12 - x13 + x14 - x15 ∧ x0 - x1 + x2 - x3 + x4 - x5 + x6 - x7 + x8 - x9 + x10 - x11 + x12 - x13 + x14 - x15 ≤ 16000000000 := by clear b0; omega
  have b2 : -16000000000 ≤ x0 + x1 - x2 - x3 + x4 + x5 - x6 - x7 + x8 + x9 - x10 - x11 + x12 + x13 - x14 - x15 ∧ x0 + x1 - x2 - x3 + x4 + x5 - x6 - x7 + x8 + x9 - x10 - x11 + x12 + x13 - x14 - x15 ≤ 16000000000 := by clear b0 b1; omega
  have b3 : -16000000000 ≤ x0 - x1 - x2 + x3 + x4 - x5 - x6 + x7 + x8 - x9 - x10 + x11 + x12 - x13 - x14 + x15 ∧ x0 - x1 - x2 + x3 + x4 - x5 - x6 + x7 + x8 - x9 - x10 + x11 + x12 - x13 - x14 + x15 ≤ 16000000000 := by clear b0 b1 b2; omega
  have b4 : -16000000000 ≤ x0 + x1 + x2 + x3 - x4 - x5 - x6 - x7 + x8 + x9 + x10 + x11 - x12 - x13 - x14 - x15 ∧ x0 + x1 + x2 + x3 - x4 - x5 - x6 - x7 + x8 + x9 + x10 + x11 - x12 - x13 - x14 - x15 ≤ 16000000000 := by clear b0 b1 b2 b3; omega
  have b5 : -16000000000 ≤ x0 - x1 + x2 - x3 - x4 + x5 - x6 + x7 + x8 - x9 + x10 - x11 - x12 + x13 - x14 + x15 ∧ x0 - x1 + x2 - x3 - x4 + x5 - x6 + x7 + x8 - x9 + x10 - x11 - x12 + x13 - x14 + x15 ≤ 16000000000 := by clear b0 b1 b2 b3 b4; omega
  have b6 : -16000000000 ≤ x0 + x1 - x2 - x3 - x4 - x5 + x6 + x7 + x8 + x9 - x10 - x11 - x12 - x13 + x14 + x15 ∧ x0 + x1 - x2 - x3 - x4 - x5 + x6 + x7 + x8 + x9 - x10 - x11 - x12 - x13 + x14 + x15 ≤ 16000000000 := by clear b0 b1 b2 b3 b4 b5; omega
  have b7 : -16000000000 ≤ x0 - x1 - x2 + x3 - x4 + x5 + x6 - x7 + x8 - x9 - x10 + x11 - x12 + x13 + x14 - x15 ∧ x0 - x1 - x2 + x3 - x4 + x5 + x6 - x7 + x8 - x9 - x10 + x11 - x12 + x13 + x14 - x15 ≤ 16000000000 := by clear b0 b1 b2 b3 b4 b5 b6; omega
  have b8 : -16000000000 ≤ x0 + x1 + x2 + x3 + x4 + x5 + x6 + x7 - x8 - x9 - x10 - x11 - x12 - x13 - x14 - x15 ∧ x0 + x1 + x2 + x3 + x4 + x5 + x6 + x7 - x8 - x9 - x10 - x11 - x12 - x13 - x14 - x15 ≤ 16000000000 := by clear b0 b1 b2 b3 b4 b5 b6 b7; omega
  have b9 : -16000000000 ≤ x0 - x1 + x2 - x3 + x4 - x5 + x6 - x7 - x8 + x9 - x10 + x11 - x12 + x13 - x14 + x15 ∧ x0 - x1 + x2 - x3 + x4 - x5 + x6 - x7 - x8 + x9 - x10 + x11 - x12 + x13 - x14 + x15 ≤ 16000000000 := by clear b0 b1 b2 b3 b4 b5 b6 b7 b8; omega
  have b10 : -16000000000 ≤ x0 + x1 - x2 - x3 + x4 + x5 - x6 - x7 - x8 - x9 + x10 + x11 - x12 - x13 + x14 + x15 ∧ x0 + x1 - x2 - x3 + x4 + x5 - x6 - x7 - x8 - x9 + x10 + x11 - x12 - x13 + x14 + x15 ≤ 16000000000 := by clear b0 b1 b2 b3 b4 b5 b6 b7 b8 b9; omega
  have b11 : -16000000000 ≤ x0 - x1 - x2 + x3 + x4 - x5 - x6 + x7 - x8 + x9 + x10 - x11 - x12 + x13 + x14 - x15 ∧ x0 - x1 - x2 + x3 + x4 - x5 - x6 + x7 - x8 + x9 + x10 - x11 - x12 + x13 + x14 - x15 ≤ 16000000000 := by clear b0 b1 b2 b3 b4 b5 b6 b7 b8 b9 b10; omega
  have b12 : -16000000000 ≤ x0 + x1 + x2 + x3 - x4 - x5 - x6 - x7 - x8 - x9 - x10 - x11 + x12 + x13 + x14 + x15 ∧ x0 + x1 + x2 + x3 - x4 - x5 - x6 - x7 - x8 - x9 - x10 - x11 + x12 + x13 + x14 + x15 ≤ 16000000000 := by clear b0 b1 b2 b3 b4 b5 b6 b7 b8 b9 b10 b11; omega
  have b13 : -16000000000 ≤ x0 - x1 + x2 - x3 - x4 + x5 - x6 + x7 - x8 + x9 - x10 + x11 + x12 - x13 + x14 - x15 ∧ x0 - x1 + x2 - x3 - x4 + x5 - x6 + x7 - x8 + x9 - x10 + x11 + x12 - x13 + x14 - x15 ≤ 16000000000 := by clear b0 b1 b2 b3 b4 b5 b6 b7 b8 b9 b10 b11 b12; omega
  have b14 : -16000000000 ≤ x0 + x1 - x2 - x3 - x4 - x5 + x6 + x7 - x8 - x9 + x10 + x11 + x12 + x13 - x14 - x15 ∧ x0 + x1 - x2 - x3 - x4 - x5 + x6 + x7 - x8 - x9 + x10 + x11 + x12 + x13 - x14 - x15 ≤ 16000000000 := by clear b0 b1 b2 b3 b4 b5 b6 b7 b8 b9 b10 b11 b12 b13; omega
  have b15 : -16000000000 ≤ x0 - x1 - x2 + x3 - x4 + x5 + x6 - x7 - x8 + x9 + x10 - x11 + x12 - x13 - x14 + x15 ∧ x0 - x1 - x2 + x3 - x4 + x5 + x6 - x7 - x8 + x9 + x10 - x11 + x12 - x13 - x14 + x15 ≤ 16000000000 := by clear b0 b1 b2 b3 b4 b5 b6 b7 b8 b9 b10 b11 b12 b13 b14; omega
  refine ⟨_, wb_lin4 x0 x1 x2 x3 x4 x5 x6 x7 x8 x9 x10 x11 x12 x13 x14 x15 ⟨by have := h0.1; clear b0 b1 b2 b3 b4 b5 b6 b7 b8 b9 b10 b11 b12 b13 b14 b15; omega, by have := h0.2; clear b0 b1 b2 b3 b4 b5 b6 b7 b8 b9 b10 b11 b12 b13 b14 b15; omega⟩ ⟨by have := h1.1; clear b0 b1 b2 b3 b4 b5 b6 b7 b8 b9 b10 b11 b12 b13 b14 b15; omega, by have := h1.2; clear b0 b1 b2 b3 b4 b5 b6 b7 b8 b9 b10 b11 b12 b13 b14 b15; omega⟩ ⟨by have := h2.1; clear b0 b1 b2 b3 b4 b5 b6 b7 b8 b9 b10 b11 b12 b13 b14 b15; omega, by have := h2.2; clear b0 b1 b2 b3 b4 b5 b6 b7 b8 b9 b10 b11 b12 b13 b14 b15; omega⟩ ⟨by have := h3.1; clear b0 b1 b2 b3 b4 b5 b6 b7 b8 b9 b10 b11 b12 b13 b14 b15; omega, by have := h3.2; clear b0 b1 b2 b3 b4 b5 b6 b7 b8 b9 b10 b11 b12 b13 b14 b15; omega⟩ ⟨by have := h4.1; clear b0 b1 b2 b3 b4 b5 b6 b7 b8 b9 b10 b11 b12 b13 b14 b15; omega, by have := h4.2; clear b0 b1 b2 b3 b4 b5 b6 b7 b8 b9 b10 b11 b12 b13 b14 b15; omega⟩ ⟨by have := h5.1; clear b0 b1 b2 b3 b4 b5 b6 b7 b8 b9 b10 b11 b12 b13 b14 b15; omega, by have := h5.2; clear b0 b1 b2 b3 b4 b5 b6 b7 b8 b9 b10 b11 b12 b13 b14 b15; omega⟩ ⟨by have := h6.1; clear b0 b1 b2 b3 b4 b5 b6 b7 b8 b9 b10 b11 b12 b13 b14 b15; omega, by have := h6.2; clear b0 b1 b2 b3 b4 b5 b6 b7 b8 b9 b10 b11 b12 b13 b14 b15; omega⟩ ⟨by have := h7.1; clear b0 b1 b2 b3 b4 b5 b6 b7 b8 b9 b10 b11 b12 b13 b14 b15; omega, by have := h7.2; clear b0 b1 b2 b3 b4 b5 b6 b7 b8 b9 b10 b11 b12 b13 b14 b15; omega⟩ ⟨by have := h8.1; clear b0 b1 b2 b3 b4 b5 b6 b7 b8 b9 b10 b11 b12 b13 b14 b15; omega, by have := h8.2; clear b0 b1 b2 b3 b4 b5 b6 b7 b8 b9 b10 b11 b12 b13 b14 b15; omega⟩ ⟨by have := h9.1; clear b0 b1 b2 b3 b4 b5 b6 b7 b8 b9 b10 b11 b12 b13 b14 b15; omega, by have := h9.2; clear b0 b1 b2 b3 b4 b5 b6 b7 b8 b9 b10 b11 b12 b13 b14 b15; omega⟩ ⟨by have := h10.1; clear b0 b1 b2 b3 b4 b5 b6 b7 b8 b9 b10 b11 b12 b13 b14 b15; omega, by have := h10.2; clear b0 b1 b2 b3 b4 b5 b6 b7 b8 b9 b10 b11 b12 b13 b14 b15; omega⟩ ⟨by have := h11.1; clear b0 b1 b2 b3 b4 b5 b6 b7 b8 b9 b10 b11 b12 b13 b14 b15; omega, by have := h11.2; clear b0 b1 b2 b3 b4 b5 b6 b7 b8 b9 b10 b11 b12 b13 b14 b15; omega⟩ ⟨by have := h12.1; clear b0 b1 b2 b3 b4 b5 b6 b7 b8 b9 b10 b11 b12 b13 b14 b15; omega, by have := h12.2; clear b0 b1 b2 b3 b4 b5 b6 b7 b8 b9 b10 b11 b12 b13 b14 b15; omega⟩ ⟨by have := h13.1; clear b0 b1 b2 b3 b4 b5 b6 b7 b8 b9 b10 b11 b12 b13 b14 b15; omega, by have := h13.2; clear b0 b1 b2 b3 b4 b5 b6 b7 b8 b9 b10 b11 b12 b13 b14 b15; omega⟩ ⟨by have := h14.1; clear b0 b1 b2 b3 b4 b5 b6 b7 b8 b9 b10 b11 b12 b13 b14 b15; omega, by have := h14.2; clear b0 b1 b2 b3 b4 b5 b6 b7 b8 b9 b10 b11 b12 b13 b14 b15; omega⟩ ⟨by have := h15.1; clear b0 b1 b2 b3 b4 b5 b6 b7 b8 b9 b10 b11 b12 b13 b14 b15; omega, by have := h15.2; clear b0 b1 b2 b3 b4 b5 b6 b7 b8 b9 b10 b11 b12 b13 b14 b15; omega⟩, rfl, ?_, fun h => ?_⟩
  · intro v hv
    simp only [List.mem_cons, List.not_mem_nil, or_false] at hv
    rcases hv with rfl | rfl | rfl | rfl | rfl | rfl | rfl | rfl | rfl | rfl | rfl | rfl | rfl | rfl | rfl | rfl
    · exact b0
    · exact b1
    · exact b2
    · exact b3
    · exact b4
    · exact b5
    · exact b6
    · exact b7
    · exact b8
    · exact b9
    · exact b10
    · exact b11
    · exact b12
    · exact b13
    · exact b14
    · exact b15
  · refine wb_inv4 x0 x1 x2 x3 x4 x5 x6 x7 x8 x9 x10 x11 x12 x13 x14 x15 _ _ _ _ _ _ _ _ _ _ _ _ _ _ _ _ (wb_qb4 (wb_div (h _ (.head _))) b0) (wb_qb4 (wb_div (h _ (.tail _ (.head _)))) b1) (wb_qb4 (wb_div (h _ (.tail _ (.tail _ (.head _))))) b2) (wb_qb4 (wb_div (h _ (.tail _ (.tail _ (.tail _ (.head _)))))) b3) (wb_qb4 (wb_div (h _ (.tail _ (.tail _ (.tail _ (.tail _ (.head _))))))) b4) (wb_qb4 (wb_div (h _ (.tail _ (.tail _ (.tail _ (.tail _ (.tail _ (.head _)))))))) b5) (wb_qb4 (wb_div (h _ (.tail _ (.tail _ (.tail _ (.tail _ (.tail _ (.tail _ (.head _))))))))) b6) (wb_qb4 (wb_div (h _ (.tail _ (.tail _ (.tail _ (.tail _ (.tail _ (.tail _ (.tail _ (.head _)))))))))) b7) (wb_qb4 (wb_div (h _ (.tail _ (.tail _ (.tail _ (.tail _ (.tail _ (.tail _ (.tail _ (.tail _ (.head _))))))))))) b8) (wb_qb4 (wb_div (h _ (.tail _ (.tail _ (.tail _ (.tail _ (.tail _ (.tail _ (.tail _ (.tail _ (.tail _ (.head _)))))))))))) b9) (wb_qb4 (wb_div (h _ (.tail _ (.tail _ (.tail _ (.tail _ (.tail _ (.tail _ (.tail _ (.tail _ (.tail _ (.tail _ (.head _))))))))))))) b10) (wb_qb4 (wb_div (h _ (.tail _ (.tail _ (.tail _ (.tail _ (.tail _ (.tail _ (.tail _ (.tail _ (.tail _ (.tail _ (.tail _ (.head _)))))))))))))) b11) (wb_qb4 (wb_div (h _ (.tail _ (.tail _ (.tail _ (.tail _ (.tail _ (.tail _ (.tail _ (.tail _ (.tail _ (.tail _ (.tail _ (.tail _ (.head _))))))))))))))) b12) (wb_qb4 (wb_div (h _ (.tail _ (.tail _ (.tail _ (.tail _ (.tail _ (.tail _ (.tail _ (.tail _ (.tail _ (.tail _ (.tail _ (.tail _ (.tail _ (.head _)))))))))))))))) b13) (wb_qb4 (wb_div (h _ (.tail _ (.tail _ (.tail _ (.tail _ (.tail _ (.tail _ (.tail _ (.tail _ (.tail _ (.tail _ (.tail _ (.tail _ (.tail _ (.tail _ (.head _))))))))))))))))) b14) (wb_qb4 (wb_div (h _ (.tail _ (.tail _ (.tail _ (.tail _ (.tail _ (.tail _ (.tail _ (.tail _ (.tail _ (.tail _ (.tail _ (.tail _ (.tail _ (.tail _ (.tail _ (.head _)))))))))))))))))) b15) (wb_div (h _ (.head _))) (wb_div (h _ (.tail _ (.head _)))) (wb_div (h _ (.tail _ (.tail _ (.head _))))) (wb_div (h _ (.tail _ (.tail _ (.tail _ (.head _)))))) (wb_div (h _ (.tail _ (.tail _ (.tail _ (.tail _ (.head _))))))) (wb_div (h _ (.tail _ (.tail _ (.tail _ (.tail _ (.tail _ (.head _)))))))) (wb_div (h _ (.tail _ (.tail _ (.tail _ (.tail _ (.tail _ (.tail _ (.head _))))))))) (wb_div (h _ (.tail _ (.tail _ (.tail _ (.tail _ (.tail _ (.tail _ (.tail _ (.head _)))))))))) (wb_div (h _ (.tail _ (.tail _ (.tail _ (.tail _ (.tail _ (.tail _ (.tail _ (.tail _ (.head _))))))))))) (wb_div (h _ (.tail _ (.tail _ (.tail _ (.tail _ (.tail _ (.tail _ (.tail _ (.tail _ (.tail _ (.head _)))))))))))) (wb_div (h _ (.tail _ (.tail _ (.tail _ (.tail _ (.tail _ (.tail _ (.tail _ (.tail _ (.tail _ (.tail _ (.head _))))))))))))) (wb_div (h _ (.tail _ (.tail _ (.tail _ (.tail _ (.tail _ (.tail _ (.tail _ (.tail _ (.tail _ (.tail _ (.tail _ (.head _)))))))))))))) (wb_div (h _ (.tail _ (.tail _ (.tail _ (.tail _ (.tail _ (.tail _ (.tail _ (.tail _ (.tail _ (.tail _ (.tail _ (.tail _ (.head _))))))))))))))) (wb_div (h _ (.tail _ (.tail _ (.tail _ (.tail _ (.tail _ (.tail _ (.tail _ (.tail _ (.tail _ (.tail _ (.tail _ (.tail _ (.tail _ (.head _)))))))))))))))) (wb_div (h _ (.tail _ (.tail _ (.tail _ (.tail _ (.tail _ (.tail _ (.tail _ (.tail _ (.tail _ (.tail _ (.tail _ (.tail _ (.tail _ (.tail _ (.head _))))))))))))))))) (wb_div (h _ (.tail _ (.tail _ (.tail _ (.tail _ (.tail _ (.tail _ (.tail _ (.tail _ (.tail _ (.tail _ (.tail _ (.tail _ (.tail _ (.tail _ (.tail _ (.head _))))))))))))))))))
theorem wb_main {k : Nat} (hk : k ≤ 4) {l : List Int} (hl : l.length = 2 ^ k) (hb : ∀ v ∈ l, -1000000000 ≤ v ∧ v ≤ 1000000000) : ∃ t, ref_Wave l = some t ∧ t.length = 2 ^ k ∧ (∀ v ∈ t, -16000000000 ≤ v ∧ v ≤ 16000000000) ∧ ((∀ v ∈ t, Int.tmod v ((2 ^ k : Nat) : Int) = 0) → ref_Wave (t.map fun v => Int.tdiv v ((2 ^ k : Nat) : Int)) = some l) := by
  rcases (by omega : k = 0 ∨ k = 1 ∨ k = 2 ∨ k = 3 ∨ k = 4) with rfl | rfl | rfl | rfl | rfl
  · obtain ⟨x0, rfl⟩ := wt_len0 hl
    exact wb_main0 x0 hb
  · obtain ⟨x0, x1, rfl⟩ := wt_len1 hl
    exact wb_main1 x0 x1 hb
  · obtain ⟨x0, x1, x2, x3, rfl⟩ := wt_len2 hl
    exact wb_main2 x0 x1 x2 x3 hb
  · obtain ⟨x0, x1, x2, x3, x4, x5, x6, x7, rfl⟩ := wt_len3 hl
    exact wb_main3 x0 x1 x2 x3 x4 x5 x6 x7 hb
  · obtain ⟨x0, x1, x2, x3, x4, x5, x6, x7, x8, x9, x10, x11, x12, x13, x14, x15, rfl⟩ := wt_len4 hl
    exact wb_main4 x0 x1 x2 x3 x4 x5 x6 x7 x8 x9 x10 x11 x12 x13 x14 x15 hb
theorem wb_q {N v : Int} (hN : 1 ≤ N) (hv : -16000000000 ≤ v ∧ v ≤ 16000000000) : w64 (Int.tdiv v N) = Int.tdiv v N := by
  have h := Int.natAbs_tdiv_le_natAbs v N
  exact w64_id (by omega) (by omega)
theorem wb_loop {t : List Int} (h1 : 1 ≤ t.length) (hb : ∀ v ∈ t, -16000000000 ≤ v ∧ v ≤ 16000000000) : ∃ y, forL wave_Back_b1 (fun x => Esc.brk x) t 0 t = some y ∧
    ((y = .ret ([], 5) ∧ ∃ v ∈ t, Int.tmod v (t.length : Int) ≠ 0) ∨ (y = .brk (t.map fun v => Int.tdiv v (t.length : Int)) ∧ ∀ v ∈ t, Int.tmod v (t.length : Int) = 0)) := by
  refine forL_inv (fun (n : Nat) (x : List Int) => x.length = t.length ∧ ∀ i v, t[i]? = some v → (i < n → x[i]? = some (Int.tdiv v (t.length : Int)) ∧ Int.tmod v (t.length : Int) = 0) ∧ (n ≤ i → x[i]? = some v)) _ ⟨rfl, fun i v hi => ⟨fun h => by omega, fun _ => hi⟩⟩ (fun n a x hn hx => ?_) (fun x hx => .inr ⟨?_, fun v hv => ?_⟩)
  · have hnl := (List.getElem?_eq_some_iff.1 hn).1
    have hxn := (hx.2 n a hn).2 (by omega)
    unfold wave_Back_b1
    rw [idx_nat, hxn, bind_some', hx.1, ck_ok (by omega), bind_some']
    by_cases hm : Int.tmod a (t.length : Int) = 0
    · have : (Int.tmod a (t.length : Int) != 0) = false := by simp [hm]
      rw [this, cond_false, wb_q (by omega) (hb a (List.mem_of_getElem? hn)), Int.toNat_natCast]
      refine ⟨_, rfl, by simp [hx.1], fun i v hi => ⟨fun hin => ?_, fun hin => ?_⟩⟩
      · rw [List.getElem?_set]
        by_cases h : n = i
        · subst h
          rw [hn] at hi
          obtain rfl := Option.some.inj hi
          rw [if_pos rfl, if_pos (by omega)]
          exact ⟨rfl, hm⟩
        · rw [if_neg h]; exact (hx.2 i v hi).1 (by omega)
      · rw [List.getElem?_set, if_neg (by omega)]; exact (hx.2 i v hi).2 (by omega)
    · have : (Int.tmod a (t.length : Int) != 0) = true := by simp [hm]
      rw [this, cond_true]
      exact ⟨_, rfl, .inl ⟨rfl, a, List.mem_of_getElem? hn, hm⟩⟩
  · congr 1
    apply List.ext_getElem?
    intro i
    rw [List.getElem?_map]
    cases hi : t[i]? with
    | none => rw [List.getElem?_eq_none (by rw [hx.1]; exact List.getElem?_eq_none_iff.1 hi)]; rfl
    | some v => exact ((hx.2 i v hi).1 (List.getElem?_eq_some_iff.1 hi).1).1
  · obtain ⟨i, hi⟩ := List.getElem?_of_mem hv
    exact ((hx.2 i v hi).1 (List.getElem?_eq_some_iff.1 hi).1).2
theorem WaveBacks_true (a0 : Int) (a1 : List Int) (f0 : Fits (.int .i64) a0) (f1 : Fits (.slice (.int .i64)) a1) : law_WaveBacks a0 a1 = some true := by
  unfold law_WaveBacks wave_Back
  rw [wt_wrong, wt_check]
  simp only [Option.bind_some]
  by_cases h : wtc a0 a1 = 0
  · obtain ⟨k, hk, rfl, hl, hb⟩ := wt_valid h
    obtain ⟨t, t1, t2, t3, t4⟩ := wb_main hk hl hb
    have hp := Nat.two_pow_pos k
    obtain ⟨y, y1, y2⟩ := wb_loop (t := t) (by omega) t3
    rw [h, wt_same hk hl hb, t1]
    have e0 : ((0 : Int) != 0) = false := rfl
    rw [e0, cond_false, bind_some', y1]
    rcases y2 with ⟨rfl, v, hv, hm⟩ | ⟨rfl, hm⟩
    · have hs : forL (law_WaveBacks_b2 a1 ([], 5)) (fun _ => (Esc.brk () : Esc Bool Unit)) t 0 () = some (.ret true) := by
        rw [forL_ex (p := fun v => Int.tmod v (t.length : Int) != 0) (y := Esc.ret true) (fun i a _ => by
          unfold law_WaveBacks_b2
          rw [ck_ok (by omega), bind_some', show (a1.length : Int) = (t.length : Int) by omega]
          cases (Int.tmod a (t.length : Int) != 0) <;> rfl)]
        have : (t.any fun v => Int.tmod v (t.length : Int) != 0) = true := List.any_eq_true.2 ⟨v, hv, by simp [hm]⟩
        rw [this]; rfl
      simp [hs]
    · have hw := t4 (by rw [← t2]; exact hm)
      rw [← t2] at hw
      have hlen : (t.map fun v => Int.tdiv v (t.length : Int)).length = a1.length := by rw [List.length_map]; omega
      clear y1
      generalize (t.map fun v => Int.tdiv v (t.length : Int)) = q at hw hlen ⊢
      simp [hw, ref_Ints_eq, hlen]
  · have e1 : (wtc a0 a1 != 0) = true := by simp [h]
    rw [e1]
    simp [e1, h]

end Go.Proofs.Ytjgpfbdenfoffaa.waveBacks
namespace Go.Proofs.Ytjgpfbdenfoffaa.waveBacks
open Go.ChangeShapes Go.WideShapes Go.ChangeAt Go.RowKit
open Go.ChangeMaps (open_string shut_string)
theorem own : ownKnob Try.prog.godebug = none := by kernel_rfl
theorem laidOut : laidOutB Try.prog = true := by kernel_rfl
theorem lifted (os : Os) (started : os.Started) (H : Type) (enc : TypeId × Value → H) :
    ReturnsInHanded {} Try.checked os 10 .any (Rows.waveBacksSpec.pre6 enc Try.prog Try.f10 Rows.waveBacksRow.domain false) (Rows.waveBacksSpec.post enc Try.prog Try.f10 false true false false) := by
  refine returnsInHanded_of_change (C := Try.checked) own started (by kernel_rfl) Try.func10
    (ChangeSpec.witness6 (enc := enc) (C := Try.checked) false ⟨#[], #[.int .i64 0, .slice none 0 0], []⟩ 8 (by kernel_rfl) (by kernel_rfl) (by kernel_rfl) (by kernel_rfl)) ?_
  intro W base args ds gs before hval0 hW hcnd _
  have hval : ∀ (j : Nat) t v, Try.f10.params[j]? = some t → args[j]? = some v → Value.okWide Try.prog W .any base t v := hval0
  have hW' := hW
  obtain ⟨p, q, hA0, hV, rfl, hfz, hnd⟩ := hW
  have hA : DataW.TrodAll enc Try.prog W 0 (fun _ => true) true Try.f10.params.toList args.toList ds p := hA0
  rw [Try.params10] at hA hval
  obtain ⟨v0, vs0, d0, ds0, p0, q0, hargs, rfl, rfl, h0, r0⟩ := trodAll_cons hA
  obtain ⟨v1, vs1, d1, ds1, p1, q1, rfl, rfl, rfl, h1, r1⟩ := trodAll_cons r0
  obtain ⟨rfl, rfl, rfl⟩ := trodAll_nil r1
  obtain rfl : args = #[v0, v1] := by cases args; simp_all
  obtain ⟨rfl, rfl⟩ := trodVars_none hV
  obtain ⟨x0, f0, k0⟩ := Go.Sl.read_arg (u := (.int .i64)) (by kernel_rfl) (by kernel_rfl) (hval 0 3 v0 rfl rfl) h0
  have lt0 : ∀ x ∈ p0, x.block < W.heap.size := by obtain ⟨m, hm⟩ := h0; exact DataW.trod_lt m _ _ _ hm
  obtain ⟨x1, f1, k1⟩ := Go.Sl.read_arg (u := (.slice (.int .i64))) (by kernel_rfl) (by kernel_rfl) (hval 1 22 v1 rfl rfl) h1
  have lt1 : ∀ x ∈ p1, x.block < W.heap.size := by obtain ⟨m, hm⟩ := h1; exact DataW.trod_lt m _ _ _ hm
  clear hA0 hval0
  have hm := WaveBacks_true x0 x1 f0 f1
  refine (Go.Sl.law_of (vs := [v0, v1]) (law_WaveBacks_ok hm) rfl (.cons (k0 _ _) (.cons (k1 _ _) .nil))).mono fun e W' ⟨he, bel⟩ => ?_
  subst he
  exact ⟨_, rfl, _, _, _, [], _, [], hW', trodAll_mk1 (shut_bool Try.underlying4 _), (trodAll_cons_mk (Below.trod laidOut (by kernel_rfl) (of_decide_eq_true (by kernel_rfl)) h0 bel lt0) (trodAll_cons_mk (Below.trod laidOut (by kernel_rfl) (of_decide_eq_true (by kernel_rfl)) h1 bel lt1) trodAll_mk0)), rfl, bel.frame _, fun h => by cases h⟩
theorem proved : Rows.WaveBacksSaid :=
  OpenClaim.holds_of_wide 10 Try.f10 rfl rfl rfl rfl rfl rfl rfl ⟨rfl, rfl, rfl, rfl, rfl⟩ rfl rfl rfl rfl rfl (by kernel_rfl) Try.func10 (by kernel_rfl)
    (of_decide_eq_true (by kernel_rfl)) (by unfold Func.isWrapper; first | (rw [if_pos (by decide +kernel)]; kernel_rfl) | (rw [if_neg (by decide +kernel)]; exact ⟨rfl, rfl⟩))
    (fun os started H enc _ => lifted os started H enc)
#print axioms proved
end Go.Proofs.Ytjgpfbdenfoffaa.waveBacks
