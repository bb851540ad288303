/- For any dimension and list wave.Turn returns the specified results: WaveTurns returns true and changes nothing; no conditions. -/
import Derived.Test.YtjgpfbdenfoffaaRows
import Derived.WalkKit
import Derived.ProofKit
import Derived.OpenShut
import Derived.ShutString
import Derived.ChangeOld
import Derived.Below
import Derived.Test.YtjgpfbdenfoffaaWaveTurnsM
set_option linter.all false
set_option maxRecDepth 100000
namespace Go.Proofs.Ytjgpfbdenfoffaa.waveTurns
open Go Go.Sl

theorem within_eq (a b c : Int) : ref_Within a b c = some (decide (a ≤ b ∧ b ≤ c)) := by
  unfold ref_Within
  rw [Bool.decide_and]

theorem ref_Ints_eq (a b : List Int) : ref_Ints a b = some (decide (a = b)) := by
  unfold ref_Ints
  rw [len_ne]
  by_cases h : a.length = b.length
  · rw [forL_eqs (q := b) (fun n a c hc => by
      unfold ref_Ints_b1
      rw [idx_nat, hc]
      by_cases h : a = c <;> simp [h, bne_dec]) h]
    by_cases h2 : a = b <;> simp [h2, h]
  · have : ¬ a = b := fun e => h (by rw [e])
    simp [h, this]

theorem ww_val (n : Int) : w64 n = if n % 18446744073709551616 ≥ 9223372036854775808 then n % 18446744073709551616 - 18446744073709551616 else n % 18446744073709551616 := by
  unfold w64 IntKind.wrap
  simp only [IntKind.bits, IntKind.signed, Bool.true_and, Int.reducePow, Nat.reduceSub]
  split
  · rename_i h; have h := of_decide_eq_true h; rw [if_pos (by omega)]
  · rename_i h; have h := of_decide_eq_false (eq_false_of_ne_true h); rw [if_neg (by omega)]
theorem ww_mod (n : Int) : w64 n % 18446744073709551616 = n % 18446744073709551616 := by
  rw [ww_val]; split <;> omega
theorem ww_eq {a b : Int} (h : a % 18446744073709551616 = b % 18446744073709551616) : w64 a = w64 b := by
  rw [ww_val, ww_val, h]
theorem ww_al (a b : Int) : w64 (w64 a + b) = w64 (a + b) := ww_eq (by have := ww_mod a; omega)
theorem ww_ar (a b : Int) : w64 (a + w64 b) = w64 (a + b) := ww_eq (by have := ww_mod b; omega)
theorem ww_sl (a b : Int) : w64 (w64 a - b) = w64 (a - b) := ww_eq (by have := ww_mod a; omega)
theorem ww_sr (a b : Int) : w64 (a - w64 b) = w64 (a - b) := ww_eq (by have := ww_mod b; omega)
theorem wt_each0 (x0 : Int) : wave_each_with_wave_turn 0 [x0] = some [x0] := by kernel_rfl
theorem wt_wave0 (x0 : Int) : ref_Wave [x0] = some [w64 (0 + x0)] := by kernel_rfl
theorem wt_each1 (x0 x1 : Int) : wave_each_with_wave_turn 1 [x0, x1] = some [w64 (x0 + x1),
 w64 (x0 - x1)] := by kernel_rfl
theorem wt_wave1 (x0 x1 : Int) : ref_Wave [x0, x1] = some [w64 (w64 (0 + x0) + x1),
 w64 (w64 (0 + x0) + w64 (0 - x1))] := by kernel_rfl
theorem wt_each2 (x0 x1 x2 x3 : Int) : wave_each_with_wave_turn 2 [x0, x1, x2, x3] = some [w64 (w64 (x0 + x1) + w64 (x2 + x3)),
 w64 (w64 (x0 - x1) + w64 (x2 - x3)),
 w64 (w64 (x0 + x1) - w64 (x2 + x3)),
 w64 (w64 (x0 - x1) - w64 (x2 - x3))] := by kernel_rfl
theorem wt_wave2 (x0 x1 x2 x3 : Int) : ref_Wave [x0, x1, x2, x3] = some [w64 (w64 (w64 (w64 (0 + x0) + x1) + x2) + x3),
 w64 (w64 (w64 (w64 (0 + x0) + w64 (0 - x1)) + x2) + w64 (0 - x3)),
 w64 (w64 (w64 (w64 (0 + x0) + x1) + w64 (0 - x2)) + w64 (0 - x3)),
 w64 (w64 (w64 (w64 (0 + x0) + w64 (0 - x1)) + w64 (0 - x2)) + x3)] := by kernel_rfl
theorem wt_each3 (x0 x1 x2 x3 x4 x5 x6 x7 : Int) : wave_each_with_wave_turn 3 [x0, x1, x2, x3, x4, x5, x6, x7] = some [w64 (w64 (w64 (x0 + x1) + w64 (x2 + x3)) + w64 (w64 (x4 + x5) + w64 (x6 + x7))),
 w64 (w64 (w64 (x0 - x1) + w64 (x2 - x3)) + w64 (w64 (x4 - x5) + w64 (x6 - x7))),
 w64 (w64 (w64 (x0 + x1) - w64 (x2 + x3)) + w64 (w64 (x4 + x5) - w64 (x6 + x7))),
 w64 (w64 (w64 (x0 - x1) - w64 (x2 - x3)) + w64 (w64 (x4 - x5) - w64 (x6 - x7))),
 w64 (w64 (w64 (x0 + x1) + w64 (x2 + x3)) - w64 (w64 (x4 + x5) + w64 (x6 + x7))),
 w64 (w64 (w64 (x0 - x1) + w64 (x2 - x3)) - w64 (w64 (x4 - x5) + w64 (x6 - x7))),
 w64 (w64 (w64 (x0 + x1) - w64 (x2 + x3)) - w64 (w64 (x4 + x5) - w64 (x6 + x7))),
 w64 (w64 (w64 (x0 - x1) - w64 (x2 - x3)) - w64 (w64 (x4 - x5) - w64 (x6 - x7)))] := by kernel_rfl
theorem wt_wave3 (x0 x1 x2 x3 x4 x5 x6 x7 : Int) : ref_Wave [x0, x1, x2, x3, x4, x5, x6, x7] = some [w64 (w64 (w64 (w64 (w64 (w64 (w64 (w64 (0 + x0) + x1) + x2) + x3) + x4) + x5) + x6) + x7),
 w64 (w64 (w64 (w64 (w64 (w64 (w64 (w64 (0 + x0) + w64 (0 - x1)) + x2) + w64 (0 - x3)) + x4) + w64 (0 - x5)) + x6) + w64 (0 - x7)),
 w64 (w64 (w64 (w64 (w64 (w64 (w64 (w64 (0 + x0) + x1) + w64 (0 - x2)) + w64 (0 - x3)) + x4) + x5) + w64 (0 - x6)) + w64 (0 - x7)),
 w64 (w64 (w64 (w64 (w64 (w64 (w64 (w64 (0 + x0) + w64 (0 - x1)) + w64 (0 - x2)) + x3) + x4) + w64 (0 - x5)) + w64 (0 - x6)) + x7),
 w64 (w64 (w64 (w64 (w64 (w64 (w64 (w64 (0 + x0) + x1) + x2) + x3) + w64 (0 - x4)) + w64 (0 - x5)) + w64 (0 - x6)) + w64 (0 - x7)),
 w64 (w64 (w64 (w64 (w64 (w64 (w64 (w64 (0 + x0) + w64 (0 - x1)) + x2) + w64 (0 - x3)) + w64 (0 - x4)) + x5) + w64 (0 - x6)) + x7),
 w64 (w64 (w64 (w64 (w64 (w64 (w64 (w64 (0 + x0) + x1) + w64 (0 - x2)) + w64 (0 - x3)) + w64 (0 - x4)) + w64 (0 - x5)) + x6) + x7),
 w64 (w64 (w64 (w64 (w64 (w64 (w64 (w64 (0 + x0) + w64 (0 - x1)) + w64 (0 - x2)) + x3) + w64 (0 - x4)) + x5) + x6) + w64 (0 - x7))] := by kernel_rfl
theorem wt_each4 (x0 x1 x2 x3 x4 x5 x6 x7 x8 x9 x10 x11 x12 x13 x14 x15 : Int) : wave_each_with_wave_turn 4 [x0, x1, x2, x3, x4, x5, x6, x7, x8, x9, x10, x11, x12, x13, x14, x15] = some [w64 (w64 (w64 (w64 (x0 + x1) + w64 (x2 + x3)) + w64 (w64 (x4 + x5) + w64 (x6 + x7))) + w64 (w64 (w64 (x8 + x9) + w64 (x10 + x11)) + w64 (w64 (x12 + x13) + w64 (x14 + x15)))),
 w64 (w64 (w64 (w64 (x0 - x1) + w64 (x2 - x3)) + w64 (w64 (x4 - x5) + w64 (x6 - x7))) + w64 (w64 (w64 (x8 - x9) + w64 (x10 - x11)) + w64 (w64 (x12 - x13) + w64 (x14 - x15)))),
 w64 (w64 (w64 (w64 (x0 + x1) - w64 (x2 + x3)) + w64 (w64 (x4 + x5) - w64 (x6 + x7))) + w64 (w64 (w64 (x8 + x9) - w64 (x10 + x11)) + w64 (w64 (x12 + x13) - w64 (x14 + x15)))),
 w64 (w64 (w64 (w64 (x0 - x1) - w64 (x2 - x3)) + w64 (w64 (x4 - x5) - w64 (x6 - x7))) + w64 (w64 (w64 (x8 - x9) - w64 (x10 - x11)) + w64 (w64 (x12 - x13) - w64 (x14 - x15)))),
 w64 (w64 (w64 (w64 (x0 + x1) + w64 (x2 + x3)) - w64 (w64 (x4 + x5) + w64 (x6 + x7))) + w64 (w64 (w64 (x8 + x9) + w64 (x10 + x11)) - w64 (w64 (x12 + x13) + w64 (x14 + x15)))),
 w64 (w64 (w64 (w64 (x0 - x1) + w64 (x2 - x3)) - w64 (w64 (x4 - x5) + w64 (x6 - x7))) + w64 (w64 (w64 (x8 - x9) + w64 (x10 - x11)) - w64 (w64 (x12 - x13) + w64 (x14 - x15)))),
 w64 (w64 (w64 (w64 (x0 + x1) - w64 (x2 + x3)) - w64 (w64 (x4 + x5) - w64 (x6 + x7))) + w64 (w64 (w64 (x8 + x9) - w64 (x10 + x11)) - w64 (w64 (x12 + x13) - w64 (x14 + x15)))),
 w64 (w64 (w64 (w64 (x0 - x1) - w64 (x2 - x3)) - w64 (w64 (x4 - x5) - w64 (x6 - x7))) + w64 (w64 (w64 (x8 - x9) - w64 (x10 - x11)) - w64 (w64 (x12 - x13) - w64 (x14 - x15)))),
 w64 (w64 (w64 (w64 (x0 + x1) + w64 (x2 + x3)) + w64 (w64 (x4 + x5) + w64 (x6 + x7))) - w64 (w64 (w64 (x8 + x9) + w64 (x10 + x11)) + w64 (w64 (x12 + x13) + w64 (x14 + x15)))),
 w64 (w64 (w64 (w64 (x0 - x1) + w64 (x2 - x3)) + w64 (w64 (x4 - x5) + w64 (x6 - x7))) - w64 (w64 (w64 (x8 - x9) + w64 (x10 - x11)) + w64 (w64 (x12 - x13) + w64 (x14 - x15)))),
 w64 (w64 (w64 (w64 (x0 + x1) - w64 (x2 + x3)) + w64 (w64 (x4 + x5) - w64 (x6 + x7))) - w64 (w64 (w64 (x8 + x9) - w64 (x10 + x11)) + w64 (w64 (x12 + x13) - w64 (x14 + x15)))),
 w64 (w64 (w64 (w64 (x0 - x1) - w64 (x2 - x3)) + w64 (w64 (x4 - x5) - w64 (x6 - x7))) - w64 (w64 (w64 (x8 - x9) - w64 (x10 - x11)) + w64 (w64 (x12 - x13) - w64 (x14 - x15)))),
 w64 (w64 (w64 (w64 (x0 + x1) + w64 (x2 + x3)) - w64 (w64 (x4 + x5) + w64 (x6 + x7))) - w64 (w64 (w64 (x8 + x9) + w64 (x10 + x11)) - w64 (w64 (x12 + x13) + w64 (x14 + x15)))),
 w64 (w64 (w64 (w64 (x0 - x1) + w64 (x2 - x3)) - w64 (w64 (x4 - x5) + w64 (x6 - x7))) - w64 (w64 (w64 (x8 - x9) + w64 (x10 - x11)) - w64 (w64 (x12 - x13) + w64 (x14 - x15)))),
 w64 (w64 (w64 (w64 (x0 + x1) - w64 (x2 + x3)) - w64 (w64 (x4 + x5) - w64 (x6 + x7))) - w64 (w64 (w64 (x8 + x9) - w64 (x10 + x11)) - w64 (w64 (x12 + x13) - w64 (x14 + x15)))),
 w64 (w64 (w64 (w64 (x0 - x1) - w64 (x2 - x3)) - w64 (w64 (x4 - x5) - w64 (x6 - x7))) - w64 (w64 (w64 (x8 - x9) - w64 (x10 - x11)) - w64 (w64 (x12 - x13) - w64 (x14 - x15))))] := by kernel_rfl
theorem wt_wave4 (x0 x1 x2 x3 x4 x5 x6 x7 x8 x9 x10 x11 x12 x13 x14 x15 : Int) : ref_Wave [x0, x1, x2, x3, x4, x5, x6, x7, x8, x9, x10, x11, x12, x13, x14, x15] = some [w64 (w64 (w64 (w64 (w64 (w64 (w64 (w64 (w64 (w64 (w64 (w64 (w64 (w64 (w64 (w64 (0 + x0) + x1) + x2) + x3) + x4) + x5) + x6) + x7) + x8) + x9) + x10) + x11) + x12) + x13) + x14) + x15),
 w64 (w64 (w64 (w64 (w64 (w64 (w64 (w64 (w64 (w64 (w64 (w64 (w64 (w64 (w64 (w64 (0 + x0) + w64 (0 - x1)) + x2) + w64 (0 - x3)) + x4) + w64 (0 - x5)) + x6) + w64 (0 - x7)) + x8) + w64 (0 - x9)) + x10) + w64 (0 - x11)) + x12) + w64 (0 - x13)) + x14) + w64 (0 - x15)),
 w64 (w64 (w64 (w64 (w64 (w64 (w64 (w64 (w64 (w64 (w64 (w64 (w64 (w64 (w64 (w64 (0 + x0) + x1) + w64 (0 - x2)) + w64 (0 - x3)) + x4) + x5) + w64 (0 - x6)) + w64 (0 - x7)) + x8) + x9) + w64 (0 - x10)) + w64 (0 - x11)) + x12) + x13) + w64 (0 - x14)) + w64 (0 - x15)),
 w64 (w64 (w64 (w64 (w64 (w64 (w64 (w64 (w64 (w64 (w64 (w64 (w64 (w64 (w64 (w64 (0 + x0) + w64 (0 - x1)) + w64 (0 - x2)) + x3) + x4) + w64 (0 - x5)) + w64 (0 - x6)) + x7) + x8) + w64 (0 - x9)) + w64 (0 - x10)) + x11) + x12) + w64 (0 - x13)) + w64 (0 - x14)) + x15),
 w64 (w64 (w64 (w64 (w64 (w64 (w64 (w64 (w64 (w64 (w64 (w64 (w64 (w64 (w64 (w64 (0 + x0) + x1) + x2) + x3) + w64 (0 - x4)) + w64 (0 - x5)) + w64 (0 - x6)) + w64 (0 - x7)) + x8) + x9) + x10) + x11) + w64 (0 - x12)) + w64 (0 - x13)) + w64 (0 - x14)) + w64 (0 - x15)),
 w64 (w64 (w64 (w64 (w64 (w64 (w64 (w64 (w64 (w64 (w64 (w64 (w64 (w64 (w64 (w64 (0 + x0) + w64 (0 - x1)) + x2) + w64 (0 - x3)) + w64 (0 - x4)) + x5) + w64 (0 - x6)) + x7) + x8) + w64 (0 - x9)) + x10) + w64 (0 - x11)) + w64 (0 - x12)) + x13) + w64 (0 - x14)) + x15),
 w64 (w64 (w64 (w64 (w64 (w64 (w64 (w64 (w64 (w64 (w64 (w64 (w64 (w64 (w64 (w64 (0 + x0) + x1) + w64 (0 - x2)) + w64 (0 - x3)) + w64 (0 - x4)) + w64 (0 - x5)) + x6) + x7) + x8) + x9) + w64 (0 - x10)) + w64 (0 - x11)) + w64 (0 - x12)) + w64 (0 - x13)) + x14) + x15),
 w64 (w64 (w64 (w64 (w64 (w64 (w64 (w64 (w64 (w64 (w64 (w64 (w64 (w64 (w64 (w64 (0 + x0) + w64 (0 - x1)) + w64 (0 - x2)) + x3) + w64 (0 - x4)) + x5) + x6) + w64 (0 - x7)) + x8) + w64 (0 - x9)) + w64 (0 - x10)) + x11) + w64 (0 - x12)) + x13) + x14) + w64 (0 - x15)),
 w64 (w64 (w64 (w64 (w64 (w64 (w64 (w64 (w64 (w64 (w64 (w64 (w64 (w64 (w64 (w64 (0 + x0) + x1) + x2) + x3) + x4) + x5) + x6) + x7) + w64 (0 - x8)) + w64 (0 - x9)) + w64 (0 - x10)) + w64 (0 - x11)) + w64 (0 - x12)) + w64 (0 - x13)) + w64 (0 - x14)) + w64 (0 - x15)),
 w64 (w64 (w64 (w64 (w64 (w64 (w64 (w64 (w64 (w64 (w64 (w64 (w64 (w64 (w64 (w64 (0 + x0) + w64 (0 - x1)) + x2) + w64 (0 - x3)) + x4) + w64 (0 - x5)) + x6) + w64 (0 - x7)) + w64 (0 - x8)) + x9) + w64 (0 - x10)) + x11) + w64 (0 - x12)) + x13) + w64 (0 - x14)) + x15),
 w64 (w64 (w64 (w64 (w64 (w64 (w64 (w64 (w64 (w64 (w64 (w64 (w64 (w64 (w64 (w64 (0 + x0) + x1) + w64 (0 - x2)) + w64 (0 - x3)) + x4) + x5) + w64 (0 - x6)) + w64 (0 - x7)) + w64 (0 - x8)) + w64 (0 - x9)) + x10) + x11) + w64 (0 - x12)) + w64 (0 - x13)) + x14) + x15),
 w64 (w64 (w64 (w64 (w64 (w64 (w64 (w64 (w64 (w64 (w64 (w64 (w64 (w64 (w64 (w64 (0 + x0) + w64 (0 - x1)) + w64 (0 - x2)) + x3) + x4) + w64 (0 - x5)) + w64 (0 - x6)) + x7) + w64 (0 - x8)) + x9) + x10) + w64 (0 - x11)) + w64 (0 - x12)) + x13) + x14) + w64 (0 - x15)),
 w64 (w64 (w64 (w64 (w64 (w64 (w64 (w64 (w64 (w64 (w64 (w64 (w64 (w64 (w64 (w64 (0 + x0) + x1) + x2) + x3) + w64 (0 - x4)) + w64 (0 - x5)) + w64 (0 - x6)) + w64 (0 - x7)) + w64 (0 - x8)) + w64 (0 - x9)) + w64 (0 - x10)) + w64 (0 - x11)) + x12) + x13) + x14) + x15),
 w64 (w64 (w64 (w64 (w64 (w64 (w64 (w64 (w64 (w64 (w64 (w64 (w64 (w64 (w64 (w64 (0 + x0) + w64 (0 - x1)) + x2) + w64 (0 - x3)) + w64 (0 - x4)) + x5) + w64 (0 - x6)) + x7) + w64 (0 - x8)) + x9) + w64 (0 - x10)) + x11) + x12) + w64 (0 - x13)) + x14) + w64 (0 - x15)),
 w64 (w64 (w64 (w64 (w64 (w64 (w64 (w64 (w64 (w64 (w64 (w64 (w64 (w64 (w64 (w64 (0 + x0) + x1) + w64 (0 - x2)) + w64 (0 - x3)) + w64 (0 - x4)) + w64 (0 - x5)) + x6) + x7) + w64 (0 - x8)) + w64 (0 - x9)) + x10) + x11) + x12) + x13) + w64 (0 - x14)) + w64 (0 - x15)),
 w64 (w64 (w64 (w64 (w64 (w64 (w64 (w64 (w64 (w64 (w64 (w64 (w64 (w64 (w64 (w64 (0 + x0) + w64 (0 - x1)) + w64 (0 - x2)) + x3) + w64 (0 - x4)) + x5) + x6) + w64 (0 - x7)) + w64 (0 - x8)) + x9) + x10) + w64 (0 - x11)) + x12) + w64 (0 - x13)) + w64 (0 - x14)) + x15)] := by kernel_rfl
theorem wt_same0 (x0 : Int) (h : ∀ v ∈ [x0], -1000000000 ≤ v ∧ v ≤ 1000000000) : wave_each_with_wave_turn 0 [x0] = ref_Wave [x0] := by
  rw [wt_each0, wt_wave0]
  have := h x0 (by simp)
  rw [w64_id (by omega) (by omega), Int.zero_add]
theorem wt_same1 (x0 x1 : Int) (h : ∀ v ∈ [x0, x1], -1000000000 ≤ v ∧ v ≤ 1000000000) : wave_each_with_wave_turn 1 [x0, x1] = ref_Wave [x0, x1] := by
  rw [wt_each1, wt_wave1]
  simp only [ww_al, ww_ar, ww_sl, ww_sr]
  refine congrArg some ?_
  repeat (refine congr (congrArg List.cons (congrArg w64 (by omega))) ?_)
  rfl
theorem wt_same2 (x0 x1 x2 x3 : Int) (h : ∀ v ∈ [x0, x1, x2, x3], -1000000000 ≤ v ∧ v ≤ 1000000000) : wave_each_with_wave_turn 2 [x0, x1, x2, x3] = ref_Wave [x0, x1, x2, x3] := by
  rw [wt_each2, wt_wave2]
  simp only [ww_al, ww_ar, ww_sl, ww_sr]
  refine congrArg some ?_
  repeat (refine congr (congrArg List.cons (congrArg w64 (by omega))) ?_)
  rfl
theorem wt_same3 (x0 x1 x2 x3 x4 x5 x6 x7 : Int) (h : ∀ v ∈ [x0, x1, x2, x3, x4, x5, x6, x7], -1000000000 ≤ v ∧ v ≤ 1000000000) : wave_each_with_wave_turn 3 [x0, x1, x2, x3, x4, x5, x6, x7] = ref_Wave [x0, x1, x2, x3, x4, x5, x6, x7] := by
  rw [wt_each3, wt_wave3]
  simp only [ww_al, ww_ar, ww_sl, ww_sr]
  refine congrArg some ?_
  repeat (refine congr (congrArg List.cons (congrArg w64 (by omega))) ?_)
  rfl
theorem wt_same4 (x0 x1 x2 x3 x4 x5 x6 x7 x8 x9 x10 x11 x12 x13 x14 x15 : Int) (h : ∀ v ∈ [x0, x1, x2, x3, x4, x5, x6, x7, x8, x9, x10, x11, x12, x13, x14, x15], -1000000000 ≤ v ∧ v ≤ 1000000000) : wave_each_with_wave_turn 4 [x0, x1, x2, x3, x4, x5, x6, x7, x8, x9, x10, x11, x12, x13, x14, x15] = ref_Wave [x0, x1, x2, x3, x4, x5, x6, x7, x8, x9, x10, x11, x12, x13, x14, x15] := by
  rw [wt_each4, wt_wave4]
  simp only [ww_al, ww_ar, ww_sl, ww_sr]
  refine congrArg some ?_
  repeat (refine congr (congrArg List.cons (congrArg w64 (by omega))) ?_)
  rfl
theorem wt_len0 {l : List Int} (h : l.length = 1) : ∃ x0, l = [x0] := by
  match l, h with
  | [x0], _ => exact ⟨x0, rfl⟩
theorem wt_len1 {l : List Int} (h : l.length = 2) : ∃ x0 x1, l = [x0, x1] := by
  match l, h with
  | [x0, x1], _ => exact ⟨x0, x1, rfl⟩
theorem wt_len2 {l : List Int} (h : l.length = 4) : ∃ x0 x1 x2 x3, l = [x0, x1, x2, x3] := by
  match l, h with
  | [x0, x1, x2, x3], _ => exact ⟨x0, x1, x2, x3, rfl⟩
theorem wt_len3 {l : List Int} (h : l.length = 8) : ∃ x0 x1 x2 x3 x4 x5 x6 x7, l = [x0, x1, x2, x3, x4, x5, x6, x7] := by
  match l, h with
  | [x0, x1, x2, x3, x4, x5, x6, x7], _ => exact ⟨x0, x1, x2, x3, x4, x5, x6, x7, rfl⟩
theorem wt_len4 {l : List Int} (h : l.length = 16) : ∃ x0 x1 x2 x3 x4 x5 x6 x7 x8 x9 x10 x11 x12 x13 x14 x15, l = [x0, x1, x2, x3, x4, x5, x6, x7, x8, x9, x10, x11, x12, x13, x14, x15] := by
  match l, h with
  | [x0, x1, x2, x3, x4, x5, x6, x7, x8, x9, x10, x11, x12, x13, x14, x15], _ => exact ⟨x0, x1, x2, x3, x4, x5, x6, x7, x8, x9, x10, x11, x12, x13, x14, x15, rfl⟩
def wvb (v : Int) : Bool := decide (v < -1000000000) || decide (v > 1000000000)
theorem wt_bad (l : List Int) : slices_ContainsFunc_Lintint_with_wave_wrong_1 l = some (l.any wvb) := by
  unfold slices_ContainsFunc_Lintint_with_wave_wrong_1 slices_IndexFunc_Lintint_with_wave_wrong_1
  rcases forL_at (body := slices_IndexFunc_Lintint_with_wave_wrong_1_b1) (fin := fun _ => (Esc.brk () : Esc Int Unit)) (p := wvb) (g := fun j => Esc.ret j) (l := l)
    (fun i a _ => by unfold slices_IndexFunc_Lintint_with_wave_wrong_1_b1 wave_wrong_1 wvb; cases (decide (a < -1000000000) || decide (a > 1000000000)) <;> rfl) (i := 0) with ⟨h1, h2⟩ | ⟨h1, j, h2, h3, h4⟩
  · rw [h2, h1]; rfl
  · rw [h4, h1]
    simp [h2]
def wtc (a0 : Int) (l : List Int) : Int := if ¬ (0 ≤ a0 ∧ a0 ≤ 4) then 1 else if l.length ≠ 2 ^ a0.toNat then 3 else bif l.any wvb then 4 else 0
theorem wt_len {l : List Int} {k : Nat} (h : k ≤ 4) : ((l.length : Int) != bShl .i64 1 (k : Int)) = !decide (l.length = 2 ^ k) := by
  rw [bShl_one (by omega), bne_dec, not_dec]
  exact decide_eq_decide.2 (by omega)
theorem wt_wrong (a0 : Int) (l : List Int) : wave_wrong a0 l = some (wtc a0 l) := by
  unfold wave_wrong wtc
  have e1 : ((decide (a0 < (0 : Int))) || (decide (a0 > (4 : Int)))) = !decide (0 ≤ a0 ∧ a0 ≤ 4) := by
    rw [or_dec, not_dec]; exact decide_eq_decide.2 (by omega)
  rw [e1, wt_bad]
  by_cases h : 0 ≤ a0 ∧ a0 ≤ 4
  · obtain ⟨k, rfl⟩ := Int.eq_ofNat_of_zero_le h.1
    rw [ck_ok (by omega), wt_len (by omega), decide_eq_true h, if_neg (by omega), Int.toNat_natCast]
    by_cases hl : l.length = 2 ^ k
    · rw [if_neg (by omega), decide_eq_true hl]
      cases l.any wvb <;> rfl
    · rw [if_pos hl, decide_eq_false hl]; rfl
  · rw [if_pos h, decide_eq_false h]; rfl
theorem wt_check (a0 : Int) (l : List Int) : ref_WaveCheck a0 l = some (wtc a0 l) := by
  unfold ref_WaveCheck wtc
  rw [within_eq]
  rw [forL_ex (p := wvb) (y := Esc.ret 4) (fun i a _ => by
    unfold ref_WaveCheck_b1 wvb
    rw [within_eq]
    have : (decide (a < -1000000000) || decide (a > 1000000000)) = !decide (-1000000000 ≤ a ∧ a ≤ 1000000000) := by
      rw [or_dec, not_dec]; exact decide_eq_decide.2 (by omega)
    rw [this]
    cases decide (-1000000000 ≤ a ∧ a ≤ 1000000000) <;> rfl)]
  by_cases h : 0 ≤ a0 ∧ a0 ≤ 4
  · obtain ⟨k, rfl⟩ := Int.eq_ofNat_of_zero_le h.1
    rw [wrap_u64 (n := (k : Int)) (by omega) (by omega), ck_ok (by omega), wt_len (by omega), decide_eq_true h, if_neg (by omega), Int.toNat_natCast]
    by_cases hl : l.length = 2 ^ k
    · rw [if_neg (by omega), decide_eq_true hl]
      cases l.any wvb <;> rfl
    · rw [if_pos hl, decide_eq_false hl]; rfl
  · rw [if_pos h, decide_eq_false h]; rfl
theorem wt_valid {a0 : Int} {l : List Int} (h : wtc a0 l = 0) : ∃ k : Nat, k ≤ 4 ∧ a0 = (k : Int) ∧ l.length = 2 ^ k ∧ ∀ v ∈ l, -1000000000 ≤ v ∧ v ≤ 1000000000 := by
  unfold wtc at h
  split at h
  · omega
  · split at h
    · omega
    · rename_i h1 h2
      refine ⟨a0.toNat, by omega, by omega, by omega, fun v hv => ?_⟩
      cases hb : l.any wvb with
      | true => rw [hb] at h; cases h
      | false =>
        have := List.any_eq_false.1 hb v hv
        unfold wvb at this
        simp only [Bool.or_eq_true, decide_eq_true_eq, not_or] at this
        omega
theorem wt_same {k : Nat} (hk : k ≤ 4) {l : List Int} (hl : l.length = 2 ^ k) (hb : ∀ v ∈ l, -1000000000 ≤ v ∧ v ≤ 1000000000) : wave_each_with_wave_turn (k : Int) l = ref_Wave l := by
  rcases (by omega : k = 0 ∨ k = 1 ∨ k = 2 ∨ k = 3 ∨ k = 4) with rfl | rfl | rfl | rfl | rfl
  · obtain ⟨x0, rfl⟩ := wt_len0 hl
    exact wt_same0 x0 hb
  · obtain ⟨x0, x1, rfl⟩ := wt_len1 hl
    exact wt_same1 x0 x1 hb
  · obtain ⟨x0, x1, x2, x3, rfl⟩ := wt_len2 hl
    exact wt_same2 x0 x1 x2 x3 hb
  · obtain ⟨x0, x1, x2, x3, x4, x5, x6, x7, rfl⟩ := wt_len3 hl
    exact wt_same3 x0 x1 x2 x3 x4 x5 x6 x7 hb
  · obtain ⟨x0, x1, x2, x3, x4, x5, x6, x7, x8, x9, x10, x11, x12, x13, x14, x15, rfl⟩ := wt_len4 hl
    exact wt_same4 x0 x1 x2 x3 x4 x5 x6 x7 x8 x9 x10 x11 x12 x13 x14 x15 hb
theorem wt_some {k : Nat} (hk : k ≤ 4) {l : List Int} (hl : l.length = 2 ^ k) : ∃ r, ref_Wave l = some r := by
  rcases (by omega : k = 0 ∨ k = 1 ∨ k = 2 ∨ k = 3 ∨ k = 4) with rfl | rfl | rfl | rfl | rfl
  · obtain ⟨x0, rfl⟩ := wt_len0 hl
    exact ⟨_, wt_wave0 x0⟩
  · obtain ⟨x0, x1, rfl⟩ := wt_len1 hl
    exact ⟨_, wt_wave1 x0 x1⟩
  · obtain ⟨x0, x1, x2, x3, rfl⟩ := wt_len2 hl
    exact ⟨_, wt_wave2 x0 x1 x2 x3⟩
  · obtain ⟨x0, x1, x2, x3, x4, x5, x6, x7, rfl⟩ := wt_len3 hl
    exact ⟨_, wt_wave3 x0 x1 x2 x3 x4 x5 x6 x7⟩
  · obtain ⟨x0, x1, x2, x3, x4, x5, x6, x7, x8, x9, x10, x11, x12, x13, x14, x15, rfl⟩ := wt_len4 hl
    exact ⟨_, wt_wave4 x0 x1 x2 x3 x4 x5 x6 x7 x8 x9 x10 x11 x12 x13 x14 x15⟩
theorem WaveTurns_true (a0 : Int) (a1 : List Int) (f0 : Fits (.int .i64) a0) (f1 : Fits (.slice (.int .i64)) a1) : law_WaveTurns a0 a1 = some true := by
  unfold law_WaveTurns wave_Turn
  rw [wt_wrong, wt_check]
  simp only [Option.bind_some]
  by_cases h : wtc a0 a1 = 0
  · obtain ⟨k, hk, rfl, hl, hb⟩ := wt_valid h
    obtain ⟨r, hr⟩ := wt_some hk hl
    rw [h, wt_same hk hl hb, hr]
    simp [ref_Ints_eq]
  · have e1 : (wtc a0 a1 != 0) = true := by simp [h]
    rw [e1]
    simp [e1, h]

end Go.Proofs.Ytjgpfbdenfoffaa.waveTurns
namespace Go.Proofs.Ytjgpfbdenfoffaa.waveTurns
open Go.ChangeShapes Go.WideShapes Go.ChangeAt Go.RowKit
open Go.ChangeMaps (open_string shut_string)
theorem own : ownKnob Try.prog.godebug = none := by kernel_rfl
theorem laidOut : laidOutB Try.prog = true := by kernel_rfl
theorem lifted (os : Os) (started : os.Started) (H : Type) (enc : TypeId × Value → H) :
    ReturnsInHanded {} Try.checked os 8 .any (Rows.waveTurnsSpec.pre6 enc Try.prog Try.f8 Rows.waveTurnsRow.domain false) (Rows.waveTurnsSpec.post enc Try.prog Try.f8 false true false false) := by
  refine returnsInHanded_of_change (C := Try.checked) own started (by kernel_rfl) Try.func8
    (ChangeSpec.witness6 (enc := enc) (C := Try.checked) false ⟨#[], #[.int .i64 0, .slice none 0 0], []⟩ 8 (by kernel_rfl) (by kernel_rfl) (by kernel_rfl) (by kernel_rfl)) ?_
  intro W base args ds gs before hval0 hW hcnd _
  have hval : ∀ (j : Nat) t v, Try.f8.params[j]? = some t → args[j]? = some v → Value.okWide Try.prog W .any base t v := hval0
  have hW' := hW
  obtain ⟨p, q, hA0, hV, rfl, hfz, hnd⟩ := hW
  have hA : DataW.TrodAll enc Try.prog W 0 (fun _ => true) true Try.f8.params.toList args.toList ds p := hA0
  rw [Try.params8] at hA hval
  obtain ⟨v0, vs0, d0, ds0, p0, q0, hargs, rfl, rfl, h0, r0⟩ := trodAll_cons hA
  obtain ⟨v1, vs1, d1, ds1, p1, q1, rfl, rfl, rfl, h1, r1⟩ := trodAll_cons r0
  obtain ⟨rfl, rfl, rfl⟩ := trodAll_nil r1
  obtain rfl : args = #[v0, v1] := by cases args; simp_all
  obtain ⟨rfl, rfl⟩ := trodVars_none hV
  obtain ⟨x0, f0, k0⟩ := Go.Sl.read_arg (u := (.int .i64)) (by kernel_rfl) (by kernel_rfl) (hval 0 3 v0 rfl rfl) h0
  have lt0 : ∀ x ∈ p0, x.block < W.heap.size := by obtain ⟨m, hm⟩ := h0; exact DataW.trod_lt m _ _ _ hm
  obtain ⟨x1, f1, k1⟩ := Go.Sl.read_arg (u := (.slice (.int .i64))) (by kernel_rfl) (by kernel_rfl) (hval 1 22 v1 rfl rfl) h1
  have lt1 : ∀ x ∈ p1, x.block < W.heap.size := by obtain ⟨m, hm⟩ := h1; exact DataW.trod_lt m _ _ _ hm
  clear hA0 hval0
  have hm := WaveTurns_true x0 x1 f0 f1
  refine (Go.Sl.law_of (vs := [v0, v1]) (law_WaveTurns_ok hm) rfl (.cons (k0 _ _) (.cons (k1 _ _) .nil))).mono fun e W' ⟨he, bel⟩ => ?_
  subst he
  exact ⟨_, rfl, _, _, _, [], _, [], hW', trodAll_mk1 (shut_bool Try.underlying4 _), (trodAll_cons_mk (Below.trod laidOut (by kernel_rfl) (of_decide_eq_true (by kernel_rfl)) h0 bel lt0) (trodAll_cons_mk (Below.trod laidOut (by kernel_rfl) (of_decide_eq_true (by kernel_rfl)) h1 bel lt1) trodAll_mk0)), rfl, bel.frame _, fun h => by cases h⟩
theorem proved : Rows.WaveTurnsSaid :=
  OpenClaim.holds_of_wide 8 Try.f8 rfl rfl rfl rfl rfl rfl rfl ⟨rfl, rfl, rfl, rfl, rfl⟩ rfl rfl rfl rfl rfl (by kernel_rfl) Try.func8 (by kernel_rfl)
    (of_decide_eq_true (by kernel_rfl)) (by unfold Func.isWrapper; first | (rw [if_pos (by decide +kernel)]; kernel_rfl) | (rw [if_neg (by decide +kernel)]; exact ⟨rfl, rfl⟩))
    (fun os started H enc _ => lifted os started H enc)
#print axioms proved
end Go.Proofs.Ytjgpfbdenfoffaa.waveTurns
