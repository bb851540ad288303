/- What the functions that AskDegrees calls compute, as models, and that they compute it: written by a program of mine. -/
import Derived.Test.YtnlibkamomlccaaProg
import Derived.Test.YtnlibkamomlccaaSl3
set_option linter.all false
set_option maxRecDepth 100000
namespace Go.Proofs.Ytnlibkamomlccaa.askDegrees
open Go Go.Sl
def ask_wrong (a0 : Int) (a1 : (List Bool)) (a2 : Int) : Option Int :=
bif (decide (a0 < (0 : Int))) || (decide (a0 > (4 : Int))) then
(some (1 : Int))
else
((ck (0 ≤ a0)).bind fun _ =>
bif (List.length a1 : Int) != (bShl .i64 (1 : Int) a0) then
(some (3 : Int))
else
(bif decide (a2 < (0 : Int)) then
(some (4 : Int))
else
(bif decide (a2 ≥ (bShl .i64 (1 : Int) a0)) then
(some (4 : Int))
else
(some (0 : Int)))))
theorem ask_wrong_ok {a0 : Int} {a1 : (List Bool)} {a2 : Int} {r : Int} (h : ask_wrong a0 a1 a2 = some r) : FnC Try.prog 37 [aI a0, aD (.slice .bool) a1, aI a2] [] (aI r) [] := by
  refine fnC_of_W (B := bodyOf Try.f37) (n := 29) Try.func37 (by kernel_rfl) (by kernel_rfl) (by kernel_rfl) (by kernel_rfl) (by kernel_rfl) ?_
  intro K
  refine W_seq (by kernel_rfl) ?_
  refine W_run 1 [] [0, 1, 2] [] (fr' := [(0, aI a0), (1, aD (.slice .bool) a1), (2, aI a2)]) (L' := []) (obs := []) (by kernel_rfl) (by kernel_rfl) (by kernel_rfl) allP0 ?_
  refine seqQ_norm ?_
  refine W_seq (by kernel_rfl) ?_
  refine W_block (id := 0) (by kernel_rfl) ?_
  refine W_seq (by kernel_rfl) ?_
  refine W_run 7 [] [0, 1, 2, 7] [] (fr' := [(0, aI a0), (1, aD (.slice .bool) a1), (2, aI a2), (7, aB ((decide (a0 < (0 : Int))) || (decide (a0 > (4 : Int)))))]) (L' := []) (obs := []) (by kernel_rfl) (by kernel_rfl) (by kernel_rfl) allP0 ?_
  refine seqQ_norm ?_
  refine W_cond (o := .tmp 7) (b := (decide (a0 < (0 : Int))) || (decide (a0 > (4 : Int)))) (by kernel_rfl) (by kernel_rfl) (fun h1 => ?_) (fun h1 => ?_)
  · replace h := ofT h1 h
    refine W_seq (by kernel_rfl) ?_
    refine W_run 1 [] [6] [] (fr' := [(6, aI (1 : Int))]) (L' := []) (obs := []) (by kernel_rfl) (by kernel_rfl) (by kernel_rfl) allP0 ?_
    refine seqQ_norm ?_
    obtain rfl := Option.some.inj h
    refine W_ret [6] [] (fr' := [(6, aI (1 : Int))]) (L' := []) (by kernel_rfl) (by kernel_rfl) ?_
    refine blockQ_ret ?_
    refine seqQ_ret ?_
    exact retQ_mk (by kernel_rfl) (by kernel_rfl) (by kernel_rfl)
  · replace h := ofF h1 h
    refine W_seq (by kernel_rfl) ?_
    obtain ⟨_, h2, h⟩ := bind_of h
    replace h2 := ck_some h2
    refine W_run 6 [] [0, 2, 14] [] (fr' := [(0, aI a0), (2, aI a2), (14, aB ((List.length a1 : Int) != (bShl .i64 (1 : Int) a0)))]) (L' := []) (obs := [(0 ≤ a0)]) (by kernel_rfl) (by kernel_rfl) (by kernel_rfl) (allP1 h2) ?_
    refine seqQ_norm ?_
    refine W_cond (o := .tmp 14) (b := (List.length a1 : Int) != (bShl .i64 (1 : Int) a0)) (by kernel_rfl) (by kernel_rfl) (fun h3 => ?_) (fun h3 => ?_)
    · replace h := ofT h3 h
      refine W_seq (by kernel_rfl) ?_
      refine W_run 1 [] [6] [] (fr' := [(6, aI (3 : Int))]) (L' := []) (obs := []) (by kernel_rfl) (by kernel_rfl) (by kernel_rfl) allP0 ?_
      refine seqQ_norm ?_
      obtain rfl := Option.some.inj h
      refine W_ret [6] [] (fr' := [(6, aI (3 : Int))]) (L' := []) (by kernel_rfl) (by kernel_rfl) ?_
      refine blockQ_ret ?_
      refine seqQ_ret ?_
      exact retQ_mk (by kernel_rfl) (by kernel_rfl) (by kernel_rfl)
    · replace h := ofF h3 h
      refine W_seq (by kernel_rfl) ?_
      refine W_region (by kernel_rfl) ?_
      refine WO_run (j := 3) (k := 3) (orcs := []) (kF := [0, 2, 23]) (kL := []) (fr' := [(0, aI a0), (2, aI a2), (23, aB (decide (a2 < (0 : Int))))]) (L' := []) (obs := []) rfl (by kernel_rfl) allP0 ?_
      rcases Bool.eq_false_or_eq_true (decide (a2 < (0 : Int))) with h4 | h4
      · replace h := ofT h4 h
        refine WO_run (j := 9) (k := 6) (orcs := [(6, .known true), (8, .known true), (10, .known true), (12, .known true), (15, .val (.dat .bool true))]) (kF := [20]) (kL := []) (fr' := [(20, aB true)]) (L' := []) (obs := [((decide (a2 < (0 : Int))) = true), ((decide (a2 < (0 : Int))) = true), ((decide (a2 < (0 : Int))) = true), ((decide (a2 < (0 : Int))) = true), ((decide (a2 < (0 : Int))) = true)]) rfl (by kernel_rfl) (allP2 h4 (allP2 h4 (allP2 h4 (allP2 h4 (allP1 h4))))) ?_
        refine WO_fin [20] [] (fr' := [(20, aB true)]) (L' := []) (by kernel_rfl) (by kernel_rfl) ?_
        refine seqQ_norm ?_
        refine W_cond (o := .tmp 20) (b := true) (by kernel_rfl) (by kernel_rfl) (fun h5 => ?_) (fun h5 => by have := (rfl : true = true).symm.trans h5; cases this)
        refine W_seq (by kernel_rfl) ?_
        refine W_run 1 [] [6] [] (fr' := [(6, aI (4 : Int))]) (L' := []) (obs := []) (by kernel_rfl) (by kernel_rfl) (by kernel_rfl) allP0 ?_
        refine seqQ_norm ?_
        obtain rfl := Option.some.inj h
        refine W_ret [6] [] (fr' := [(6, aI (4 : Int))]) (L' := []) (by kernel_rfl) (by kernel_rfl) ?_
        refine blockQ_ret ?_
        refine seqQ_ret ?_
        exact retQ_mk (by kernel_rfl) (by kernel_rfl) (by kernel_rfl)
      · replace h := ofF h4 h
        refine WO_run (j := 9) (k := 6) (orcs := [(6, .known false), (8, .known false), (10, .known false), (12, .known false), (15, .val (.dat .bool false))]) (kF := [20]) (kL := []) (fr' := [(20, aB (decide (a2 ≥ (bShl .i64 (1 : Int) a0))))]) (L' := []) (obs := [((decide (a2 < (0 : Int))) = false), ((decide (a2 < (0 : Int))) = false), ((decide (a2 < (0 : Int))) = false), (0 ≤ a0), ((decide (a2 < (0 : Int))) = false), ((decide (a2 < (0 : Int))) = false)]) rfl (by kernel_rfl) (allP2 h4 (allP2 h4 (allP2 h4 (allP2 h2 (allP2 h4 (allP1 h4)))))) ?_
        refine WO_fin [20] [] (fr' := [(20, aB (decide (a2 ≥ (bShl .i64 (1 : Int) a0))))]) (L' := []) (by kernel_rfl) (by kernel_rfl) ?_
        refine seqQ_norm ?_
        refine W_cond (o := .tmp 20) (b := decide (a2 ≥ (bShl .i64 (1 : Int) a0))) (by kernel_rfl) (by kernel_rfl) (fun h6 => ?_) (fun h6 => ?_)
        · replace h := ofT h6 h
          refine W_seq (by kernel_rfl) ?_
          refine W_run 1 [] [6] [] (fr' := [(6, aI (4 : Int))]) (L' := []) (obs := []) (by kernel_rfl) (by kernel_rfl) (by kernel_rfl) allP0 ?_
          refine seqQ_norm ?_
          obtain rfl := Option.some.inj h
          refine W_ret [6] [] (fr' := [(6, aI (4 : Int))]) (L' := []) (by kernel_rfl) (by kernel_rfl) ?_
          refine blockQ_ret ?_
          refine seqQ_ret ?_
          exact retQ_mk (by kernel_rfl) (by kernel_rfl) (by kernel_rfl)
        · replace h := ofF h6 h
          refine W_skip [] [] (fr' := []) (L' := []) (by kernel_rfl) (by kernel_rfl) ?_
          refine blockQ_norm ?_
          refine seqQ_norm ?_
          refine W_seq (by kernel_rfl) ?_
          refine W_run 1 [] [6] [] (fr' := [(6, aI (0 : Int))]) (L' := []) (obs := []) (by kernel_rfl) (by kernel_rfl) (by kernel_rfl) allP0 ?_
          refine seqQ_norm ?_
          obtain rfl := Option.some.inj h
          refine W_ret [6] [] (fr' := [(6, aI (0 : Int))]) (L' := []) (by kernel_rfl) (by kernel_rfl) ?_
          exact retQ_mk (by kernel_rfl) (by kernel_rfl) (by kernel_rfl)

def math_bits_OnesCount64 (a0 : Int) : Option Int :=
some (bAnd .i64 (w64 (IntKind.wrap .u64 ((IntKind.wrap .u64 ((IntKind.wrap .u64 ((bAnd .u64 (IntKind.wrap .u64 ((bShr .u64 (IntKind.wrap .u64 ((bAnd .u64 (bShr .u64 (IntKind.wrap .u64 ((bAnd .u64 (bShr .u64 a0 (1 : Int)) (6148914691236517205 : Int)) + (bAnd .u64 a0 (6148914691236517205 : Int)))) (2 : Int)) (3689348814741910323 : Int)) + (bAnd .u64 (IntKind.wrap .u64 ((bAnd .u64 (bShr .u64 a0 (1 : Int)) (6148914691236517205 : Int)) + (bAnd .u64 a0 (6148914691236517205 : Int)))) (3689348814741910323 : Int)))) (4 : Int)) + (IntKind.wrap .u64 ((bAnd .u64 (bShr .u64 (IntKind.wrap .u64 ((bAnd .u64 (bShr .u64 a0 (1 : Int)) (6148914691236517205 : Int)) + (bAnd .u64 a0 (6148914691236517205 : Int)))) (2 : Int)) (3689348814741910323 : Int)) + (bAnd .u64 (IntKind.wrap .u64 ((bAnd .u64 (bShr .u64 a0 (1 : Int)) (6148914691236517205 : Int)) + (bAnd .u64 a0 (6148914691236517205 : Int)))) (3689348814741910323 : Int)))))) (1085102592571150095 : Int)) + (bShr .u64 (bAnd .u64 (IntKind.wrap .u64 ((bShr .u64 (IntKind.wrap .u64 ((bAnd .u64 (bShr .u64 (IntKind.wrap .u64 ((bAnd .u64 (bShr .u64 a0 (1 : Int)) (6148914691236517205 : Int)) + (bAnd .u64 a0 (6148914691236517205 : Int)))) (2 : Int)) (3689348814741910323 : Int)) + (bAnd .u64 (IntKind.wrap .u64 ((bAnd .u64 (bShr .u64 a0 (1 : Int)) (6148914691236517205 : Int)) + (bAnd .u64 a0 (6148914691236517205 : Int)))) (3689348814741910323 : Int)))) (4 : Int)) + (IntKind.wrap .u64 ((bAnd .u64 (bShr .u64 (IntKind.wrap .u64 ((bAnd .u64 (bShr .u64 a0 (1 : Int)) (6148914691236517205 : Int)) + (bAnd .u64 a0 (6148914691236517205 : Int)))) (2 : Int)) (3689348814741910323 : Int)) + (bAnd .u64 (IntKind.wrap .u64 ((bAnd .u64 (bShr .u64 a0 (1 : Int)) (6148914691236517205 : Int)) + (bAnd .u64 a0 (6148914691236517205 : Int)))) (3689348814741910323 : Int)))))) (1085102592571150095 : Int)) (8 : Int)))) + (bShr .u64 (IntKind.wrap .u64 ((bAnd .u64 (IntKind.wrap .u64 ((bShr .u64 (IntKind.wrap .u64 ((bAnd .u64 (bShr .u64 (IntKind.wrap .u64 ((bAnd .u64 (bShr .u64 a0 (1 : Int)) (6148914691236517205 : Int)) + (bAnd .u64 a0 (6148914691236517205 : Int)))) (2 : Int)) (3689348814741910323 : Int)) + (bAnd .u64 (IntKind.wrap .u64 ((bAnd .u64 (bShr .u64 a0 (1 : Int)) (6148914691236517205 : Int)) + (bAnd .u64 a0 (6148914691236517205 : Int)))) (3689348814741910323 : Int)))) (4 : Int)) + (IntKind.wrap .u64 ((bAnd .u64 (bShr .u64 (IntKind.wrap .u64 ((bAnd .u64 (bShr .u64 a0 (1 : Int)) (6148914691236517205 : Int)) + (bAnd .u64 a0 (6148914691236517205 : Int)))) (2 : Int)) (3689348814741910323 : Int)) + (bAnd .u64 (IntKind.wrap .u64 ((bAnd .u64 (bShr .u64 a0 (1 : Int)) (6148914691236517205 : Int)) + (bAnd .u64 a0 (6148914691236517205 : Int)))) (3689348814741910323 : Int)))))) (1085102592571150095 : Int)) + (bShr .u64 (bAnd .u64 (IntKind.wrap .u64 ((bShr .u64 (IntKind.wrap .u64 ((bAnd .u64 (bShr .u64 (IntKind.wrap .u64 ((bAnd .u64 (bShr .u64 a0 (1 : Int)) (6148914691236517205 : Int)) + (bAnd .u64 a0 (6148914691236517205 : Int)))) (2 : Int)) (3689348814741910323 : Int)) + (bAnd .u64 (IntKind.wrap .u64 ((bAnd .u64 (bShr .u64 a0 (1 : Int)) (6148914691236517205 : Int)) + (bAnd .u64 a0 (6148914691236517205 : Int)))) (3689348814741910323 : Int)))) (4 : Int)) + (IntKind.wrap .u64 ((bAnd .u64 (bShr .u64 (IntKind.wrap .u64 ((bAnd .u64 (bShr .u64 a0 (1 : Int)) (6148914691236517205 : Int)) + (bAnd .u64 a0 (6148914691236517205 : Int)))) (2 : Int)) (3689348814741910323 : Int)) + (bAnd .u64 (IntKind.wrap .u64 ((bAnd .u64 (bShr .u64 a0 (1 : Int)) (6148914691236517205 : Int)) + (bAnd .u64 a0 (6148914691236517205 : Int)))) (3689348814741910323 : Int)))))) (1085102592571150095 : Int)) (8 : Int)))) (16 : Int)))) + (bShr .u64 (IntKind.wrap .u64 ((IntKind.wrap .u64 ((bAnd .u64 (IntKind.wrap .u64 ((bShr .u64 (IntKind.wrap .u64 ((bAnd .u64 (bShr .u64 (IntKind.wrap .u64 ((bAnd .u64 (bShr .u64 a0 (1 : Int)) (6148914691236517205 : Int)) + (bAnd .u64 a0 (6148914691236517205 : Int)))) (2 : Int)) (3689348814741910323 : Int)) + (bAnd .u64 (IntKind.wrap .u64 ((bAnd .u64 (bShr .u64 a0 (1 : Int)) (6148914691236517205 : Int)) + (bAnd .u64 a0 (6148914691236517205 : Int)))) (3689348814741910323 : Int)))) (4 : Int)) + (IntKind.wrap .u64 ((bAnd .u64 (bShr .u64 (IntKind.wrap .u64 ((bAnd .u64 (bShr .u64 a0 (1 : Int)) (6148914691236517205 : Int)) + (bAnd .u64 a0 (6148914691236517205 : Int)))) (2 : Int)) (3689348814741910323 : Int)) + (bAnd .u64 (IntKind.wrap .u64 ((bAnd .u64 (bShr .u64 a0 (1 : Int)) (6148914691236517205 : Int)) + (bAnd .u64 a0 (6148914691236517205 : Int)))) (3689348814741910323 : Int)))))) (1085102592571150095 : Int)) + (bShr .u64 (bAnd .u64 (IntKind.wrap .u64 ((bShr .u64 (IntKind.wrap .u64 ((bAnd .u64 (bShr .u64 (IntKind.wrap .u64 ((bAnd .u64 (bShr .u64 a0 (1 : Int)) (6148914691236517205 : Int)) + (bAnd .u64 a0 (6148914691236517205 : Int)))) (2 : Int)) (3689348814741910323 : Int)) + (bAnd .u64 (IntKind.wrap .u64 ((bAnd .u64 (bShr .u64 a0 (1 : Int)) (6148914691236517205 : Int)) + (bAnd .u64 a0 (6148914691236517205 : Int)))) (3689348814741910323 : Int)))) (4 : Int)) + (IntKind.wrap .u64 ((bAnd .u64 (bShr .u64 (IntKind.wrap .u64 ((bAnd .u64 (bShr .u64 a0 (1 : Int)) (6148914691236517205 : Int)) + (bAnd .u64 a0 (6148914691236517205 : Int)))) (2 : Int)) (3689348814741910323 : Int)) + (bAnd .u64 (IntKind.wrap .u64 ((bAnd .u64 (bShr .u64 a0 (1 : Int)) (6148914691236517205 : Int)) + (bAnd .u64 a0 (6148914691236517205 : Int)))) (3689348814741910323 : Int)))))) (1085102592571150095 : Int)) (8 : Int)))) + (bShr .u64 (IntKind.wrap .u64 ((bAnd .u64 (IntKind.wrap .u64 ((bShr .u64 (IntKind.wrap .u64 ((bAnd .u64 (bShr .u64 (IntKind.wrap .u64 ((bAnd .u64 (bShr .u64 a0 (1 : Int)) (6148914691236517205 : Int)) + (bAnd .u64 a0 (6148914691236517205 : Int)))) (2 : Int)) (3689348814741910323 : Int)) + (bAnd .u64 (IntKind.wrap .u64 ((bAnd .u64 (bShr .u64 a0 (1 : Int)) (6148914691236517205 : Int)) + (bAnd .u64 a0 (6148914691236517205 : Int)))) (3689348814741910323 : Int)))) (4 : Int)) + (IntKind.wrap .u64 ((bAnd .u64 (bShr .u64 (IntKind.wrap .u64 ((bAnd .u64 (bShr .u64 a0 (1 : Int)) (6148914691236517205 : Int)) + (bAnd .u64 a0 (6148914691236517205 : Int)))) (2 : Int)) (3689348814741910323 : Int)) + (bAnd .u64 (IntKind.wrap .u64 ((bAnd .u64 (bShr .u64 a0 (1 : Int)) (6148914691236517205 : Int)) + (bAnd .u64 a0 (6148914691236517205 : Int)))) (3689348814741910323 : Int)))))) (1085102592571150095 : Int)) + (bShr .u64 (bAnd .u64 (IntKind.wrap .u64 ((bShr .u64 (IntKind.wrap .u64 ((bAnd .u64 (bShr .u64 (IntKind.wrap .u64 ((bAnd .u64 (bShr .u64 a0 (1 : Int)) (6148914691236517205 : Int)) + (bAnd .u64 a0 (6148914691236517205 : Int)))) (2 : Int)) (3689348814741910323 : Int)) + (bAnd .u64 (IntKind.wrap .u64 ((bAnd .u64 (bShr .u64 a0 (1 : Int)) (6148914691236517205 : Int)) + (bAnd .u64 a0 (6148914691236517205 : Int)))) (3689348814741910323 : Int)))) (4 : Int)) + (IntKind.wrap .u64 ((bAnd .u64 (bShr .u64 (IntKind.wrap .u64 ((bAnd .u64 (bShr .u64 a0 (1 : Int)) (6148914691236517205 : Int)) + (bAnd .u64 a0 (6148914691236517205 : Int)))) (2 : Int)) (3689348814741910323 : Int)) + (bAnd .u64 (IntKind.wrap .u64 ((bAnd .u64 (bShr .u64 a0 (1 : Int)) (6148914691236517205 : Int)) + (bAnd .u64 a0 (6148914691236517205 : Int)))) (3689348814741910323 : Int)))))) (1085102592571150095 : Int)) (8 : Int)))) (16 : Int)))) (32 : Int))))) (127 : Int))
theorem math_bits_OnesCount64_ok {a0 : Int} {r : Int} (h : math_bits_OnesCount64 a0 = some r) : FnC Try.prog 49 [aD (.int .u64) a0] [] (aI r) [] := by
  refine fnC_of_W (B := bodyOf Try.f49) (n := 35) Try.func49 (by kernel_rfl) (by kernel_rfl) (by kernel_rfl) (by kernel_rfl) (by kernel_rfl) ?_
  intro K
  refine W_seq (by kernel_rfl) ?_
  refine W_run 1 [] [0] [] (fr' := [(0, aD (.int .u64) a0)]) (L' := []) (obs := []) (by kernel_rfl) (by kernel_rfl) (by kernel_rfl) allP0 ?_
  refine seqQ_norm ?_
  refine W_seq (by kernel_rfl) ?_
  refine W_run 7 [] [0] [] (fr' := [(0, aD (.int .u64) (IntKind.wrap .u64 ((bAnd .u64 (bShr .u64 a0 (1 : Int)) (6148914691236517205 : Int)) + (bAnd .u64 a0 (6148914691236517205 : Int)))))]) (L' := []) (obs := [(0 ≤ (1 : Int))]) (by kernel_rfl) (by kernel_rfl) (by kernel_rfl) (allP1 (by decide)) ?_
  refine seqQ_norm ?_
  refine W_seq (by kernel_rfl) ?_
  refine W_run 7 [] [0] [] (fr' := [(0, aD (.int .u64) (IntKind.wrap .u64 ((bAnd .u64 (bShr .u64 (IntKind.wrap .u64 ((bAnd .u64 (bShr .u64 a0 (1 : Int)) (6148914691236517205 : Int)) + (bAnd .u64 a0 (6148914691236517205 : Int)))) (2 : Int)) (3689348814741910323 : Int)) + (bAnd .u64 (IntKind.wrap .u64 ((bAnd .u64 (bShr .u64 a0 (1 : Int)) (6148914691236517205 : Int)) + (bAnd .u64 a0 (6148914691236517205 : Int)))) (3689348814741910323 : Int)))))]) (L' := []) (obs := [(0 ≤ (2 : Int))]) (by kernel_rfl) (by kernel_rfl) (by kernel_rfl) (allP1 (by decide)) ?_
  refine seqQ_norm ?_
  refine W_seq (by kernel_rfl) ?_
  refine W_run 6 [] [0] [] (fr' := [(0, aD (.int .u64) (bAnd .u64 (IntKind.wrap .u64 ((bShr .u64 (IntKind.wrap .u64 ((bAnd .u64 (bShr .u64 (IntKind.wrap .u64 ((bAnd .u64 (bShr .u64 a0 (1 : Int)) (6148914691236517205 : Int)) + (bAnd .u64 a0 (6148914691236517205 : Int)))) (2 : Int)) (3689348814741910323 : Int)) + (bAnd .u64 (IntKind.wrap .u64 ((bAnd .u64 (bShr .u64 a0 (1 : Int)) (6148914691236517205 : Int)) + (bAnd .u64 a0 (6148914691236517205 : Int)))) (3689348814741910323 : Int)))) (4 : Int)) + (IntKind.wrap .u64 ((bAnd .u64 (bShr .u64 (IntKind.wrap .u64 ((bAnd .u64 (bShr .u64 a0 (1 : Int)) (6148914691236517205 : Int)) + (bAnd .u64 a0 (6148914691236517205 : Int)))) (2 : Int)) (3689348814741910323 : Int)) + (bAnd .u64 (IntKind.wrap .u64 ((bAnd .u64 (bShr .u64 a0 (1 : Int)) (6148914691236517205 : Int)) + (bAnd .u64 a0 (6148914691236517205 : Int)))) (3689348814741910323 : Int)))))) (1085102592571150095 : Int)))]) (L' := []) (obs := [(0 ≤ (4 : Int))]) (by kernel_rfl) (by kernel_rfl) (by kernel_rfl) (allP1 (by decide)) ?_
  refine seqQ_norm ?_
  refine W_seq (by kernel_rfl) ?_
  refine W_run 5 [] [0] [] (fr' := [(0, aD (.int .u64) (IntKind.wrap .u64 ((bAnd .u64 (IntKind.wrap .u64 ((bShr .u64 (IntKind.wrap .u64 ((bAnd .u64 (bShr .u64 (IntKind.wrap .u64 ((bAnd .u64 (bShr .u64 a0 (1 : Int)) (6148914691236517205 : Int)) + (bAnd .u64 a0 (6148914691236517205 : Int)))) (2 : Int)) (3689348814741910323 : Int)) + (bAnd .u64 (IntKind.wrap .u64 ((bAnd .u64 (bShr .u64 a0 (1 : Int)) (6148914691236517205 : Int)) + (bAnd .u64 a0 (6148914691236517205 : Int)))) (3689348814741910323 : Int)))) (4 : Int)) + (IntKind.wrap .u64 ((bAnd .u64 (bShr .u64 (IntKind.wrap .u64 ((bAnd .u64 (bShr .u64 a0 (1 : Int)) (6148914691236517205 : Int)) + (bAnd .u64 a0 (6148914691236517205 : Int)))) (2 : Int)) (3689348814741910323 : Int)) + (bAnd .u64 (IntKind.wrap .u64 ((bAnd .u64 (bShr .u64 a0 (1 : Int)) (6148914691236517205 : Int)) + (bAnd .u64 a0 (6148914691236517205 : Int)))) (3689348814741910323 : Int)))))) (1085102592571150095 : Int)) + (bShr .u64 (bAnd .u64 (IntKind.wrap .u64 ((bShr .u64 (IntKind.wrap .u64 ((bAnd .u64 (bShr .u64 (IntKind.wrap .u64 ((bAnd .u64 (bShr .u64 a0 (1 : Int)) (6148914691236517205 : Int)) + (bAnd .u64 a0 (6148914691236517205 : Int)))) (2 : Int)) (3689348814741910323 : Int)) + (bAnd .u64 (IntKind.wrap .u64 ((bAnd .u64 (bShr .u64 a0 (1 : Int)) (6148914691236517205 : Int)) + (bAnd .u64 a0 (6148914691236517205 : Int)))) (3689348814741910323 : Int)))) (4 : Int)) + (IntKind.wrap .u64 ((bAnd .u64 (bShr .u64 (IntKind.wrap .u64 ((bAnd .u64 (bShr .u64 a0 (1 : Int)) (6148914691236517205 : Int)) + (bAnd .u64 a0 (6148914691236517205 : Int)))) (2 : Int)) (3689348814741910323 : Int)) + (bAnd .u64 (IntKind.wrap .u64 ((bAnd .u64 (bShr .u64 a0 (1 : Int)) (6148914691236517205 : Int)) + (bAnd .u64 a0 (6148914691236517205 : Int)))) (3689348814741910323 : Int)))))) (1085102592571150095 : Int)) (8 : Int)))))]) (L' := []) (obs := [(0 ≤ (8 : Int))]) (by kernel_rfl) (by kernel_rfl) (by kernel_rfl) (allP1 (by decide)) ?_
  refine seqQ_norm ?_
  refine W_seq (by kernel_rfl) ?_
  refine W_run 5 [] [0] [] (fr' := [(0, aD (.int .u64) (IntKind.wrap .u64 ((IntKind.wrap .u64 ((bAnd .u64 (IntKind.wrap .u64 ((bShr .u64 (IntKind.wrap .u64 ((bAnd .u64 (bShr .u64 (IntKind.wrap .u64 ((bAnd .u64 (bShr .u64 a0 (1 : Int)) (6148914691236517205 : Int)) + (bAnd .u64 a0 (6148914691236517205 : Int)))) (2 : Int)) (3689348814741910323 : Int)) + (bAnd .u64 (IntKind.wrap .u64 ((bAnd .u64 (bShr .u64 a0 (1 : Int)) (6148914691236517205 : Int)) + (bAnd .u64 a0 (6148914691236517205 : Int)))) (3689348814741910323 : Int)))) (4 : Int)) + (IntKind.wrap .u64 ((bAnd .u64 (bShr .u64 (IntKind.wrap .u64 ((bAnd .u64 (bShr .u64 a0 (1 : Int)) (6148914691236517205 : Int)) + (bAnd .u64 a0 (6148914691236517205 : Int)))) (2 : Int)) (3689348814741910323 : Int)) + (bAnd .u64 (IntKind.wrap .u64 ((bAnd .u64 (bShr .u64 a0 (1 : Int)) (6148914691236517205 : Int)) + (bAnd .u64 a0 (6148914691236517205 : Int)))) (3689348814741910323 : Int)))))) (1085102592571150095 : Int)) + (bShr .u64 (bAnd .u64 (IntKind.wrap .u64 ((bShr .u64 (IntKind.wrap .u64 ((bAnd .u64 (bShr .u64 (IntKind.wrap .u64 ((bAnd .u64 (bShr .u64 a0 (1 : Int)) (6148914691236517205 : Int)) + (bAnd .u64 a0 (6148914691236517205 : Int)))) (2 : Int)) (3689348814741910323 : Int)) + (bAnd .u64 (IntKind.wrap .u64 ((bAnd .u64 (bShr .u64 a0 (1 : Int)) (6148914691236517205 : Int)) + (bAnd .u64 a0 (6148914691236517205 : Int)))) (3689348814741910323 : Int)))) (4 : Int)) + (IntKind.wrap .u64 ((bAnd .u64 (bShr .u64 (IntKind.wrap .u64 ((bAnd .u64 (bShr .u64 a0 (1 : Int)) (6148914691236517205 : Int)) + (bAnd .u64 a0 (6148914691236517205 : Int)))) (2 : Int)) (3689348814741910323 : Int)) + (bAnd .u64 (IntKind.wrap .u64 ((bAnd .u64 (bShr .u64 a0 (1 : Int)) (6148914691236517205 : Int)) + (bAnd .u64 a0 (6148914691236517205 : Int)))) (3689348814741910323 : Int)))))) (1085102592571150095 : Int)) (8 : Int)))) + (bShr .u64 (IntKind.wrap .u64 ((bAnd .u64 (IntKind.wrap .u64 ((bShr .u64 (IntKind.wrap .u64 ((bAnd .u64 (bShr .u64 (IntKind.wrap .u64 ((bAnd .u64 (bShr .u64 a0 (1 : Int)) (6148914691236517205 : Int)) + (bAnd .u64 a0 (6148914691236517205 : Int)))) (2 : Int)) (3689348814741910323 : Int)) + (bAnd .u64 (IntKind.wrap .u64 ((bAnd .u64 (bShr .u64 a0 (1 : Int)) (6148914691236517205 : Int)) + (bAnd .u64 a0 (6148914691236517205 : Int)))) (3689348814741910323 : Int)))) (4 : Int)) + (IntKind.wrap .u64 ((bAnd .u64 (bShr .u64 (IntKind.wrap .u64 ((bAnd .u64 (bShr .u64 a0 (1 : Int)) (6148914691236517205 : Int)) + (bAnd .u64 a0 (6148914691236517205 : Int)))) (2 : Int)) (3689348814741910323 : Int)) + (bAnd .u64 (IntKind.wrap .u64 ((bAnd .u64 (bShr .u64 a0 (1 : Int)) (6148914691236517205 : Int)) + (bAnd .u64 a0 (6148914691236517205 : Int)))) (3689348814741910323 : Int)))))) (1085102592571150095 : Int)) + (bShr .u64 (bAnd .u64 (IntKind.wrap .u64 ((bShr .u64 (IntKind.wrap .u64 ((bAnd .u64 (bShr .u64 (IntKind.wrap .u64 ((bAnd .u64 (bShr .u64 a0 (1 : Int)) (6148914691236517205 : Int)) + (bAnd .u64 a0 (6148914691236517205 : Int)))) (2 : Int)) (3689348814741910323 : Int)) + (bAnd .u64 (IntKind.wrap .u64 ((bAnd .u64 (bShr .u64 a0 (1 : Int)) (6148914691236517205 : Int)) + (bAnd .u64 a0 (6148914691236517205 : Int)))) (3689348814741910323 : Int)))) (4 : Int)) + (IntKind.wrap .u64 ((bAnd .u64 (bShr .u64 (IntKind.wrap .u64 ((bAnd .u64 (bShr .u64 a0 (1 : Int)) (6148914691236517205 : Int)) + (bAnd .u64 a0 (6148914691236517205 : Int)))) (2 : Int)) (3689348814741910323 : Int)) + (bAnd .u64 (IntKind.wrap .u64 ((bAnd .u64 (bShr .u64 a0 (1 : Int)) (6148914691236517205 : Int)) + (bAnd .u64 a0 (6148914691236517205 : Int)))) (3689348814741910323 : Int)))))) (1085102592571150095 : Int)) (8 : Int)))) (16 : Int)))))]) (L' := []) (obs := [(0 ≤ (16 : Int))]) (by kernel_rfl) (by kernel_rfl) (by kernel_rfl) (allP1 (by decide)) ?_
  refine seqQ_norm ?_
  refine W_seq (by kernel_rfl) ?_
  refine W_run 5 [] [0] [] (fr' := [(0, aD (.int .u64) (IntKind.wrap .u64 ((IntKind.wrap .u64 ((IntKind.wrap .u64 ((bAnd .u64 (IntKind.wrap .u64 ((bShr .u64 (IntKind.wrap .u64 ((bAnd .u64 (bShr .u64 (IntKind.wrap .u64 ((bAnd .u64 (bShr .u64 a0 (1 : Int)) (6148914691236517205 : Int)) + (bAnd .u64 a0 (6148914691236517205 : Int)))) (2 : Int)) (3689348814741910323 : Int)) + (bAnd .u64 (IntKind.wrap .u64 ((bAnd .u64 (bShr .u64 a0 (1 : Int)) (6148914691236517205 : Int)) + (bAnd .u64 a0 (6148914691236517205 : Int)))) (3689348814741910323 : Int)))) (4 : Int)) + (IntKind.wrap .u64 ((bAnd .u64 (bShr .u64 (IntKind.wrap .u64 ((bAnd .u64 (bShr .u64 a0 (1 : Int)) (6148914691236517205 : Int)) + (bAnd .u64 a0 (6148914691236517205 : Int)))) (2 : Int)) (3689348814741910323 : Int)) + (bAnd .u64 (IntKind.wrap .u64 ((bAnd .u64 (bShr .u64 a0 (1 : Int)) (6148914691236517205 : Int)) + (bAnd .u64 a0 (6148914691236517205 : Int)))) (3689348814741910323 : Int)))))) (1085102592571150095 : Int)) + (bShr .u64 (bAnd .u64 (IntKind.wrap .u64 ((bShr .u64 (IntKind.wrap .u64 ((bAnd .u64 (bShr .u64 (IntKind.wrap .u64 ((bAnd .u64 (bShr .u64 a0 (1 : Int)) (6148914691236517205 : Int)) + (bAnd .u64 a0 (6148914691236517205 : Int)))) (2 : Int)) (3689348814741910323 : Int)) + (bAnd .u64 (IntKind.wrap .u64 ((bAnd .u64 (bShr .u64 a0 (1 : Int)) (6148914691236517205 : Int)) + (bAnd .u64 a0 (6148914691236517205 : Int)))) (3689348814741910323 : Int)))) (4 : Int)) + (IntKind.wrap .u64 ((bAnd .u64 (bShr .u64 (IntKind.wrap .u64 ((bAnd .u64 (bShr .u64 a0 (1 : Int)) (6148914691236517205 : Int)) + (bAnd .u64 a0 (6148914691236517205 : Int)))) (2 : Int)) (3689348814741910323 : Int)) + (bAnd .u64 (IntKind.wrap .u64 ((bAnd .u64 (bShr .u64 a0 (1 : Int)) (6148914691236517205 : Int)) + (bAnd .u64 a0 (6148914691236517205 : Int)))) (3689348814741910323 : Int)))))) (1085102592571150095 : Int)) (8 : Int)))) + (bShr .u64 (IntKind.wrap .u64 ((bAnd .u64 (IntKind.wrap .u64 ((bShr .u64 (IntKind.wrap .u64 ((bAnd .u64 (bShr .u64 (IntKind.wrap .u64 ((bAnd .u64 (bShr .u64 a0 (1 : Int)) (6148914691236517205 : Int)) + (bAnd .u64 a0 (6148914691236517205 : Int)))) (2 : Int)) (3689348814741910323 : Int)) + (bAnd .u64 (IntKind.wrap .u64 ((bAnd .u64 (bShr .u64 a0 (1 : Int)) (6148914691236517205 : Int)) + (bAnd .u64 a0 (6148914691236517205 : Int)))) (3689348814741910323 : Int)))) (4 : Int)) + (IntKind.wrap .u64 ((bAnd .u64 (bShr .u64 (IntKind.wrap .u64 ((bAnd .u64 (bShr .u64 a0 (1 : Int)) (6148914691236517205 : Int)) + (bAnd .u64 a0 (6148914691236517205 : Int)))) (2 : Int)) (3689348814741910323 : Int)) + (bAnd .u64 (IntKind.wrap .u64 ((bAnd .u64 (bShr .u64 a0 (1 : Int)) (6148914691236517205 : Int)) + (bAnd .u64 a0 (6148914691236517205 : Int)))) (3689348814741910323 : Int)))))) (1085102592571150095 : Int)) + (bShr .u64 (bAnd .u64 (IntKind.wrap .u64 ((bShr .u64 (IntKind.wrap .u64 ((bAnd .u64 (bShr .u64 (IntKind.wrap .u64 ((bAnd .u64 (bShr .u64 a0 (1 : Int)) (6148914691236517205 : Int)) + (bAnd .u64 a0 (6148914691236517205 : Int)))) (2 : Int)) (3689348814741910323 : Int)) + (bAnd .u64 (IntKind.wrap .u64 ((bAnd .u64 (bShr .u64 a0 (1 : Int)) (6148914691236517205 : Int)) + (bAnd .u64 a0 (6148914691236517205 : Int)))) (3689348814741910323 : Int)))) (4 : Int)) + (IntKind.wrap .u64 ((bAnd .u64 (bShr .u64 (IntKind.wrap .u64 ((bAnd .u64 (bShr .u64 a0 (1 : Int)) (6148914691236517205 : Int)) + (bAnd .u64 a0 (6148914691236517205 : Int)))) (2 : Int)) (3689348814741910323 : Int)) + (bAnd .u64 (IntKind.wrap .u64 ((bAnd .u64 (bShr .u64 a0 (1 : Int)) (6148914691236517205 : Int)) + (bAnd .u64 a0 (6148914691236517205 : Int)))) (3689348814741910323 : Int)))))) (1085102592571150095 : Int)) (8 : Int)))) (16 : Int)))) + (bShr .u64 (IntKind.wrap .u64 ((IntKind.wrap .u64 ((bAnd .u64 (IntKind.wrap .u64 ((bShr .u64 (IntKind.wrap .u64 ((bAnd .u64 (bShr .u64 (IntKind.wrap .u64 ((bAnd .u64 (bShr .u64 a0 (1 : Int)) (6148914691236517205 : Int)) + (bAnd .u64 a0 (6148914691236517205 : Int)))) (2 : Int)) (3689348814741910323 : Int)) + (bAnd .u64 (IntKind.wrap .u64 ((bAnd .u64 (bShr .u64 a0 (1 : Int)) (6148914691236517205 : Int)) + (bAnd .u64 a0 (6148914691236517205 : Int)))) (3689348814741910323 : Int)))) (4 : Int)) + (IntKind.wrap .u64 ((bAnd .u64 (bShr .u64 (IntKind.wrap .u64 ((bAnd .u64 (bShr .u64 a0 (1 : Int)) (6148914691236517205 : Int)) + (bAnd .u64 a0 (6148914691236517205 : Int)))) (2 : Int)) (3689348814741910323 : Int)) + (bAnd .u64 (IntKind.wrap .u64 ((bAnd .u64 (bShr .u64 a0 (1 : Int)) (6148914691236517205 : Int)) + (bAnd .u64 a0 (6148914691236517205 : Int)))) (3689348814741910323 : Int)))))) (1085102592571150095 : Int)) + (bShr .u64 (bAnd .u64 (IntKind.wrap .u64 ((bShr .u64 (IntKind.wrap .u64 ((bAnd .u64 (bShr .u64 (IntKind.wrap .u64 ((bAnd .u64 (bShr .u64 a0 (1 : Int)) (6148914691236517205 : Int)) + (bAnd .u64 a0 (6148914691236517205 : Int)))) (2 : Int)) (3689348814741910323 : Int)) + (bAnd .u64 (IntKind.wrap .u64 ((bAnd .u64 (bShr .u64 a0 (1 : Int)) (6148914691236517205 : Int)) + (bAnd .u64 a0 (6148914691236517205 : Int)))) (3689348814741910323 : Int)))) (4 : Int)) + (IntKind.wrap .u64 ((bAnd .u64 (bShr .u64 (IntKind.wrap .u64 ((bAnd .u64 (bShr .u64 a0 (1 : Int)) (6148914691236517205 : Int)) + (bAnd .u64 a0 (6148914691236517205 : Int)))) (2 : Int)) (3689348814741910323 : Int)) + (bAnd .u64 (IntKind.wrap .u64 ((bAnd .u64 (bShr .u64 a0 (1 : Int)) (6148914691236517205 : Int)) + (bAnd .u64 a0 (6148914691236517205 : Int)))) (3689348814741910323 : Int)))))) (1085102592571150095 : Int)) (8 : Int)))) + (bShr .u64 (IntKind.wrap .u64 ((bAnd .u64 (IntKind.wrap .u64 ((bShr .u64 (IntKind.wrap .u64 ((bAnd .u64 (bShr .u64 (IntKind.wrap .u64 ((bAnd .u64 (bShr .u64 a0 (1 : Int)) (6148914691236517205 : Int)) + (bAnd .u64 a0 (6148914691236517205 : Int)))) (2 : Int)) (3689348814741910323 : Int)) + (bAnd .u64 (IntKind.wrap .u64 ((bAnd .u64 (bShr .u64 a0 (1 : Int)) (6148914691236517205 : Int)) + (bAnd .u64 a0 (6148914691236517205 : Int)))) (3689348814741910323 : Int)))) (4 : Int)) + (IntKind.wrap .u64 ((bAnd .u64 (bShr .u64 (IntKind.wrap .u64 ((bAnd .u64 (bShr .u64 a0 (1 : Int)) (6148914691236517205 : Int)) + (bAnd .u64 a0 (6148914691236517205 : Int)))) (2 : Int)) (3689348814741910323 : Int)) + (bAnd .u64 (IntKind.wrap .u64 ((bAnd .u64 (bShr .u64 a0 (1 : Int)) (6148914691236517205 : Int)) + (bAnd .u64 a0 (6148914691236517205 : Int)))) (3689348814741910323 : Int)))))) (1085102592571150095 : Int)) + (bShr .u64 (bAnd .u64 (IntKind.wrap .u64 ((bShr .u64 (IntKind.wrap .u64 ((bAnd .u64 (bShr .u64 (IntKind.wrap .u64 ((bAnd .u64 (bShr .u64 a0 (1 : Int)) (6148914691236517205 : Int)) + (bAnd .u64 a0 (6148914691236517205 : Int)))) (2 : Int)) (3689348814741910323 : Int)) + (bAnd .u64 (IntKind.wrap .u64 ((bAnd .u64 (bShr .u64 a0 (1 : Int)) (6148914691236517205 : Int)) + (bAnd .u64 a0 (6148914691236517205 : Int)))) (3689348814741910323 : Int)))) (4 : Int)) + (IntKind.wrap .u64 ((bAnd .u64 (bShr .u64 (IntKind.wrap .u64 ((bAnd .u64 (bShr .u64 a0 (1 : Int)) (6148914691236517205 : Int)) + (bAnd .u64 a0 (6148914691236517205 : Int)))) (2 : Int)) (3689348814741910323 : Int)) + (bAnd .u64 (IntKind.wrap .u64 ((bAnd .u64 (bShr .u64 a0 (1 : Int)) (6148914691236517205 : Int)) + (bAnd .u64 a0 (6148914691236517205 : Int)))) (3689348814741910323 : Int)))))) (1085102592571150095 : Int)) (8 : Int)))) (16 : Int)))) (32 : Int)))))]) (L' := []) (obs := [(0 ≤ (32 : Int))]) (by kernel_rfl) (by kernel_rfl) (by kernel_rfl) (allP1 (by decide)) ?_
  refine seqQ_norm ?_
  refine W_seq (by kernel_rfl) ?_
  refine W_run 4 [] [2] [] (fr' := [(2, aI (bAnd .i64 (w64 (IntKind.wrap .u64 ((IntKind.wrap .u64 ((IntKind.wrap .u64 ((bAnd .u64 (IntKind.wrap .u64 ((bShr .u64 (IntKind.wrap .u64 ((bAnd .u64 (bShr .u64 (IntKind.wrap .u64 ((bAnd .u64 (bShr .u64 a0 (1 : Int)) (6148914691236517205 : Int)) + (bAnd .u64 a0 (6148914691236517205 : Int)))) (2 : Int)) (3689348814741910323 : Int)) + (bAnd .u64 (IntKind.wrap .u64 ((bAnd .u64 (bShr .u64 a0 (1 : Int)) (6148914691236517205 : Int)) + (bAnd .u64 a0 (6148914691236517205 : Int)))) (3689348814741910323 : Int)))) (4 : Int)) + (IntKind.wrap .u64 ((bAnd .u64 (bShr .u64 (IntKind.wrap .u64 ((bAnd .u64 (bShr .u64 a0 (1 : Int)) (6148914691236517205 : Int)) + (bAnd .u64 a0 (6148914691236517205 : Int)))) (2 : Int)) (3689348814741910323 : Int)) + (bAnd .u64 (IntKind.wrap .u64 ((bAnd .u64 (bShr .u64 a0 (1 : Int)) (6148914691236517205 : Int)) + (bAnd .u64 a0 (6148914691236517205 : Int)))) (3689348814741910323 : Int)))))) (1085102592571150095 : Int)) + (bShr .u64 (bAnd .u64 (IntKind.wrap .u64 ((bShr .u64 (IntKind.wrap .u64 ((bAnd .u64 (bShr .u64 (IntKind.wrap .u64 ((bAnd .u64 (bShr .u64 a0 (1 : Int)) (6148914691236517205 : Int)) + (bAnd .u64 a0 (6148914691236517205 : Int)))) (2 : Int)) (3689348814741910323 : Int)) + (bAnd .u64 (IntKind.wrap .u64 ((bAnd .u64 (bShr .u64 a0 (1 : Int)) (6148914691236517205 : Int)) + (bAnd .u64 a0 (6148914691236517205 : Int)))) (3689348814741910323 : Int)))) (4 : Int)) + (IntKind.wrap .u64 ((bAnd .u64 (bShr .u64 (IntKind.wrap .u64 ((bAnd .u64 (bShr .u64 a0 (1 : Int)) (6148914691236517205 : Int)) + (bAnd .u64 a0 (6148914691236517205 : Int)))) (2 : Int)) (3689348814741910323 : Int)) + (bAnd .u64 (IntKind.wrap .u64 ((bAnd .u64 (bShr .u64 a0 (1 : Int)) (6148914691236517205 : Int)) + (bAnd .u64 a0 (6148914691236517205 : Int)))) (3689348814741910323 : Int)))))) (1085102592571150095 : Int)) (8 : Int)))) + (bShr .u64 (IntKind.wrap .u64 ((bAnd .u64 (IntKind.wrap .u64 ((bShr .u64 (IntKind.wrap .u64 ((bAnd .u64 (bShr .u64 (IntKind.wrap .u64 ((bAnd .u64 (bShr .u64 a0 (1 : Int)) (6148914691236517205 : Int)) + (bAnd .u64 a0 (6148914691236517205 : Int)))) (2 : Int)) (3689348814741910323 : Int)) + (bAnd .u64 (IntKind.wrap .u64 ((bAnd .u64 (bShr .u64 a0 (1 : Int)) (6148914691236517205 : Int)) + (bAnd .u64 a0 (6148914691236517205 : Int)))) (3689348814741910323 : Int)))) (4 : Int)) + (IntKind.wrap .u64 ((bAnd .u64 (bShr .u64 (IntKind.wrap .u64 ((bAnd .u64 (bShr .u64 a0 (1 : Int)) (6148914691236517205 : Int)) + (bAnd .u64 a0 (6148914691236517205 : Int)))) (2 : Int)) (3689348814741910323 : Int)) + (bAnd .u64 (IntKind.wrap .u64 ((bAnd .u64 (bShr .u64 a0 (1 : Int)) (6148914691236517205 : Int)) + (bAnd .u64 a0 (6148914691236517205 : Int)))) (3689348814741910323 : Int)))))) (1085102592571150095 : Int)) + (bShr .u64 (bAnd .u64 (IntKind.wrap .u64 ((bShr .u64 (IntKind.wrap .u64 ((bAnd .u64 (bShr .u64 (IntKind.wrap .u64 ((bAnd .u64 (bShr .u64 a0 (1 : Int)) (6148914691236517205 : Int)) + (bAnd .u64 a0 (6148914691236517205 : Int)))) (2 : Int)) (3689348814741910323 : Int)) + (bAnd .u64 (IntKind.wrap .u64 ((bAnd .u64 (bShr .u64 a0 (1 : Int)) (6148914691236517205 : Int)) + (bAnd .u64 a0 (6148914691236517205 : Int)))) (3689348814741910323 : Int)))) (4 : Int)) + (IntKind.wrap .u64 ((bAnd .u64 (bShr .u64 (IntKind.wrap .u64 ((bAnd .u64 (bShr .u64 a0 (1 : Int)) (6148914691236517205 : Int)) + (bAnd .u64 a0 (6148914691236517205 : Int)))) (2 : Int)) (3689348814741910323 : Int)) + (bAnd .u64 (IntKind.wrap .u64 ((bAnd .u64 (bShr .u64 a0 (1 : Int)) (6148914691236517205 : Int)) + (bAnd .u64 a0 (6148914691236517205 : Int)))) (3689348814741910323 : Int)))))) (1085102592571150095 : Int)) (8 : Int)))) (16 : Int)))) + (bShr .u64 (IntKind.wrap .u64 ((IntKind.wrap .u64 ((bAnd .u64 (IntKind.wrap .u64 ((bShr .u64 (IntKind.wrap .u64 ((bAnd .u64 (bShr .u64 (IntKind.wrap .u64 ((bAnd .u64 (bShr .u64 a0 (1 : Int)) (6148914691236517205 : Int)) + (bAnd .u64 a0 (6148914691236517205 : Int)))) (2 : Int)) (3689348814741910323 : Int)) + (bAnd .u64 (IntKind.wrap .u64 ((bAnd .u64 (bShr .u64 a0 (1 : Int)) (6148914691236517205 : Int)) + (bAnd .u64 a0 (6148914691236517205 : Int)))) (3689348814741910323 : Int)))) (4 : Int)) + (IntKind.wrap .u64 ((bAnd .u64 (bShr .u64 (IntKind.wrap .u64 ((bAnd .u64 (bShr .u64 a0 (1 : Int)) (6148914691236517205 : Int)) + (bAnd .u64 a0 (6148914691236517205 : Int)))) (2 : Int)) (3689348814741910323 : Int)) + (bAnd .u64 (IntKind.wrap .u64 ((bAnd .u64 (bShr .u64 a0 (1 : Int)) (6148914691236517205 : Int)) + (bAnd .u64 a0 (6148914691236517205 : Int)))) (3689348814741910323 : Int)))))) (1085102592571150095 : Int)) + (bShr .u64 (bAnd .u64 (IntKind.wrap .u64 ((bShr .u64 (IntKind.wrap .u64 ((bAnd .u64 (bShr .u64 (IntKind.wrap .u64 ((bAnd .u64 (bShr .u64 a0 (1 : Int)) (6148914691236517205 : Int)) + (bAnd .u64 a0 (6148914691236517205 : Int)))) (2 : Int)) (3689348814741910323 : Int)) + (bAnd .u64 (IntKind.wrap .u64 ((bAnd .u64 (bShr .u64 a0 (1 : Int)) (6148914691236517205 : Int)) + (bAnd .u64 a0 (6148914691236517205 : Int)))) (3689348814741910323 : Int)))) (4 : Int)) + (IntKind.wrap .u64 ((bAnd .u64 (bShr .u64 (IntKind.wrap .u64 ((bAnd .u64 (bShr .u64 a0 (1 : Int)) (6148914691236517205 : Int)) + (bAnd .u64 a0 (6148914691236517205 : Int)))) (2 : Int)) (3689348814741910323 : Int)) + (bAnd .u64 (IntKind.wrap .u64 ((bAnd .u64 (bShr .u64 a0 (1 : Int)) (6148914691236517205 : Int)) + (bAnd .u64 a0 (6148914691236517205 : Int)))) (3689348814741910323 : Int)))))) (1085102592571150095 : Int)) (8 : Int)))) + (bShr .u64 (IntKind.wrap .u64 ((bAnd .u64 (IntKind.wrap .u64 ((bShr .u64 (IntKind.wrap .u64 ((bAnd .u64 (bShr .u64 (IntKind.wrap .u64 ((bAnd .u64 (bShr .u64 a0 (1 : Int)) (6148914691236517205 : Int)) + (bAnd .u64 a0 (6148914691236517205 : Int)))) (2 : Int)) (3689348814741910323 : Int)) + (bAnd .u64 (IntKind.wrap .u64 ((bAnd .u64 (bShr .u64 a0 (1 : Int)) (6148914691236517205 : Int)) + (bAnd .u64 a0 (6148914691236517205 : Int)))) (3689348814741910323 : Int)))) (4 : Int)) + (IntKind.wrap .u64 ((bAnd .u64 (bShr .u64 (IntKind.wrap .u64 ((bAnd .u64 (bShr .u64 a0 (1 : Int)) (6148914691236517205 : Int)) + (bAnd .u64 a0 (6148914691236517205 : Int)))) (2 : Int)) (3689348814741910323 : Int)) + (bAnd .u64 (IntKind.wrap .u64 ((bAnd .u64 (bShr .u64 a0 (1 : Int)) (6148914691236517205 : Int)) + (bAnd .u64 a0 (6148914691236517205 : Int)))) (3689348814741910323 : Int)))))) (1085102592571150095 : Int)) + (bShr .u64 (bAnd .u64 (IntKind.wrap .u64 ((bShr .u64 (IntKind.wrap .u64 ((bAnd .u64 (bShr .u64 (IntKind.wrap .u64 ((bAnd .u64 (bShr .u64 a0 (1 : Int)) (6148914691236517205 : Int)) + (bAnd .u64 a0 (6148914691236517205 : Int)))) (2 : Int)) (3689348814741910323 : Int)) + (bAnd .u64 (IntKind.wrap .u64 ((bAnd .u64 (bShr .u64 a0 (1 : Int)) (6148914691236517205 : Int)) + (bAnd .u64 a0 (6148914691236517205 : Int)))) (3689348814741910323 : Int)))) (4 : Int)) + (IntKind.wrap .u64 ((bAnd .u64 (bShr .u64 (IntKind.wrap .u64 ((bAnd .u64 (bShr .u64 a0 (1 : Int)) (6148914691236517205 : Int)) + (bAnd .u64 a0 (6148914691236517205 : Int)))) (2 : Int)) (3689348814741910323 : Int)) + (bAnd .u64 (IntKind.wrap .u64 ((bAnd .u64 (bShr .u64 a0 (1 : Int)) (6148914691236517205 : Int)) + (bAnd .u64 a0 (6148914691236517205 : Int)))) (3689348814741910323 : Int)))))) (1085102592571150095 : Int)) (8 : Int)))) (16 : Int)))) (32 : Int))))) (127 : Int)))]) (L' := []) (obs := []) (by kernel_rfl) (by kernel_rfl) (by kernel_rfl) allP0 ?_
  refine seqQ_norm ?_
  obtain rfl := Option.some.inj h
  refine W_ret [2] [] (fr' := [(2, aI (bAnd .i64 (w64 (IntKind.wrap .u64 ((IntKind.wrap .u64 ((IntKind.wrap .u64 ((bAnd .u64 (IntKind.wrap .u64 ((bShr .u64 (IntKind.wrap .u64 ((bAnd .u64 (bShr .u64 (IntKind.wrap .u64 ((bAnd .u64 (bShr .u64 a0 (1 : Int)) (6148914691236517205 : Int)) + (bAnd .u64 a0 (6148914691236517205 : Int)))) (2 : Int)) (3689348814741910323 : Int)) + (bAnd .u64 (IntKind.wrap .u64 ((bAnd .u64 (bShr .u64 a0 (1 : Int)) (6148914691236517205 : Int)) + (bAnd .u64 a0 (6148914691236517205 : Int)))) (3689348814741910323 : Int)))) (4 : Int)) + (IntKind.wrap .u64 ((bAnd .u64 (bShr .u64 (IntKind.wrap .u64 ((bAnd .u64 (bShr .u64 a0 (1 : Int)) (6148914691236517205 : Int)) + (bAnd .u64 a0 (6148914691236517205 : Int)))) (2 : Int)) (3689348814741910323 : Int)) + (bAnd .u64 (IntKind.wrap .u64 ((bAnd .u64 (bShr .u64 a0 (1 : Int)) (6148914691236517205 : Int)) + (bAnd .u64 a0 (6148914691236517205 : Int)))) (3689348814741910323 : Int)))))) (1085102592571150095 : Int)) + (bShr .u64 (bAnd .u64 (IntKind.wrap .u64 ((bShr .u64 (IntKind.wrap .u64 ((bAnd .u64 (bShr .u64 (IntKind.wrap .u64 ((bAnd .u64 (bShr .u64 a0 (1 : Int)) (6148914691236517205 : Int)) + (bAnd .u64 a0 (6148914691236517205 : Int)))) (2 : Int)) (3689348814741910323 : Int)) + (bAnd .u64 (IntKind.wrap .u64 ((bAnd .u64 (bShr .u64 a0 (1 : Int)) (6148914691236517205 : Int)) + (bAnd .u64 a0 (6148914691236517205 : Int)))) (3689348814741910323 : Int)))) (4 : Int)) + (IntKind.wrap .u64 ((bAnd .u64 (bShr .u64 (IntKind.wrap .u64 ((bAnd .u64 (bShr .u64 a0 (1 : Int)) (6148914691236517205 : Int)) + (bAnd .u64 a0 (6148914691236517205 : Int)))) (2 : Int)) (3689348814741910323 : Int)) + (bAnd .u64 (IntKind.wrap .u64 ((bAnd .u64 (bShr .u64 a0 (1 : Int)) (6148914691236517205 : Int)) + (bAnd .u64 a0 (6148914691236517205 : Int)))) (3689348814741910323 : Int)))))) (1085102592571150095 : Int)) (8 : Int)))) + (bShr .u64 (IntKind.wrap .u64 ((bAnd .u64 (IntKind.wrap .u64 ((bShr .u64 (IntKind.wrap .u64 ((bAnd .u64 (bShr .u64 (IntKind.wrap .u64 ((bAnd .u64 (bShr .u64 a0 (1 : Int)) (6148914691236517205 : Int)) + (bAnd .u64 a0 (6148914691236517205 : Int)))) (2 : Int)) (3689348814741910323 : Int)) + (bAnd .u64 (IntKind.wrap .u64 ((bAnd .u64 (bShr .u64 a0 (1 : Int)) (6148914691236517205 : Int)) + (bAnd .u64 a0 (6148914691236517205 : Int)))) (3689348814741910323 : Int)))) (4 : Int)) + (IntKind.wrap .u64 ((bAnd .u64 (bShr .u64 (IntKind.wrap .u64 ((bAnd .u64 (bShr .u64 a0 (1 : Int)) (6148914691236517205 : Int)) + (bAnd .u64 a0 (6148914691236517205 : Int)))) (2 : Int)) (3689348814741910323 : Int)) + (bAnd .u64 (IntKind.wrap .u64 ((bAnd .u64 (bShr .u64 a0 (1 : Int)) (6148914691236517205 : Int)) + (bAnd .u64 a0 (6148914691236517205 : Int)))) (3689348814741910323 : Int)))))) (1085102592571150095 : Int)) + (bShr .u64 (bAnd .u64 (IntKind.wrap .u64 ((bShr .u64 (IntKind.wrap .u64 ((bAnd .u64 (bShr .u64 (IntKind.wrap .u64 ((bAnd .u64 (bShr .u64 a0 (1 : Int)) (6148914691236517205 : Int)) + (bAnd .u64 a0 (6148914691236517205 : Int)))) (2 : Int)) (3689348814741910323 : Int)) + (bAnd .u64 (IntKind.wrap .u64 ((bAnd .u64 (bShr .u64 a0 (1 : Int)) (6148914691236517205 : Int)) + (bAnd .u64 a0 (6148914691236517205 : Int)))) (3689348814741910323 : Int)))) (4 : Int)) + (IntKind.wrap .u64 ((bAnd .u64 (bShr .u64 (IntKind.wrap .u64 ((bAnd .u64 (bShr .u64 a0 (1 : Int)) (6148914691236517205 : Int)) + (bAnd .u64 a0 (6148914691236517205 : Int)))) (2 : Int)) (3689348814741910323 : Int)) + (bAnd .u64 (IntKind.wrap .u64 ((bAnd .u64 (bShr .u64 a0 (1 : Int)) (6148914691236517205 : Int)) + (bAnd .u64 a0 (6148914691236517205 : Int)))) (3689348814741910323 : Int)))))) (1085102592571150095 : Int)) (8 : Int)))) (16 : Int)))) + (bShr .u64 (IntKind.wrap .u64 ((IntKind.wrap .u64 ((bAnd .u64 (IntKind.wrap .u64 ((bShr .u64 (IntKind.wrap .u64 ((bAnd .u64 (bShr .u64 (IntKind.wrap .u64 ((bAnd .u64 (bShr .u64 a0 (1 : Int)) (6148914691236517205 : Int)) + (bAnd .u64 a0 (6148914691236517205 : Int)))) (2 : Int)) (3689348814741910323 : Int)) + (bAnd .u64 (IntKind.wrap .u64 ((bAnd .u64 (bShr .u64 a0 (1 : Int)) (6148914691236517205 : Int)) + (bAnd .u64 a0 (6148914691236517205 : Int)))) (3689348814741910323 : Int)))) (4 : Int)) + (IntKind.wrap .u64 ((bAnd .u64 (bShr .u64 (IntKind.wrap .u64 ((bAnd .u64 (bShr .u64 a0 (1 : Int)) (6148914691236517205 : Int)) + (bAnd .u64 a0 (6148914691236517205 : Int)))) (2 : Int)) (3689348814741910323 : Int)) + (bAnd .u64 (IntKind.wrap .u64 ((bAnd .u64 (bShr .u64 a0 (1 : Int)) (6148914691236517205 : Int)) + (bAnd .u64 a0 (6148914691236517205 : Int)))) (3689348814741910323 : Int)))))) (1085102592571150095 : Int)) + (bShr .u64 (bAnd .u64 (IntKind.wrap .u64 ((bShr .u64 (IntKind.wrap .u64 ((bAnd .u64 (bShr .u64 (IntKind.wrap .u64 ((bAnd .u64 (bShr .u64 a0 (1 : Int)) (6148914691236517205 : Int)) + (bAnd .u64 a0 (6148914691236517205 : Int)))) (2 : Int)) (3689348814741910323 : Int)) + (bAnd .u64 (IntKind.wrap .u64 ((bAnd .u64 (bShr .u64 a0 (1 : Int)) (6148914691236517205 : Int)) + (bAnd .u64 a0 (6148914691236517205 : Int)))) (3689348814741910323 : Int)))) (4 : Int)) + (IntKind.wrap .u64 ((bAnd .u64 (bShr .u64 (IntKind.wrap .u64 ((bAnd .u64 (bShr .u64 a0 (1 : Int)) (6148914691236517205 : Int)) + (bAnd .u64 a0 (6148914691236517205 : Int)))) (2 : Int)) (3689348814741910323 : Int)) + (bAnd .u64 (IntKind.wrap .u64 ((bAnd .u64 (bShr .u64 a0 (1 : Int)) (6148914691236517205 : Int)) + (bAnd .u64 a0 (6148914691236517205 : Int)))) (3689348814741910323 : Int)))))) (1085102592571150095 : Int)) (8 : Int)))) + (bShr .u64 (IntKind.wrap .u64 ((bAnd .u64 (IntKind.wrap .u64 ((bShr .u64 (IntKind.wrap .u64 ((bAnd .u64 (bShr .u64 (IntKind.wrap .u64 ((bAnd .u64 (bShr .u64 a0 (1 : Int)) (6148914691236517205 : Int)) + (bAnd .u64 a0 (6148914691236517205 : Int)))) (2 : Int)) (3689348814741910323 : Int)) + (bAnd .u64 (IntKind.wrap .u64 ((bAnd .u64 (bShr .u64 a0 (1 : Int)) (6148914691236517205 : Int)) + (bAnd .u64 a0 (6148914691236517205 : Int)))) (3689348814741910323 : Int)))) (4 : Int)) + (IntKind.wrap .u64 ((bAnd .u64 (bShr .u64 (IntKind.wrap .u64 ((bAnd .u64 (bShr .u64 a0 (1 : Int)) (6148914691236517205 : Int)) + (bAnd .u64 a0 (6148914691236517205 : Int)))) (2 : Int)) (3689348814741910323 : Int)) + (bAnd .u64 (IntKind.wrap .u64 ((bAnd .u64 (bShr .u64 a0 (1 : Int)) (6148914691236517205 : Int)) + (bAnd .u64 a0 (6148914691236517205 : Int)))) (3689348814741910323 : Int)))))) (1085102592571150095 : Int)) + (bShr .u64 (bAnd .u64 (IntKind.wrap .u64 ((bShr .u64 (IntKind.wrap .u64 ((bAnd .u64 (bShr .u64 (IntKind.wrap .u64 ((bAnd .u64 (bShr .u64 a0 (1 : Int)) (6148914691236517205 : Int)) + (bAnd .u64 a0 (6148914691236517205 : Int)))) (2 : Int)) (3689348814741910323 : Int)) + (bAnd .u64 (IntKind.wrap .u64 ((bAnd .u64 (bShr .u64 a0 (1 : Int)) (6148914691236517205 : Int)) + (bAnd .u64 a0 (6148914691236517205 : Int)))) (3689348814741910323 : Int)))) (4 : Int)) + (IntKind.wrap .u64 ((bAnd .u64 (bShr .u64 (IntKind.wrap .u64 ((bAnd .u64 (bShr .u64 a0 (1 : Int)) (6148914691236517205 : Int)) + (bAnd .u64 a0 (6148914691236517205 : Int)))) (2 : Int)) (3689348814741910323 : Int)) + (bAnd .u64 (IntKind.wrap .u64 ((bAnd .u64 (bShr .u64 a0 (1 : Int)) (6148914691236517205 : Int)) + (bAnd .u64 a0 (6148914691236517205 : Int)))) (3689348814741910323 : Int)))))) (1085102592571150095 : Int)) (8 : Int)))) (16 : Int)))) (32 : Int))))) (127 : Int)))]) (L' := []) (by kernel_rfl) (by kernel_rfl) ?_
  exact retQ_mk (by kernel_rfl) (by kernel_rfl) (by kernel_rfl)

def math_bits_OnesCount (a0 : Int) : Option Int :=
(math_bits_OnesCount64 a0).bind fun r2 =>
some r2
theorem math_bits_OnesCount_ok {a0 : Int} {r : Int} (h : math_bits_OnesCount a0 = some r) : FnC Try.prog 44 [aD (.int .u64) a0] [] (aI r) [] := by
  refine fnC_of_W (B := bodyOf Try.f44) (n := 8) Try.func44 (by kernel_rfl) (by kernel_rfl) (by kernel_rfl) (by kernel_rfl) (by kernel_rfl) ?_
  intro K
  refine W_seq (by kernel_rfl) ?_
  refine W_run 1 [] [0] [] (fr' := [(0, aD (.int .u64) a0)]) (L' := []) (obs := []) (by kernel_rfl) (by kernel_rfl) (by kernel_rfl) allP0 ?_
  refine seqQ_norm ?_
  refine W_seq (by kernel_rfl) ?_
  refine W_cond (o := .const (.bool false)) (b := false) (by kernel_rfl) (by kernel_rfl) (fun h1 => by have := (rfl : false = false).symm.trans h1; cases this) (fun h1 => ?_)
  refine W_skip [0] [] (fr' := [(0, aD (.int .u64) a0)]) (L' := []) (by kernel_rfl) (by kernel_rfl) ?_
  refine seqQ_norm ?_
  refine W_seq (by kernel_rfl) ?_
  refine W_region (by kernel_rfl) ?_
  refine WO_run (j := 1) (k := 1) (orcs := []) (kF := [6]) (kL := []) (fr' := [(6, aD (.int .u64) a0)]) (L' := []) (obs := []) rfl (by kernel_rfl) allP0 ?_
  obtain ⟨r2, h3, h⟩ := bind_of h
  refine WO_call0 (us := [none]) (d := 7) (p := True) (j := 2) rfl ⟨by kernel_rfl, by kernel_rfl, by kernel_rfl⟩ trivial (math_bits_OnesCount64_ok h3) (by kernel_rfl) ?_
  refine WO_run (j := 3) (k := 1) (orcs := []) (kF := [2]) (kL := []) (fr' := [(2, aI r2)]) (L' := []) (obs := []) rfl (by kernel_rfl) allP0 ?_
  refine WO_fin [2] [] (fr' := [(2, aI r2)]) (L' := []) (by kernel_rfl) (by kernel_rfl) ?_
  refine seqQ_norm ?_
  obtain rfl := Option.some.inj h
  refine W_ret [2] [] (fr' := [(2, aI r2)]) (L' := []) (by kernel_rfl) (by kernel_rfl) ?_
  exact retQ_mk (by kernel_rfl) (by kernel_rfl) (by kernel_rfl)

@[reducible] def ask_Degree_s4 (a0 : Int) (a1 : (List Bool)) (i43 : Int) (v : (List Int)) : Fr × LL := ([(0, aI a0), (7, .one (.slc 23)), (24, aD (.slice .bool) a1), (25, aI (List.length a1 : Int)), (26, aI i43)], [(23, .seq tI v)])
def ask_Degree_b5 (i43 : Int) (v46 : Bool) (x44 : (List Int)) : Option (Flow (List Int) (List Int)) :=
(bif v46 then
((idx x44 i43).bind fun v56 =>
some (List.set x44 (Int.toNat i43) (1 : Int)))
else
(some x44)).bind fun v58 =>
some (.next v58)
@[reducible] def ask_Degree_s6 (a0 : Int) (a1 : (List Bool)) (v : Int × (List Int)) : Fr × LL := ([(0, aI a0), (7, .one (.slc 23)), (24, aD (.slice .bool) a1), (25, aI (List.length a1 : Int)), (26, aI v.1)], [(23, .seq tI v.2)])
@[reducible] def ask_Degree_s7 (a0 : Int) (v : (List Int)) : Fr × LL := ([(0, aI a0), (7, .one (.slc 23))], [(23, .seq tI v)])
def ask_Degree_g30 (i213 : Int) (i261 : Int) (x262 : (List Int)) : Option (List Int) :=
(ck (0 ≤ i213)).bind fun _ =>
bif (bAnd .i64 (bShr .i64 i261 i213) (1 : Int)) == (1 : Int) then
((idx x262 i261).bind fun v281 =>
(idx x262 (bXor .i64 i261 (bShl .i64 (1 : Int) i213))).bind fun v283 =>
some (List.set x262 (Int.toNat i261) (w64 (v281 - v283))))
else
(some x262)
@[reducible] def ask_Degree_s31 (a0 : Int) (i213 : Int) (x214 : (List Int)) (i261 : Int) (v : (List Int)) : Fr × LL := ([(7, .one (.slc 23)), (10, aI i213), (36, aI a0), (37, aI i213), (41, aI (List.length x214 : Int)), (42, aI i261)], [(23, .seq tI v)])
def ask_Degree_b32 (i213 : Int) (i261 : Int) (v264 : Int) (x262 : (List Int)) : Option (Flow (List Int) (List Int)) :=
(ask_Degree_g30 i213 i261 x262).bind fun v285 =>
some (.next v285)
@[reducible] def ask_Degree_s33 (a0 : Int) (i213 : Int) (x214 : (List Int)) (v : Int × (List Int)) : Fr × LL := ([(7, .one (.slc 23)), (10, aI i213), (36, aI a0), (37, aI i213), (41, aI (List.length x214 : Int)), (42, aI v.1)], [(23, .seq tI v.2)])
@[reducible] def ask_Degree_s34 (a0 : Int) (i213 : Int) (v : (List Int)) : Fr × LL := ([(7, .one (.slc 23)), (36, aI a0), (37, aI i213)], [(23, .seq tI v)])
def ask_Degree_b35 (i213 : Int) (x214 : (List Int)) : Option (Flow (List Int) (List Int)) :=
(forL (ask_Degree_b32 i213) (fun x262 => x262) x214 0 x214).bind fun v288 =>
some (.next v288)
@[reducible] def ask_Degree_s36 (a0 : Int) (v : Int × (List Int)) : Fr × LL := ([(7, .one (.slc 23)), (36, aI a0), (37, aI v.1)], [(23, .seq tI v.2)])
@[reducible] def ask_Degree_s37 (v : (List Int)) : Fr × LL := ([(7, .one (.slc 23))], [(23, .seq tI v)])
@[reducible] def ask_Degree_s42 (v294 : (List Int)) (i336 : Int) (v : Int) : Fr × LL := ([(12, aI v), (65, .one (.slc 23)), (66, aI (List.length v294 : Int)), (67, aI i336)], [(23, .seq tI v294)])
def ask_Degree_b43 (i336 : Int) (v339 : Int) (x337 : Int) : Option (Flow Int Int) :=
(bif v339 != (0 : Int) then
((math_bits_OnesCount (IntKind.wrap .u64 (i336))).bind fun r349 =>
some (imax x337 r349))
else
(some x337)).bind fun v351 =>
some (.next v351)
@[reducible] def ask_Degree_s44 (v294 : (List Int)) (v : Int × Int) : Fr × LL := ([(12, aI v.2), (65, .one (.slc 23)), (66, aI (List.length v294 : Int)), (67, aI v.1)], [(23, .seq tI v294)])
@[reducible] def ask_Degree_s45 (v : Int) : Fr × LL := ([(12, aI v)], [])
def ask_Degree (a0 : Int) (a1 : (List Bool)) : Option (Int × Int) :=
(ask_wrong a0 a1 (0 : Int)).bind fun r1 =>
bif r1 != (0 : Int) then
(some ((0 : Int), r1))
else
((ck (0 ≤ (List.length a1 : Int) ∧ (List.length a1 : Int) = (List.length a1 : Int) ∧ (List.length a1 : Int) ≤ 4294967296)).bind fun _ =>
(forL ask_Degree_b5 (fun x44 => x44) a1 0 (List.replicate (Int.toNat (List.length a1 : Int)) (0 : Int))).bind fun v61 =>
(forI (0 : Int) a0 ask_Degree_b35 (fun x214 => x214) v61).bind fun v294 =>
(forL ask_Degree_b43 (fun x337 => x337) v294 0 (0 : Int)).bind fun v354 =>
some (v354, (0 : Int)))
theorem ask_Degree_ok {a0 : Int} {a1 : (List Bool)} {r : (Int × Int)} (h : ask_Degree a0 a1 = some r) : FnC Try.prog 28 [aI a0, aD (.slice .bool) a1] [] (.tup [.dat tI r.1, .dat tI r.2]) [] := by
  refine fnC_of_W (B := bodyOf Try.f28) (n := 81) Try.func28 (by kernel_rfl) (by kernel_rfl) (by kernel_rfl) (by kernel_rfl) (by kernel_rfl) ?_
  intro K
  refine W_seq (by kernel_rfl) ?_
  refine W_run 2 [] [0, 1] [] (fr' := [(0, aI a0), (1, aD (.slice .bool) a1)]) (L' := []) (obs := []) (by kernel_rfl) (by kernel_rfl) (by kernel_rfl) allP0 ?_
  refine seqQ_norm ?_
  refine W_seq (by kernel_rfl) ?_
  refine W_seq (by kernel_rfl) ?_
  refine W_region (by kernel_rfl) ?_
  refine WO_run (j := 2) (k := 2) (orcs := []) (kF := [0, 1, 15, 16]) (kL := []) (fr' := [(0, aI a0), (1, aD (.slice .bool) a1), (15, aI a0), (16, aD (.slice .bool) a1)]) (L' := []) (obs := []) rfl (by kernel_rfl) allP0 ?_
  obtain ⟨r1, h2, h⟩ := bind_of h
  refine WO_call0 (us := [none, none, none]) (d := 17) (p := True) (j := 3) rfl ⟨by kernel_rfl, by kernel_rfl, by kernel_rfl⟩ trivial (ask_wrong_ok h2) (by kernel_rfl) ?_
  refine WO_run (j := 4) (k := 1) (orcs := []) (kF := [0, 1, 6]) (kL := []) (fr' := [(0, aI a0), (1, aD (.slice .bool) a1), (6, aI r1)]) (L' := []) (obs := []) rfl (by kernel_rfl) allP0 ?_
  refine WO_fin [0, 1, 6] [] (fr' := [(0, aI a0), (1, aD (.slice .bool) a1), (6, aI r1)]) (L' := []) (by kernel_rfl) (by kernel_rfl) ?_
  refine seqQ_norm ?_
  refine W_seq (by kernel_rfl) ?_
  refine W_run 2 [] [0, 1, 6, 19] [] (fr' := [(0, aI a0), (1, aD (.slice .bool) a1), (6, aI r1), (19, aB (r1 != (0 : Int)))]) (L' := []) (obs := []) (by kernel_rfl) (by kernel_rfl) (by kernel_rfl) allP0 ?_
  refine seqQ_norm ?_
  refine W_cond (o := .tmp 19) (b := r1 != (0 : Int)) (by kernel_rfl) (by kernel_rfl) (fun h3 => ?_) (fun h3 => ?_)
  · replace h := ofT h3 h
    refine W_seq (by kernel_rfl) ?_
    refine W_run 3 [] [4, 5] [] (fr' := [(4, aI (0 : Int)), (5, aI r1)]) (L' := []) (obs := []) (by kernel_rfl) (by kernel_rfl) (by kernel_rfl) allP0 ?_
    refine seqQ_norm ?_
    obtain rfl := Option.some.inj h
    refine W_ret [4, 5] [] (fr' := [(4, aI (0 : Int)), (5, aI r1)]) (L' := []) (by kernel_rfl) (by kernel_rfl) ?_
    refine seqQ_ret ?_
    exact retQ_mk (by kernel_rfl) (by kernel_rfl) (by kernel_rfl)
  · replace h := ofF h3 h
    refine W_skip [0, 1] [] (fr' := [(0, aI a0), (1, aD (.slice .bool) a1)]) (L' := []) (by kernel_rfl) (by kernel_rfl) ?_
    refine seqQ_norm ?_
    refine W_seq (by kernel_rfl) ?_
    obtain ⟨_, h4, h⟩ := bind_of h
    replace h4 := ck_some h4
    refine W_run 4 [] [0, 1, 7] [23] (fr' := [(0, aI a0), (1, aD (.slice .bool) a1), (7, .one (.slc 23))]) (L' := [(23, .seq tI (List.replicate (Int.toNat (List.length a1 : Int)) (0 : Int)))]) (obs := [0 ≤ (List.length a1 : Int) ∧ (List.length a1 : Int) = (List.length a1 : Int) ∧ SmallLen (List.length a1 : Int)]) (by kernel_rfl) (by kernel_rfl) (by kernel_rfl) (allP1 h4) ?_
    refine seqQ_norm ?_
    refine W_seq (by kernel_rfl) ?_
    refine W_seq (by kernel_rfl) ?_
    refine W_run 3 [] [0, 7, 24, 25, 26] [23] (fr' := [(0, aI a0), (7, .one (.slc 23)), (24, aD (.slice .bool) a1), (25, aI (List.length a1 : Int)), (26, aI (0 : Int))]) (L' := [(23, .seq tI (List.replicate (Int.toNat (List.length a1 : Int)) (0 : Int)))]) (obs := []) (by kernel_rfl) (by kernel_rfl) (by kernel_rfl) allP0 ?_
    refine seqQ_norm ?_
    refine W_block (id := 0) (by kernel_rfl) ?_
    obtain ⟨v61, h62, h⟩ := bind_of h
    refine W_len (t := 24) (u := .bool) (xs := a1) (by kernel_rfl) (fun h65 => ?_)
    obtain ⟨h63, h64⟩ := forL_iter h65 h62
    refine W_weaken [0, 7, 24, 25, 26] [23] (fr' := ((ask_Degree_s6 a0 a1) ((0 : Int), List.replicate (Int.toNat (List.length a1 : Int)) (0 : Int))).1) (L' := ((ask_Degree_s6 a0 a1) ((0 : Int), List.replicate (Int.toNat (List.length a1 : Int)) (0 : Int))).2) (by kernel_rfl) ?_
    refine W_cutK (W_loop (S := (ask_Degree_s6 a0 a1)) (J := (exQ (.exit 0) (ask_Degree_s7 a0))) (by kernel_rfl) ?_ h63 _ v61 h64) ?_
    · rintro ⟨i43, x44⟩ s h
      refine W_seq (by kernel_rfl) ?_
      refine W_run 1 [] [0, 7, 24, 25, 26, 27] [23] (fr' := [(0, aI a0), (7, .one (.slc 23)), (24, aD (.slice .bool) a1), (25, aI (List.length a1 : Int)), (26, aI i43), (27, aB (decide (i43 < (List.length a1 : Int))))]) (L' := [(23, .seq tI x44)]) (obs := []) (by kernel_rfl) (by kernel_rfl) (by kernel_rfl) allP0 ?_
      refine seqQ_norm ?_
      refine W_seq (by kernel_rfl) ?_
      refine W_cond (o := .tmp 27) (b := decide (i43 < (List.length a1 : Int))) (by kernel_rfl) (by kernel_rfl) (fun h48 => ?_) (fun h48 => ?_)
      · replace h := stepL_true h48 h
        obtain ⟨v46, _, h47, h, rfl⟩ := h
        refine W_skip [0, 7, 24, 25, 26] [23] (fr' := [(0, aI a0), (7, .one (.slc 23)), (24, aD (.slice .bool) a1), (25, aI (List.length a1 : Int)), (26, aI i43)]) (L' := [(23, .seq tI x44)]) (by kernel_rfl) (by kernel_rfl) ?_
        refine seqQ_norm ?_
        refine W_seq (by kernel_rfl) ?_
        obtain ⟨v58, h59, h⟩ := bind_of h
        refine W_cutK (Q' := (exQ .normal (ask_Degree_s4 a0 a1 i43)) v58) ?_ ?_
        · replace h := h59
          refine W_block (id := 1) (by kernel_rfl) ?_
          refine W_seq (by kernel_rfl) ?_
          refine W_run 5 [(3, .val (.dat .bool v46))] [0, 7, 8, 9, 24, 25, 26] [23] (fr' := [(0, aI a0), (7, .one (.slc 23)), (8, aI i43), (9, aB v46), (24, aD (.slice .bool) a1), (25, aI (List.length a1 : Int)), (26, aI i43)]) (L' := [(23, .seq tI x44)]) (obs := [Idx a1 i43 v46]) (by kernel_rfl) (by kernel_rfl) (by kernel_rfl) (allP1 (Idx.of h47)) ?_
          refine seqQ_norm ?_
          refine W_seq (by kernel_rfl) ?_
          refine W_run 1 [] [0, 7, 8, 24, 25, 26, 31] [23] (fr' := [(0, aI a0), (7, .one (.slc 23)), (8, aI i43), (24, aD (.slice .bool) a1), (25, aI (List.length a1 : Int)), (26, aI i43), (31, aB v46)]) (L' := [(23, .seq tI x44)]) (obs := []) (by kernel_rfl) (by kernel_rfl) (by kernel_rfl) allP0 ?_
          refine seqQ_norm ?_
          refine W_cond (o := .tmp 31) (b := v46) (by kernel_rfl) (by kernel_rfl) (fun h55 => ?_) (fun h55 => ?_)
          · replace h := ofT h55 h
            obtain ⟨v56, h57, h⟩ := bind_of h
            obtain rfl := Option.some.inj h
            refine W_run 4 [] [0, 7, 24, 25, 26] [23] (fr' := [(0, aI a0), (7, .one (.slc 23)), (24, aD (.slice .bool) a1), (25, aI (List.length a1 : Int)), (26, aI i43)]) (L' := [(23, .seq tI (List.set x44 (Int.toNat i43) (1 : Int)))]) (obs := [InR i43 (List.length x44), InR i43 (List.length x44)]) (by kernel_rfl) (by kernel_rfl) (by kernel_rfl) (allP2 (InR.of h57) (allP1 (InR.of h57))) ?_
            refine blockQ_norm ?_
            exact exQ_mk (by kernel_rfl) (by kernel_rfl)
          · replace h := ofF h55 h
            obtain rfl := Option.some.inj h
            refine W_skip [0, 7, 24, 25, 26] [23] (fr' := [(0, aI a0), (7, .one (.slc 23)), (24, aD (.slice .bool) a1), (25, aI (List.length a1 : Int)), (26, aI i43)]) (L' := [(23, .seq tI x44)]) (by kernel_rfl) (by kernel_rfl) ?_
            refine blockQ_norm ?_
            exact exQ_mk (by kernel_rfl) (by kernel_rfl)
        · intro e fr L hJ
          obtain ⟨rfl, rfl, rfl⟩ := hJ
          refine LT_keep [0, 7, 24, 25, 26] [23] (fr' := [(0, aI a0), (7, .one (.slc 23)), (24, aD (.slice .bool) a1), (25, aI (List.length a1 : Int)), (26, aI i43)]) (L' := [(23, .seq tI v58)]) (by kernel_rfl) ?_
          refine seqQ_norm ?_
          obtain rfl := Option.some.inj h
          refine W_run 2 [] [0, 7, 24, 25, 26] [23] (fr' := [(0, aI a0), (7, .one (.slc 23)), (24, aD (.slice .bool) a1), (25, aI (List.length a1 : Int)), (26, aI (w64 (i43 + (1 : Int))))]) (L' := [(23, .seq tI v58)]) (obs := []) (by kernel_rfl) (by kernel_rfl) (by kernel_rfl) allP0 ?_
          exact round_next' (by kernel_rfl) (by kernel_rfl)
      · obtain rfl := stepL_false h48 h
        refine W_exit (id := 0) [0, 7] [23] (fr' := [(0, aI a0), (7, .one (.slc 23))]) (L' := [(23, .seq tI x44)]) (by kernel_rfl) (by kernel_rfl) ?_
        refine seqQ_exit ?_
        refine round_exit ?_
        exact exQ_mk (by kernel_rfl) (by kernel_rfl)
    · intro e fr L hJ
      obtain ⟨rfl, rfl, rfl⟩ := hJ
      refine LT_keep [0, 7] [23] (fr' := [(0, aI a0), (7, .one (.slc 23))]) (L' := [(23, .seq tI v61)]) (by kernel_rfl) ?_
      refine blockQ_hit ?_
      refine seqQ_norm ?_
      refine W_seq (by kernel_rfl) ?_
      refine W_seq (by kernel_rfl) ?_
      refine W_run 2 [] [7, 36, 37] [23] (fr' := [(7, .one (.slc 23)), (36, aI a0), (37, aI (0 : Int))]) (L' := [(23, .seq tI v61)]) (obs := []) (by kernel_rfl) (by kernel_rfl) (by kernel_rfl) allP0 ?_
      refine seqQ_norm ?_
      refine W_block (id := 2) (by kernel_rfl) ?_
      obtain ⟨v294, h295, h⟩ := bind_of h
      obtain ⟨h296, h297⟩ := forI_iter h295
      refine W_weaken [7, 36, 37] [23] (fr' := ((ask_Degree_s36 a0) ((0 : Int), v61)).1) (L' := ((ask_Degree_s36 a0) ((0 : Int), v61)).2) (by kernel_rfl) ?_
      refine W_cutK (W_loop (S := (ask_Degree_s36 a0)) (J := (exQ (.exit 2) ask_Degree_s37)) (by kernel_rfl) ?_ h296 _ v294 h297) ?_
      · rintro ⟨i213, x214⟩ s h
        refine W_seq (by kernel_rfl) ?_
        refine W_run 1 [] [7, 36, 37, 38] [23] (fr' := [(7, .one (.slc 23)), (36, aI a0), (37, aI i213), (38, aB (decide (i213 < a0)))]) (L' := [(23, .seq tI x214)]) (obs := []) (by kernel_rfl) (by kernel_rfl) (by kernel_rfl) allP0 ?_
        refine seqQ_norm ?_
        refine W_seq (by kernel_rfl) ?_
        refine W_cond (o := .tmp 38) (b := decide (i213 < a0)) (by kernel_rfl) (by kernel_rfl) (fun h216 => ?_) (fun h216 => ?_)
        · replace h := stepI_true h216 h
          obtain ⟨_, h, rfl⟩ := h
          refine W_skip [7, 36, 37] [23] (fr' := [(7, .one (.slc 23)), (36, aI a0), (37, aI i213)]) (L' := [(23, .seq tI x214)]) (by kernel_rfl) (by kernel_rfl) ?_
          refine seqQ_norm ?_
          refine W_seq (by kernel_rfl) ?_
          refine W_block (id := 3) (by kernel_rfl) ?_
          refine W_seq (by kernel_rfl) ?_
          refine W_run 2 [] [7, 10, 36, 37] [23] (fr' := [(7, .one (.slc 23)), (10, aI i213), (36, aI a0), (37, aI i213)]) (L' := [(23, .seq tI x214)]) (obs := []) (by kernel_rfl) (by kernel_rfl) (by kernel_rfl) allP0 ?_
          refine seqQ_norm ?_
          refine W_seq (by kernel_rfl) ?_
          refine W_run 3 [] [7, 10, 36, 37, 41, 42] [23] (fr' := [(7, .one (.slc 23)), (10, aI i213), (36, aI a0), (37, aI i213), (41, aI (List.length x214 : Int)), (42, aI (0 : Int))]) (L' := [(23, .seq tI x214)]) (obs := []) (by kernel_rfl) (by kernel_rfl) (by kernel_rfl) allP0 ?_
          refine seqQ_norm ?_
          refine W_block (id := 4) (by kernel_rfl) ?_
          obtain ⟨v288, h289, h⟩ := bind_of h
          refine W_lenS (s := 23) (u := tI) (xs := x214) (by kernel_rfl) (fun h292 => ?_)
          obtain ⟨h290, h291⟩ := forL_iter h292 h289
          refine W_weaken [7, 10, 36, 37, 41, 42] [23] (fr' := ((ask_Degree_s33 a0 i213 x214) ((0 : Int), x214)).1) (L' := ((ask_Degree_s33 a0 i213 x214) ((0 : Int), x214)).2) (by kernel_rfl) ?_
          refine W_cutK (W_loop (S := (ask_Degree_s33 a0 i213 x214)) (J := (exQ (.exit 4) (ask_Degree_s34 a0 i213))) (by kernel_rfl) ?_ h290 _ v288 h291) ?_
          · rintro ⟨i261, x262⟩ s h
            refine W_seq (by kernel_rfl) ?_
            refine W_run 1 [] [7, 10, 36, 37, 41, 42, 43] [23] (fr' := [(7, .one (.slc 23)), (10, aI i213), (36, aI a0), (37, aI i213), (41, aI (List.length x214 : Int)), (42, aI i261), (43, aB (decide (i261 < (List.length x214 : Int))))]) (L' := [(23, .seq tI x262)]) (obs := []) (by kernel_rfl) (by kernel_rfl) (by kernel_rfl) allP0 ?_
            refine seqQ_norm ?_
            refine W_seq (by kernel_rfl) ?_
            refine W_cond (o := .tmp 43) (b := decide (i261 < (List.length x214 : Int))) (by kernel_rfl) (by kernel_rfl) (fun h266 => ?_) (fun h266 => ?_)
            · replace h := stepL_true h266 h
              obtain ⟨v264, _, h265, h, rfl⟩ := h
              refine W_skip [7, 10, 36, 37, 41, 42] [23] (fr' := [(7, .one (.slc 23)), (10, aI i213), (36, aI a0), (37, aI i213), (41, aI (List.length x214 : Int)), (42, aI i261)]) (L' := [(23, .seq tI x262)]) (by kernel_rfl) (by kernel_rfl) ?_
              refine seqQ_norm ?_
              refine W_seq (by kernel_rfl) ?_
              obtain ⟨v285, h286, h⟩ := bind_of h
              refine W_cutK (Q' := (exQ .normal (ask_Degree_s31 a0 i213 x214 i261)) v285) ?_ ?_
              · replace h := h286
                refine W_block (id := 5) (by kernel_rfl) ?_
                refine W_seq (by kernel_rfl) ?_
                refine W_run 2 [] [7, 10, 11, 36, 37, 41, 42] [23] (fr' := [(7, .one (.slc 23)), (10, aI i213), (11, aI i261), (36, aI a0), (37, aI i213), (41, aI (List.length x214 : Int)), (42, aI i261)]) (L' := [(23, .seq tI x262)]) (obs := []) (by kernel_rfl) (by kernel_rfl) (by kernel_rfl) allP0 ?_
                refine seqQ_norm ?_
                refine W_seq (by kernel_rfl) ?_
                obtain ⟨_, h279, h⟩ := bind_of h
                replace h279 := ck_some h279
                refine W_run 5 [] [7, 10, 11, 36, 37, 41, 42, 49] [23] (fr' := [(7, .one (.slc 23)), (10, aI i213), (11, aI i261), (36, aI a0), (37, aI i213), (41, aI (List.length x214 : Int)), (42, aI i261), (49, aB ((bAnd .i64 (bShr .i64 i261 i213) (1 : Int)) == (1 : Int)))]) (L' := [(23, .seq tI x262)]) (obs := [(0 ≤ i213)]) (by kernel_rfl) (by kernel_rfl) (by kernel_rfl) (allP1 h279) ?_
                refine seqQ_norm ?_
                refine W_cond (o := .tmp 49) (b := (bAnd .i64 (bShr .i64 i261 i213) (1 : Int)) == (1 : Int)) (by kernel_rfl) (by kernel_rfl) (fun h280 => ?_) (fun h280 => ?_)
                · replace h := ofT h280 h
                  obtain ⟨v281, h282, h⟩ := bind_of h
                  obtain ⟨v283, h284, h⟩ := bind_of h
                  obtain rfl := Option.some.inj h
                  refine W_draw2 12 [(7, .val (.dat tI v281)), (21, .val (.dat tI v283))] [] [7, 10, 36, 37, 41, 42] [23] (fr' := [(7, .one (.slc 23)), (10, aI i213), (36, aI a0), (37, aI i213), (41, aI (List.length x214 : Int)), (42, aI i261)]) (L' := [(23, .seq tI (List.set x262 (Int.toNat i261) (w64 (v281 - v283))))]) (out := [(50, .one (.slc 23)), (51, aI i261), (52, .one (.eptr 23 1 i261 0)), (53, aI v281), (54, .one (.slc 23)), (55, aI i261), (56, aI i213), (57, aI (bShl .i64 (1 : Int) i213)), (58, aI (bXor .i64 i261 (bShl .i64 (1 : Int) i213))), (59, .one (.eptr 23 1 (bXor .i64 i261 (bShl .i64 (1 : Int) i213)) 0)), (60, aI v283), (61, aI (w64 (v281 - v283)))]) (obs := [InR i261 (List.length x262), Idx x262 i261 v281, (0 ≤ i213), InR (bXor .i64 i261 (bShl .i64 (1 : Int) i213)) (List.length x262), Idx x262 (bXor .i64 i261 (bShl .i64 (1 : Int) i213)) v283]) (obs2 := [InR i261 (List.length x262), InR i261 (List.length x262)]) (calls := []) (by kernel_rfl) (by kernel_rfl) (by kernel_rfl) (by kernel_rfl) (allP2 (InR.of h282) (allP2 (Idx.of h282) (allP2 h279 (allP2 (InR.of h284) (allP1 (Idx.of h284)))))) allC0 (by kernel_rfl) (allP2 (InR.of h282) (allP1 (InR.of h282))) ?_
                  refine blockQ_norm ?_
                  exact exQ_mk (by kernel_rfl) (by kernel_rfl)
                · replace h := ofF h280 h
                  obtain rfl := Option.some.inj h
                  refine W_skip [7, 10, 36, 37, 41, 42] [23] (fr' := [(7, .one (.slc 23)), (10, aI i213), (36, aI a0), (37, aI i213), (41, aI (List.length x214 : Int)), (42, aI i261)]) (L' := [(23, .seq tI x262)]) (by kernel_rfl) (by kernel_rfl) ?_
                  refine blockQ_norm ?_
                  exact exQ_mk (by kernel_rfl) (by kernel_rfl)
              · intro e fr L hJ
                obtain ⟨rfl, rfl, rfl⟩ := hJ
                refine LT_keep [7, 10, 36, 37, 41, 42] [23] (fr' := [(7, .one (.slc 23)), (10, aI i213), (36, aI a0), (37, aI i213), (41, aI (List.length x214 : Int)), (42, aI i261)]) (L' := [(23, .seq tI v285)]) (by kernel_rfl) ?_
                refine seqQ_norm ?_
                obtain rfl := Option.some.inj h
                refine W_run 2 [] [7, 10, 36, 37, 41, 42] [23] (fr' := [(7, .one (.slc 23)), (10, aI i213), (36, aI a0), (37, aI i213), (41, aI (List.length x214 : Int)), (42, aI (w64 (i261 + (1 : Int))))]) (L' := [(23, .seq tI v285)]) (obs := []) (by kernel_rfl) (by kernel_rfl) (by kernel_rfl) allP0 ?_
                exact round_next' (by kernel_rfl) (by kernel_rfl)
            · obtain rfl := stepL_false h266 h
              refine W_exit (id := 4) [7, 36, 37] [23] (fr' := [(7, .one (.slc 23)), (36, aI a0), (37, aI i213)]) (L' := [(23, .seq tI x262)]) (by kernel_rfl) (by kernel_rfl) ?_
              refine seqQ_exit ?_
              refine round_exit ?_
              exact exQ_mk (by kernel_rfl) (by kernel_rfl)
          · intro e fr L hJ
            obtain ⟨rfl, rfl, rfl⟩ := hJ
            refine LT_keep [7, 36, 37] [23] (fr' := [(7, .one (.slc 23)), (36, aI a0), (37, aI i213)]) (L' := [(23, .seq tI v288)]) (by kernel_rfl) ?_
            refine blockQ_hit ?_
            refine blockQ_norm ?_
            refine seqQ_norm ?_
            obtain rfl := Option.some.inj h
            refine W_run 2 [] [7, 36, 37] [23] (fr' := [(7, .one (.slc 23)), (36, aI a0), (37, aI (w64 (i213 + (1 : Int))))]) (L' := [(23, .seq tI v288)]) (obs := []) (by kernel_rfl) (by kernel_rfl) (by kernel_rfl) allP0 ?_
            exact round_next' (by kernel_rfl) (by kernel_rfl)
        · obtain rfl := stepI_false h216 h
          refine W_exit (id := 2) [7] [23] (fr' := [(7, .one (.slc 23))]) (L' := [(23, .seq tI x214)]) (by kernel_rfl) (by kernel_rfl) ?_
          refine seqQ_exit ?_
          refine round_exit ?_
          exact exQ_mk (by kernel_rfl) (by kernel_rfl)
      · intro e fr L hJ
        obtain ⟨rfl, rfl, rfl⟩ := hJ
        refine LT_keep [7] [23] (fr' := [(7, .one (.slc 23))]) (L' := [(23, .seq tI v294)]) (by kernel_rfl) ?_
        refine blockQ_hit ?_
        refine seqQ_norm ?_
        refine W_seq (by kernel_rfl) ?_
        refine W_run 1 [] [7, 12] [23] (fr' := [(7, .one (.slc 23)), (12, aI (0 : Int))]) (L' := [(23, .seq tI v294)]) (obs := []) (by kernel_rfl) (by kernel_rfl) (by kernel_rfl) allP0 ?_
        refine seqQ_norm ?_
        refine W_seq (by kernel_rfl) ?_
        refine W_seq (by kernel_rfl) ?_
        refine W_run 3 [] [12, 65, 66, 67] [23] (fr' := [(12, aI (0 : Int)), (65, .one (.slc 23)), (66, aI (List.length v294 : Int)), (67, aI (0 : Int))]) (L' := [(23, .seq tI v294)]) (obs := []) (by kernel_rfl) (by kernel_rfl) (by kernel_rfl) allP0 ?_
        refine seqQ_norm ?_
        refine W_block (id := 6) (by kernel_rfl) ?_
        obtain ⟨v354, h355, h⟩ := bind_of h
        refine W_lenS (s := 23) (u := tI) (xs := v294) (by kernel_rfl) (fun h358 => ?_)
        obtain ⟨h356, h357⟩ := forL_iter h358 h355
        refine W_weaken [12, 65, 66, 67] [23] (fr' := ((ask_Degree_s44 v294) ((0 : Int), (0 : Int))).1) (L' := ((ask_Degree_s44 v294) ((0 : Int), (0 : Int))).2) (by kernel_rfl) ?_
        refine W_cutK (W_loop (S := (ask_Degree_s44 v294)) (J := (exQ (.exit 6) ask_Degree_s45)) (by kernel_rfl) ?_ h356 _ v354 h357) ?_
        · rintro ⟨i336, x337⟩ s h
          refine W_seq (by kernel_rfl) ?_
          refine W_run 1 [] [12, 65, 66, 67, 68] [23] (fr' := [(12, aI x337), (65, .one (.slc 23)), (66, aI (List.length v294 : Int)), (67, aI i336), (68, aB (decide (i336 < (List.length v294 : Int))))]) (L' := [(23, .seq tI v294)]) (obs := []) (by kernel_rfl) (by kernel_rfl) (by kernel_rfl) allP0 ?_
          refine seqQ_norm ?_
          refine W_seq (by kernel_rfl) ?_
          refine W_cond (o := .tmp 68) (b := decide (i336 < (List.length v294 : Int))) (by kernel_rfl) (by kernel_rfl) (fun h341 => ?_) (fun h341 => ?_)
          · replace h := stepL_true h341 h
            obtain ⟨v339, _, h340, h, rfl⟩ := h
            refine W_skip [12, 65, 66, 67] [23] (fr' := [(12, aI x337), (65, .one (.slc 23)), (66, aI (List.length v294 : Int)), (67, aI i336)]) (L' := [(23, .seq tI v294)]) (by kernel_rfl) (by kernel_rfl) ?_
            refine seqQ_norm ?_
            refine W_seq (by kernel_rfl) ?_
            obtain ⟨v351, h352, h⟩ := bind_of h
            refine W_cutK (Q' := (exQ .normal (ask_Degree_s42 v294 i336)) v351) ?_ ?_
            · replace h := h352
              refine W_block (id := 7) (by kernel_rfl) ?_
              refine W_seq (by kernel_rfl) ?_
              refine W_run 5 [(5, .val (.dat tI v339))] [12, 13, 14, 65, 66, 67] [23] (fr' := [(12, aI x337), (13, aI i336), (14, aI v339), (65, .one (.slc 23)), (66, aI (List.length v294 : Int)), (67, aI i336)]) (L' := [(23, .seq tI v294)]) (obs := [InR i336 (List.length v294), Idx v294 i336 v339]) (by kernel_rfl) (by kernel_rfl) (by kernel_rfl) (allP2 (InR.of h340) (allP1 (Idx.of h340))) ?_
              refine seqQ_norm ?_
              refine W_seq (by kernel_rfl) ?_
              refine W_run 2 [] [12, 13, 65, 66, 67, 73] [23] (fr' := [(12, aI x337), (13, aI i336), (65, .one (.slc 23)), (66, aI (List.length v294 : Int)), (67, aI i336), (73, aB (v339 != (0 : Int)))]) (L' := [(23, .seq tI v294)]) (obs := []) (by kernel_rfl) (by kernel_rfl) (by kernel_rfl) allP0 ?_
              refine seqQ_norm ?_
              refine W_cond (o := .tmp 73) (b := v339 != (0 : Int)) (by kernel_rfl) (by kernel_rfl) (fun h348 => ?_) (fun h348 => ?_)
              · replace h := ofT h348 h
                refine W_region (by kernel_rfl) ?_
                refine WO_run (j := 3) (k := 3) (orcs := []) (kF := [12, 65, 66, 67, 74, 76]) (kL := [23]) (fr' := [(12, aI x337), (65, .one (.slc 23)), (66, aI (List.length v294 : Int)), (67, aI i336), (74, aI x337), (76, aD (.int .u64) (IntKind.wrap .u64 (i336)))]) (L' := [(23, .seq tI v294)]) (obs := []) rfl (by kernel_rfl) allP0 ?_
                obtain ⟨r349, h350, h⟩ := bind_of h
                refine WO_call0 (us := [none]) (d := 77) (p := True) (j := 4) rfl ⟨by kernel_rfl, by kernel_rfl, by kernel_rfl⟩ trivial (math_bits_OnesCount_ok h350) (by kernel_rfl) ?_
                refine WO_run (j := 6) (k := 2) (orcs := []) (kF := [12, 65, 66, 67]) (kL := [23]) (fr' := [(12, aI (imax x337 r349)), (65, .one (.slc 23)), (66, aI (List.length v294 : Int)), (67, aI i336)]) (L' := [(23, .seq tI v294)]) (obs := []) rfl (by kernel_rfl) allP0 ?_
                obtain rfl := Option.some.inj h
                refine WO_fin [12, 65, 66, 67] [23] (fr' := [(12, aI (imax x337 r349)), (65, .one (.slc 23)), (66, aI (List.length v294 : Int)), (67, aI i336)]) (L' := [(23, .seq tI v294)]) (by kernel_rfl) (by kernel_rfl) ?_
                refine blockQ_norm ?_
                exact exQ_mk (by kernel_rfl) (by kernel_rfl)
              · replace h := ofF h348 h
                obtain rfl := Option.some.inj h
                refine W_skip [12, 65, 66, 67] [23] (fr' := [(12, aI x337), (65, .one (.slc 23)), (66, aI (List.length v294 : Int)), (67, aI i336)]) (L' := [(23, .seq tI v294)]) (by kernel_rfl) (by kernel_rfl) ?_
                refine blockQ_norm ?_
                exact exQ_mk (by kernel_rfl) (by kernel_rfl)
            · intro e fr L hJ
              obtain ⟨rfl, rfl, rfl⟩ := hJ
              refine LT_keep [12, 65, 66, 67] [23] (fr' := [(12, aI v351), (65, .one (.slc 23)), (66, aI (List.length v294 : Int)), (67, aI i336)]) (L' := [(23, .seq tI v294)]) (by kernel_rfl) ?_
              refine seqQ_norm ?_
              obtain rfl := Option.some.inj h
              refine W_run 2 [] [12, 65, 66, 67] [23] (fr' := [(12, aI v351), (65, .one (.slc 23)), (66, aI (List.length v294 : Int)), (67, aI (w64 (i336 + (1 : Int))))]) (L' := [(23, .seq tI v294)]) (obs := []) (by kernel_rfl) (by kernel_rfl) (by kernel_rfl) allP0 ?_
              exact round_next' (by kernel_rfl) (by kernel_rfl)
          · obtain rfl := stepL_false h341 h
            refine W_exit (id := 6) [12] [] (fr' := [(12, aI x337)]) (L' := []) (by kernel_rfl) (by kernel_rfl) ?_
            refine seqQ_exit ?_
            refine round_exit ?_
            exact exQ_mk (by kernel_rfl) (by kernel_rfl)
        · intro e fr L hJ
          obtain ⟨rfl, rfl, rfl⟩ := hJ
          refine LT_keep [12] [] (fr' := [(12, aI v354)]) (L' := []) (by kernel_rfl) ?_
          refine blockQ_hit ?_
          refine seqQ_norm ?_
          refine W_seq (by kernel_rfl) ?_
          refine W_run 3 [] [4, 5] [] (fr' := [(4, aI v354), (5, aI (0 : Int))]) (L' := []) (obs := []) (by kernel_rfl) (by kernel_rfl) (by kernel_rfl) allP0 ?_
          refine seqQ_norm ?_
          obtain rfl := Option.some.inj h
          refine W_ret [4, 5] [] (fr' := [(4, aI v354), (5, aI (0 : Int))]) (L' := []) (by kernel_rfl) (by kernel_rfl) ?_
          exact retQ_mk (by kernel_rfl) (by kernel_rfl) (by kernel_rfl)

def ref_Within (a0 : Int) (a1 : Int) (a2 : Int) : Option Bool :=
some ((decide (a0 ≤ a1)) && (decide (a1 ≤ a2)))
theorem ref_Within_ok {a0 : Int} {a1 : Int} {a2 : Int} {r : Bool} (h : ref_Within a0 a1 a2 = some r) : FnC Try.prog 34 [aI a0, aI a1, aI a2] [] (aB r) [] := by
  refine fnC_of_W (B := bodyOf Try.f34) (n := 15) Try.func34 (by kernel_rfl) (by kernel_rfl) (by kernel_rfl) (by kernel_rfl) (by kernel_rfl) ?_
  intro K
  refine W_seq (by kernel_rfl) ?_
  refine W_run 1 [] [0, 1, 2] [] (fr' := [(0, aI a0), (1, aI a1), (2, aI a2)]) (L' := []) (obs := []) (by kernel_rfl) (by kernel_rfl) (by kernel_rfl) allP0 ?_
  refine seqQ_norm ?_
  refine W_seq (by kernel_rfl) ?_
  refine W_run 9 [] [6] [] (fr' := [(6, aB ((decide (a0 ≤ a1)) && (decide (a1 ≤ a2))))]) (L' := []) (obs := []) (by kernel_rfl) (by kernel_rfl) (by kernel_rfl) allP0 ?_
  refine seqQ_norm ?_
  obtain rfl := Option.some.inj h
  refine W_ret [6] [] (fr' := [(6, aB ((decide (a0 ≤ a1)) && (decide (a1 ≤ a2))))]) (L' := []) (by kernel_rfl) (by kernel_rfl) ?_
  exact retQ_mk (by kernel_rfl) (by kernel_rfl) (by kernel_rfl)

def ref_Inside_b1 (a0 : Int) (i11 : Int) (v14 : Int) (x12 : Unit) : Option (Flow Unit (Esc Bool Unit)) :=
bif (decide (v14 < (0 : Int))) || (decide (v14 ≥ a0)) then
(some (.done (.ret false)))
else
(some (.next ()))
@[reducible] def ref_Inside_s2 (a0 : Int) (a1 : (List Int)) (v : Int × Unit) : Fr × LL := ([(0, aI a0), (7, aD (.slice tI) a1), (8, aI (List.length a1 : Int)), (9, aI v.1)], [])
@[reducible] def ref_Inside_s3 (v : Bool) : Fr × LL := ([(4, aB v)], [])
@[reducible] def ref_Inside_s4 (v : Unit) : Fr × LL := ([], [])
def ref_Inside (a0 : Int) (a1 : (List Int)) : Option Bool :=
(forL (ref_Inside_b1 a0) (fun x12 => (.brk ())) a1 0 ()).bind fun v19 =>
match v19 with
| .ret v24 =>
(some v24)
| .brk v25 =>
(some true)
theorem ref_Inside_ok {a0 : Int} {a1 : (List Int)} {r : Bool} (h : ref_Inside a0 a1 = some r) : FnC Try.prog 35 [aI a0, aD (.slice tI) a1] [] (aB r) [] := by
  refine fnC_of_W (B := bodyOf Try.f35) (n := 21) Try.func35 (by kernel_rfl) (by kernel_rfl) (by kernel_rfl) (by kernel_rfl) (by kernel_rfl) ?_
  intro K
  refine W_seq (by kernel_rfl) ?_
  refine W_run 1 [] [0, 1] [] (fr' := [(0, aI a0), (1, aD (.slice tI) a1)]) (L' := []) (obs := []) (by kernel_rfl) (by kernel_rfl) (by kernel_rfl) allP0 ?_
  refine seqQ_norm ?_
  refine W_seq (by kernel_rfl) ?_
  refine W_seq (by kernel_rfl) ?_
  refine W_run 3 [] [0, 7, 8, 9] [] (fr' := [(0, aI a0), (7, aD (.slice tI) a1), (8, aI (List.length a1 : Int)), (9, aI (0 : Int))]) (L' := []) (obs := []) (by kernel_rfl) (by kernel_rfl) (by kernel_rfl) allP0 ?_
  refine seqQ_norm ?_
  refine W_block (id := 0) (by kernel_rfl) ?_
  obtain ⟨v19, h20, h⟩ := bind_of h
  refine W_len (t := 7) (u := tI) (xs := a1) (by kernel_rfl) (fun h23 => ?_)
  obtain ⟨h21, h22⟩ := forL_iter h23 h20
  refine W_weaken [0, 7, 8, 9] [] (fr' := ((ref_Inside_s2 a0 a1) ((0 : Int), ())).1) (L' := ((ref_Inside_s2 a0 a1) ((0 : Int), ())).2) (by kernel_rfl) ?_
  refine W_cutK (W_loop (S := (ref_Inside_s2 a0 a1)) (J := (escQ (exQ .ret ref_Inside_s3) (exQ (.exit 0) ref_Inside_s4))) (by kernel_rfl) ?_ h21 _ v19 h22) ?_
  · rintro ⟨i11, x12⟩ s h
    refine W_seq (by kernel_rfl) ?_
    refine W_run 1 [] [0, 7, 8, 9, 10] [] (fr' := [(0, aI a0), (7, aD (.slice tI) a1), (8, aI (List.length a1 : Int)), (9, aI i11), (10, aB (decide (i11 < (List.length a1 : Int))))]) (L' := []) (obs := []) (by kernel_rfl) (by kernel_rfl) (by kernel_rfl) allP0 ?_
    refine seqQ_norm ?_
    refine W_seq (by kernel_rfl) ?_
    refine W_cond (o := .tmp 10) (b := decide (i11 < (List.length a1 : Int))) (by kernel_rfl) (by kernel_rfl) (fun h16 => ?_) (fun h16 => ?_)
    · replace h := stepL_true h16 h
      obtain ⟨v14, _, h15, h, rfl⟩ := h
      refine W_skip [0, 7, 8, 9] [] (fr' := [(0, aI a0), (7, aD (.slice tI) a1), (8, aI (List.length a1 : Int)), (9, aI i11)]) (L' := []) (by kernel_rfl) (by kernel_rfl) ?_
      refine seqQ_norm ?_
      refine W_seq (by kernel_rfl) ?_
      refine W_block (id := 1) (by kernel_rfl) ?_
      refine W_seq (by kernel_rfl) ?_
      refine W_run 3 [(1, .val (.dat tI v14))] [0, 6, 7, 8, 9] [] (fr' := [(0, aI a0), (6, aI v14), (7, aD (.slice tI) a1), (8, aI (List.length a1 : Int)), (9, aI i11)]) (L' := []) (obs := [Idx a1 i11 v14]) (by kernel_rfl) (by kernel_rfl) (by kernel_rfl) (allP1 (Idx.of h15)) ?_
      refine seqQ_norm ?_
      refine W_seq (by kernel_rfl) ?_
      refine W_run 7 [] [0, 7, 8, 9, 19] [] (fr' := [(0, aI a0), (7, aD (.slice tI) a1), (8, aI (List.length a1 : Int)), (9, aI i11), (19, aB ((decide (v14 < (0 : Int))) || (decide (v14 ≥ a0))))]) (L' := []) (obs := []) (by kernel_rfl) (by kernel_rfl) (by kernel_rfl) allP0 ?_
      refine seqQ_norm ?_
      refine W_cond (o := .tmp 19) (b := (decide (v14 < (0 : Int))) || (decide (v14 ≥ a0))) (by kernel_rfl) (by kernel_rfl) (fun h17 => ?_) (fun h17 => ?_)
      · replace h := ofT h17 h
        refine W_seq (by kernel_rfl) ?_
        refine W_run 1 [] [4] [] (fr' := [(4, aB false)]) (L' := []) (obs := []) (by kernel_rfl) (by kernel_rfl) (by kernel_rfl) allP0 ?_
        refine seqQ_norm ?_
        obtain rfl := Option.some.inj h
        refine W_ret [4] [] (fr' := [(4, aB false)]) (L' := []) (by kernel_rfl) (by kernel_rfl) ?_
        refine blockQ_ret ?_
        refine seqQ_ret ?_
        refine round_ret ?_
        refine escQ_ret ?_
        exact exQ_mk (by kernel_rfl) (by kernel_rfl)
      · replace h := ofF h17 h
        refine W_skip [0, 7, 8, 9] [] (fr' := [(0, aI a0), (7, aD (.slice tI) a1), (8, aI (List.length a1 : Int)), (9, aI i11)]) (L' := []) (by kernel_rfl) (by kernel_rfl) ?_
        refine blockQ_norm ?_
        refine seqQ_norm ?_
        obtain rfl := Option.some.inj h
        refine W_run 2 [] [0, 7, 8, 9] [] (fr' := [(0, aI a0), (7, aD (.slice tI) a1), (8, aI (List.length a1 : Int)), (9, aI (w64 (i11 + (1 : Int))))]) (L' := []) (obs := []) (by kernel_rfl) (by kernel_rfl) (by kernel_rfl) allP0 ?_
        exact round_next' (by kernel_rfl) (by kernel_rfl)
    · obtain rfl := stepL_false h16 h
      refine W_exit (id := 0) [] [] (fr' := []) (L' := []) (by kernel_rfl) (by kernel_rfl) ?_
      refine seqQ_exit ?_
      refine round_exit ?_
      refine escQ_brk ?_
      exact exQ_mk (by kernel_rfl) (by kernel_rfl)
  · intro e fr L hJ
    rcases v19 with v24 | v25
    · obtain ⟨rfl, rfl, rfl⟩ := hJ
      obtain rfl := Option.some.inj h
      refine LT_keep [4] [] (fr' := [(4, aB v24)]) (L' := []) (by kernel_rfl) ?_
      refine blockQ_ret ?_
      refine seqQ_ret ?_
      exact retQ_mk (by kernel_rfl) (by kernel_rfl) (by kernel_rfl)
    · obtain ⟨rfl, rfl, rfl⟩ := hJ
      refine LT_keep [] [] (fr' := []) (L' := []) (by kernel_rfl) ?_
      refine blockQ_hit ?_
      refine seqQ_norm ?_
      refine W_seq (by kernel_rfl) ?_
      refine W_run 1 [] [4] [] (fr' := [(4, aB true)]) (L' := []) (obs := []) (by kernel_rfl) (by kernel_rfl) (by kernel_rfl) allP0 ?_
      refine seqQ_norm ?_
      obtain rfl := Option.some.inj h
      refine W_ret [4] [] (fr' := [(4, aB true)]) (L' := []) (by kernel_rfl) (by kernel_rfl) ?_
      exact retQ_mk (by kernel_rfl) (by kernel_rfl) (by kernel_rfl)

def ref_TableCheck (a0 : Int) (a1 : (List Bool)) (a2 : Int) : Option Int :=
(ref_Within (0 : Int) a0 (4 : Int)).bind fun r1 =>
bif !r1 then
(some (1 : Int))
else
((ck (0 ≤ IntKind.wrap .u64 (a0))).bind fun _ =>
bif (List.length a1 : Int) != (bShl .i64 (1 : Int) (IntKind.wrap .u64 (a0))) then
(some (3 : Int))
else
((ref_Inside (List.length a1 : Int) [a2]).bind fun r6 =>
bif !r6 then
(some (4 : Int))
else
(some (0 : Int))))
theorem ref_TableCheck_ok {a0 : Int} {a1 : (List Bool)} {a2 : Int} {r : Int} (h : ref_TableCheck a0 a1 a2 = some r) : FnC Try.prog 18 [aI a0, aD (.slice .bool) a1, aI a2] [] (aI r) [] := by
  refine fnC_of_W (B := bodyOf Try.f18) (n := 22) Try.func18 (by kernel_rfl) (by kernel_rfl) (by kernel_rfl) (by kernel_rfl) (by kernel_rfl) ?_
  intro K
  refine W_seq (by kernel_rfl) ?_
  refine W_run 1 [] [0, 1, 2] [] (fr' := [(0, aI a0), (1, aD (.slice .bool) a1), (2, aI a2)]) (L' := []) (obs := []) (by kernel_rfl) (by kernel_rfl) (by kernel_rfl) allP0 ?_
  refine seqQ_norm ?_
  refine W_seq (by kernel_rfl) ?_
  refine W_seq (by kernel_rfl) ?_
  refine W_region (by kernel_rfl) ?_
  refine WO_run (j := 1) (k := 1) (orcs := []) (kF := [0, 1, 2, 7]) (kL := []) (fr' := [(0, aI a0), (1, aD (.slice .bool) a1), (2, aI a2), (7, aI a0)]) (L' := []) (obs := []) rfl (by kernel_rfl) allP0 ?_
  obtain ⟨r1, h2, h⟩ := bind_of h
  refine WO_call0 (us := [none, none, none]) (d := 8) (p := True) (j := 2) rfl ⟨by kernel_rfl, by kernel_rfl, by kernel_rfl⟩ trivial (ref_Within_ok h2) (by kernel_rfl) ?_
  refine WO_run (j := 3) (k := 1) (orcs := []) (kF := [0, 1, 2, 9]) (kL := []) (fr' := [(0, aI a0), (1, aD (.slice .bool) a1), (2, aI a2), (9, aB (!r1))]) (L' := []) (obs := []) rfl (by kernel_rfl) allP0 ?_
  refine WO_fin [0, 1, 2, 9] [] (fr' := [(0, aI a0), (1, aD (.slice .bool) a1), (2, aI a2), (9, aB (!r1))]) (L' := []) (by kernel_rfl) (by kernel_rfl) ?_
  refine seqQ_norm ?_
  refine W_cond (o := .tmp 9) (b := !r1) (by kernel_rfl) (by kernel_rfl) (fun h3 => ?_) (fun h3 => ?_)
  · replace h := ofT h3 h
    refine W_seq (by kernel_rfl) ?_
    refine W_run 1 [] [6] [] (fr' := [(6, aI (1 : Int))]) (L' := []) (obs := []) (by kernel_rfl) (by kernel_rfl) (by kernel_rfl) allP0 ?_
    refine seqQ_norm ?_
    obtain rfl := Option.some.inj h
    refine W_ret [6] [] (fr' := [(6, aI (1 : Int))]) (L' := []) (by kernel_rfl) (by kernel_rfl) ?_
    refine seqQ_ret ?_
    exact retQ_mk (by kernel_rfl) (by kernel_rfl) (by kernel_rfl)
  · replace h := ofF h3 h
    refine W_skip [0, 1, 2] [] (fr' := [(0, aI a0), (1, aD (.slice .bool) a1), (2, aI a2)]) (L' := []) (by kernel_rfl) (by kernel_rfl) ?_
    refine seqQ_norm ?_
    refine W_seq (by kernel_rfl) ?_
    refine W_seq (by kernel_rfl) ?_
    obtain ⟨_, h4, h⟩ := bind_of h
    replace h4 := ck_some h4
    refine W_run 6 [] [1, 2, 15] [] (fr' := [(1, aD (.slice .bool) a1), (2, aI a2), (15, aB ((List.length a1 : Int) != (bShl .i64 (1 : Int) (IntKind.wrap .u64 (a0)))))]) (L' := []) (obs := [(0 ≤ IntKind.wrap .u64 (a0))]) (by kernel_rfl) (by kernel_rfl) (by kernel_rfl) (allP1 h4) ?_
    refine seqQ_norm ?_
    refine W_cond (o := .tmp 15) (b := (List.length a1 : Int) != (bShl .i64 (1 : Int) (IntKind.wrap .u64 (a0)))) (by kernel_rfl) (by kernel_rfl) (fun h5 => ?_) (fun h5 => ?_)
    · replace h := ofT h5 h
      refine W_seq (by kernel_rfl) ?_
      refine W_run 1 [] [6] [] (fr' := [(6, aI (3 : Int))]) (L' := []) (obs := []) (by kernel_rfl) (by kernel_rfl) (by kernel_rfl) allP0 ?_
      refine seqQ_norm ?_
      obtain rfl := Option.some.inj h
      refine W_ret [6] [] (fr' := [(6, aI (3 : Int))]) (L' := []) (by kernel_rfl) (by kernel_rfl) ?_
      refine seqQ_ret ?_
      exact retQ_mk (by kernel_rfl) (by kernel_rfl) (by kernel_rfl)
    · replace h := ofF h5 h
      refine W_skip [1, 2] [] (fr' := [(1, aD (.slice .bool) a1), (2, aI a2)]) (L' := []) (by kernel_rfl) (by kernel_rfl) ?_
      refine seqQ_norm ?_
      refine W_seq (by kernel_rfl) ?_
      refine W_seq (by kernel_rfl) ?_
      refine W_region (by kernel_rfl) ?_
      refine WO_run (j := 4) (k := 4) (orcs := []) (kF := [17, 19]) (kL := [19]) (fr' := [(17, aI (List.length a1 : Int)), (19, .one (.slc 19))]) (L' := [(19, .seq tI [a2])]) (obs := []) rfl (by kernel_rfl) allP0 ?_
      obtain ⟨r6, h7, h⟩ := bind_of h
      refine WO_frz 19 (by kernel_rfl) ?_
      refine WO_call0 (us := [none, none]) (d := 20) (p := True) (j := 5) rfl ⟨by kernel_rfl, by kernel_rfl, by kernel_rfl⟩ trivial (ref_Inside_ok h7) (by kernel_rfl) ?_
      refine WO_run (j := 6) (k := 1) (orcs := []) (kF := [21]) (kL := []) (fr' := [(21, aB (!r6))]) (L' := []) (obs := []) rfl (by kernel_rfl) allP0 ?_
      refine WO_fin [21] [] (fr' := [(21, aB (!r6))]) (L' := []) (by kernel_rfl) (by kernel_rfl) ?_
      refine seqQ_norm ?_
      refine W_cond (o := .tmp 21) (b := !r6) (by kernel_rfl) (by kernel_rfl) (fun h8 => ?_) (fun h8 => ?_)
      · replace h := ofT h8 h
        refine W_seq (by kernel_rfl) ?_
        refine W_run 1 [] [6] [] (fr' := [(6, aI (4 : Int))]) (L' := []) (obs := []) (by kernel_rfl) (by kernel_rfl) (by kernel_rfl) allP0 ?_
        refine seqQ_norm ?_
        obtain rfl := Option.some.inj h
        refine W_ret [6] [] (fr' := [(6, aI (4 : Int))]) (L' := []) (by kernel_rfl) (by kernel_rfl) ?_
        refine seqQ_ret ?_
        exact retQ_mk (by kernel_rfl) (by kernel_rfl) (by kernel_rfl)
      · replace h := ofF h8 h
        refine W_skip [] [] (fr' := []) (L' := []) (by kernel_rfl) (by kernel_rfl) ?_
        refine seqQ_norm ?_
        refine W_seq (by kernel_rfl) ?_
        refine W_run 1 [] [6] [] (fr' := [(6, aI (0 : Int))]) (L' := []) (obs := []) (by kernel_rfl) (by kernel_rfl) (by kernel_rfl) allP0 ?_
        refine seqQ_norm ?_
        obtain rfl := Option.some.inj h
        refine W_ret [6] [] (fr' := [(6, aI (0 : Int))]) (L' := []) (by kernel_rfl) (by kernel_rfl) ?_
        exact retQ_mk (by kernel_rfl) (by kernel_rfl) (by kernel_rfl)

def ref_Bit (a0 : Int) (a1 : Int) : Option Bool :=
bif (decide (a1 ≥ (0 : Int))) && (decide (a1 < (63 : Int))) then
((ck (0 ≤ IntKind.wrap .u64 (a1))).bind fun _ =>
some ((bAnd .i64 a0 (bShl .i64 (1 : Int) (IntKind.wrap .u64 (a1)))) != (0 : Int)))
else
(some false)
theorem ref_Bit_ok {a0 : Int} {a1 : Int} {r : Bool} (h : ref_Bit a0 a1 = some r) : FnC Try.prog 36 [aI a0, aI a1] [] (aB r) [] := by
  refine fnC_of_W (B := bodyOf Try.f36) (n := 19) Try.func36 (by kernel_rfl) (by kernel_rfl) (by kernel_rfl) (by kernel_rfl) (by kernel_rfl) ?_
  intro K
  refine W_seq (by kernel_rfl) ?_
  refine W_run 1 [] [0, 1] [] (fr' := [(0, aI a0), (1, aI a1)]) (L' := []) (obs := []) (by kernel_rfl) (by kernel_rfl) (by kernel_rfl) allP0 ?_
  refine seqQ_norm ?_
  refine W_seq (by kernel_rfl) ?_
  refine W_region (by kernel_rfl) ?_
  refine WO_run (j := 7) (k := 7) (orcs := []) (kF := [0, 1, 11]) (kL := []) (fr' := [(0, aI a0), (1, aI a1), (11, aB ((decide (a1 ≥ (0 : Int))) && (decide (a1 < (63 : Int)))))]) (L' := []) (obs := []) rfl (by kernel_rfl) allP0 ?_
  rcases Bool.eq_false_or_eq_true ((decide (a1 ≥ (0 : Int))) && (decide (a1 < (63 : Int)))) with h1 | h1
  · replace h := ofT h1 h
    obtain ⟨_, h2, h⟩ := bind_of h
    replace h2 := ck_some h2
    refine WO_run (j := 15) (k := 8) (orcs := [(14, .known true), (16, .known true), (18, .known true), (20, .known true), (22, .known true), (24, .known true), (27, .val (.dat .bool true))]) (kF := [4]) (kL := []) (fr' := [(4, aB ((bAnd .i64 a0 (bShl .i64 (1 : Int) (IntKind.wrap .u64 (a1)))) != (0 : Int)))]) (L' := []) (obs := [(((decide (a1 ≥ (0 : Int))) && (decide (a1 < (63 : Int)))) = true), (((decide (a1 ≥ (0 : Int))) && (decide (a1 < (63 : Int)))) = true), (((decide (a1 ≥ (0 : Int))) && (decide (a1 < (63 : Int)))) = true), (((decide (a1 ≥ (0 : Int))) && (decide (a1 < (63 : Int)))) = true), (0 ≤ IntKind.wrap .u64 (a1)), (((decide (a1 ≥ (0 : Int))) && (decide (a1 < (63 : Int)))) = true), (((decide (a1 ≥ (0 : Int))) && (decide (a1 < (63 : Int)))) = true), (((decide (a1 ≥ (0 : Int))) && (decide (a1 < (63 : Int)))) = true)]) rfl (by kernel_rfl) (allP2 h1 (allP2 h1 (allP2 h1 (allP2 h1 (allP2 h2 (allP2 h1 (allP2 h1 (allP1 h1)))))))) ?_
    refine WO_fin [4] [] (fr' := [(4, aB ((bAnd .i64 a0 (bShl .i64 (1 : Int) (IntKind.wrap .u64 (a1)))) != (0 : Int)))]) (L' := []) (by kernel_rfl) (by kernel_rfl) ?_
    refine seqQ_norm ?_
    obtain rfl := Option.some.inj h
    refine W_ret [4] [] (fr' := [(4, aB ((bAnd .i64 a0 (bShl .i64 (1 : Int) (IntKind.wrap .u64 (a1)))) != (0 : Int)))]) (L' := []) (by kernel_rfl) (by kernel_rfl) ?_
    exact retQ_mk (by kernel_rfl) (by kernel_rfl) (by kernel_rfl)
  · replace h := ofF h1 h
    refine WO_run (j := 15) (k := 8) (orcs := [(14, .known false), (16, .known false), (18, .known false), (20, .known false), (22, .known false), (24, .known false), (27, .val (.dat .bool false))]) (kF := [4]) (kL := []) (fr' := [(4, aB false)]) (L' := []) (obs := [(((decide (a1 ≥ (0 : Int))) && (decide (a1 < (63 : Int)))) = false), (((decide (a1 ≥ (0 : Int))) && (decide (a1 < (63 : Int)))) = false), (((decide (a1 ≥ (0 : Int))) && (decide (a1 < (63 : Int)))) = false), (((decide (a1 ≥ (0 : Int))) && (decide (a1 < (63 : Int)))) = false), (((decide (a1 ≥ (0 : Int))) && (decide (a1 < (63 : Int)))) = false), (((decide (a1 ≥ (0 : Int))) && (decide (a1 < (63 : Int)))) = false), (((decide (a1 ≥ (0 : Int))) && (decide (a1 < (63 : Int)))) = false)]) rfl (by kernel_rfl) (allP2 h1 (allP2 h1 (allP2 h1 (allP2 h1 (allP2 h1 (allP2 h1 (allP1 h1))))))) ?_
    refine WO_fin [4] [] (fr' := [(4, aB false)]) (L' := []) (by kernel_rfl) (by kernel_rfl) ?_
    refine seqQ_norm ?_
    obtain rfl := Option.some.inj h
    refine W_ret [4] [] (fr' := [(4, aB false)]) (L' := []) (by kernel_rfl) (by kernel_rfl) ?_
    exact retQ_mk (by kernel_rfl) (by kernel_rfl) (by kernel_rfl)

@[reducible] def ref_Size_s3 (a0 : Int) (i27 : Int) (v : Int) : Fr × LL := ([(0, aI a0), (3, aI v), (4, aI i27)], [])
def ref_Size_b4 (a0 : Int) (i27 : Int) (x28 : Int) : Option (Flow Int Int) :=
((ref_Bit a0 i27).bind fun r37 =>
bif r37 then
(some (w64 (x28 + (1 : Int))))
else
(some x28)).bind fun v40 =>
some (.next v40)
@[reducible] def ref_Size_s5 (a0 : Int) (v : Int × Int) : Fr × LL := ([(0, aI a0), (3, aI v.2), (4, aI v.1)], [])
@[reducible] def ref_Size_s6 (v : Int) : Fr × LL := ([(3, aI v)], [])
def ref_Size (a0 : Int) : Option Int :=
(forI (0 : Int) (63 : Int) (ref_Size_b4 a0) (fun x28 => x28) (0 : Int)).bind fun v43 =>
some v43
theorem ref_Size_ok {a0 : Int} {r : Int} (h : ref_Size a0 = some r) : FnC Try.prog 19 [aI a0] [] (aI r) [] := by
  refine fnC_of_W (B := bodyOf Try.f19) (n := 15) Try.func19 (by kernel_rfl) (by kernel_rfl) (by kernel_rfl) (by kernel_rfl) (by kernel_rfl) ?_
  intro K
  refine W_seq (by kernel_rfl) ?_
  refine W_run 1 [] [0] [] (fr' := [(0, aI a0)]) (L' := []) (obs := []) (by kernel_rfl) (by kernel_rfl) (by kernel_rfl) allP0 ?_
  refine seqQ_norm ?_
  refine W_seq (by kernel_rfl) ?_
  refine W_run 1 [] [0, 3] [] (fr' := [(0, aI a0), (3, aI (0 : Int))]) (L' := []) (obs := []) (by kernel_rfl) (by kernel_rfl) (by kernel_rfl) allP0 ?_
  refine seqQ_norm ?_
  refine W_seq (by kernel_rfl) ?_
  refine W_seq (by kernel_rfl) ?_
  refine W_run 1 [] [0, 3, 4] [] (fr' := [(0, aI a0), (3, aI (0 : Int)), (4, aI (0 : Int))]) (L' := []) (obs := []) (by kernel_rfl) (by kernel_rfl) (by kernel_rfl) allP0 ?_
  refine seqQ_norm ?_
  refine W_block (id := 0) (by kernel_rfl) ?_
  obtain ⟨v43, h44, h⟩ := bind_of h
  obtain ⟨h45, h46⟩ := forI_iter h44
  refine W_weaken [0, 3, 4] [] (fr' := ((ref_Size_s5 a0) ((0 : Int), (0 : Int))).1) (L' := ((ref_Size_s5 a0) ((0 : Int), (0 : Int))).2) (by kernel_rfl) ?_
  refine W_cutK (W_loop (S := (ref_Size_s5 a0)) (J := (exQ (.exit 0) ref_Size_s6)) (by kernel_rfl) ?_ h45 _ v43 h46) ?_
  · rintro ⟨i27, x28⟩ s h
    refine W_seq (by kernel_rfl) ?_
    refine W_seq (by kernel_rfl) ?_
    refine W_run 2 [] [0, 3, 4, 6] [] (fr' := [(0, aI a0), (3, aI x28), (4, aI i27), (6, aB (decide (i27 < (63 : Int))))]) (L' := []) (obs := []) (by kernel_rfl) (by kernel_rfl) (by kernel_rfl) allP0 ?_
    refine seqQ_norm ?_
    refine W_cond (o := .tmp 6) (b := decide (i27 < (63 : Int))) (by kernel_rfl) (by kernel_rfl) (fun h30 => ?_) (fun h30 => ?_)
    · replace h := stepI_true h30 h
      obtain ⟨_, h, rfl⟩ := h
      refine W_skip [0, 3, 4] [] (fr' := [(0, aI a0), (3, aI x28), (4, aI i27)]) (L' := []) (by kernel_rfl) (by kernel_rfl) ?_
      refine seqQ_norm ?_
      refine W_seq (by kernel_rfl) ?_
      obtain ⟨v40, h41, h⟩ := bind_of h
      refine W_cutK (Q' := (exQ .normal (ref_Size_s3 a0 i27)) v40) ?_ ?_
      · replace h := h41
        refine W_block (id := 1) (by kernel_rfl) ?_
        refine W_seq (by kernel_rfl) ?_
        refine W_region (by kernel_rfl) ?_
        refine WO_run (j := 2) (k := 2) (orcs := []) (kF := [0, 3, 4, 9, 10]) (kL := []) (fr' := [(0, aI a0), (3, aI x28), (4, aI i27), (9, aI a0), (10, aI i27)]) (L' := []) (obs := []) rfl (by kernel_rfl) allP0 ?_
        obtain ⟨r37, h38, h⟩ := bind_of h
        refine WO_call0 (us := [none, none]) (d := 11) (p := True) (j := 3) rfl ⟨by kernel_rfl, by kernel_rfl, by kernel_rfl⟩ trivial (ref_Bit_ok h38) (by kernel_rfl) ?_
        refine WO_fin [0, 3, 4, 11] [] (fr' := [(0, aI a0), (3, aI x28), (4, aI i27), (11, aB r37)]) (L' := []) (by kernel_rfl) (by kernel_rfl) ?_
        refine seqQ_norm ?_
        refine W_cond (o := .tmp 11) (b := r37) (by kernel_rfl) (by kernel_rfl) (fun h39 => ?_) (fun h39 => ?_)
        · replace h := ofT h39 h
          obtain rfl := Option.some.inj h
          refine W_run 3 [] [0, 3, 4] [] (fr' := [(0, aI a0), (3, aI (w64 (x28 + (1 : Int)))), (4, aI i27)]) (L' := []) (obs := []) (by kernel_rfl) (by kernel_rfl) (by kernel_rfl) allP0 ?_
          refine blockQ_norm ?_
          exact exQ_mk (by kernel_rfl) (by kernel_rfl)
        · replace h := ofF h39 h
          obtain rfl := Option.some.inj h
          refine W_skip [0, 3, 4] [] (fr' := [(0, aI a0), (3, aI x28), (4, aI i27)]) (L' := []) (by kernel_rfl) (by kernel_rfl) ?_
          refine blockQ_norm ?_
          exact exQ_mk (by kernel_rfl) (by kernel_rfl)
      · intro e fr L hJ
        obtain ⟨rfl, rfl, rfl⟩ := hJ
        refine LT_keep [0, 3, 4] [] (fr' := [(0, aI a0), (3, aI v40), (4, aI i27)]) (L' := []) (by kernel_rfl) ?_
        refine seqQ_norm ?_
        obtain rfl := Option.some.inj h
        refine W_run 3 [] [0, 3, 4] [] (fr' := [(0, aI a0), (3, aI v40), (4, aI (w64 (i27 + (1 : Int))))]) (L' := []) (obs := []) (by kernel_rfl) (by kernel_rfl) (by kernel_rfl) allP0 ?_
        exact round_next' (by kernel_rfl) (by kernel_rfl)
    · obtain rfl := stepI_false h30 h
      refine W_exit (id := 0) [3] [] (fr' := [(3, aI x28)]) (L' := []) (by kernel_rfl) (by kernel_rfl) ?_
      refine seqQ_exit ?_
      refine round_exit ?_
      exact exQ_mk (by kernel_rfl) (by kernel_rfl)
  · intro e fr L hJ
    obtain ⟨rfl, rfl, rfl⟩ := hJ
    refine LT_keep [3] [] (fr' := [(3, aI v43)]) (L' := []) (by kernel_rfl) ?_
    refine blockQ_hit ?_
    refine seqQ_norm ?_
    refine W_seq (by kernel_rfl) ?_
    refine W_run 2 [] [2] [] (fr' := [(2, aI v43)]) (L' := []) (obs := []) (by kernel_rfl) (by kernel_rfl) (by kernel_rfl) allP0 ?_
    refine seqQ_norm ?_
    obtain rfl := Option.some.inj h
    refine W_ret [2] [] (fr' := [(2, aI v43)]) (L' := []) (by kernel_rfl) (by kernel_rfl) ?_
    exact retQ_mk (by kernel_rfl) (by kernel_rfl) (by kernel_rfl)

@[reducible] def ref_Degree_s169 (a1 : (List Bool)) (i1035 : Int) (x1036 : Int) (i1493 : Int) (x1494 : Int) (v : Bool) : Fr × LL := ([(1, aD (.slice .bool) a1), (5, aI x1036), (6, aI i1035), (7, aI x1494), (8, aI i1493), (32, aB v)], [])
def ref_Degree_g170 (i1035 : Int) (i1493 : Int) (x1494 : Int) (v1496 : Bool) : Option Int :=
(bif (bOr .i64 i1493 i1035) != i1035 then
(some true)
else
(some (!v1496))).bind fun v1524 =>
bif v1524 then
(some x1494)
else
((ref_Size i1035).bind fun r1527 =>
(ref_Size i1493).bind fun r1529 =>
bif (Int.tmod (w64 (r1527 - r1529)) (2 : Int)) == (0 : Int) then
(some (w64 (x1494 + (1 : Int))))
else
(some (w64 (x1494 - (1 : Int)))))
@[reducible] def ref_Degree_s171 (a1 : (List Bool)) (i1035 : Int) (x1036 : Int) (i1493 : Int) (v : Int) : Fr × LL := ([(1, aD (.slice .bool) a1), (5, aI x1036), (6, aI i1035), (7, aI v), (8, aI i1493)], [])
def ref_Degree_b172 (i1035 : Int) (i1493 : Int) (v1496 : Bool) (x1494 : Int) : Option (Flow Int Int) :=
(ref_Degree_g170 i1035 i1493 x1494 v1496).bind fun v1532 =>
some (.next v1532)
@[reducible] def ref_Degree_s173 (a1 : (List Bool)) (i1035 : Int) (x1036 : Int) (v : Int × Int) : Fr × LL := ([(1, aD (.slice .bool) a1), (5, aI x1036), (6, aI i1035), (7, aI v.2), (8, aI v.1)], [])
@[reducible] def ref_Degree_s174 (a1 : (List Bool)) (i1035 : Int) (x1036 : Int) (v : Int) : Fr × LL := ([(1, aD (.slice .bool) a1), (5, aI x1036), (6, aI i1035), (7, aI v)], [])
@[reducible] def ref_Degree_s175 (a1 : (List Bool)) (i1035 : Int) (x1036 : Int) (v : Bool) : Fr × LL := ([(1, aD (.slice .bool) a1), (5, aI x1036), (6, aI i1035), (51, aB v)], [])
def ref_Degree_g176 (a1 : (List Bool)) (i1035 : Int) (x1036 : Int) : Option Int :=
(forL (ref_Degree_b172 i1035) (fun x1494 => x1494) a1 0 (0 : Int)).bind fun v1535 =>
(bif v1535 != (0 : Int) then
((ref_Size i1035).bind fun r1547 =>
some (decide (r1547 > x1036)))
else
(some false)).bind fun v1549 =>
bif v1549 then
((ref_Size i1035).bind fun r1552 =>
some r1552)
else
(some x1036)
@[reducible] def ref_Degree_s177 (a1 : (List Bool)) (i1035 : Int) (v : Int) : Fr × LL := ([(1, aD (.slice .bool) a1), (5, aI v), (6, aI i1035)], [])
def ref_Degree_b178 (a1 : (List Bool)) (i1035 : Int) (v1038 : Bool) (x1036 : Int) : Option (Flow Int Int) :=
(ref_Degree_g176 a1 i1035 x1036).bind fun v1554 =>
some (.next v1554)
@[reducible] def ref_Degree_s179 (a1 : (List Bool)) (v : Int × Int) : Fr × LL := ([(1, aD (.slice .bool) a1), (5, aI v.2), (6, aI v.1)], [])
@[reducible] def ref_Degree_s180 (v : Int) : Fr × LL := ([(5, aI v)], [])
def ref_Degree (a0 : Int) (a1 : (List Bool)) : Option Int :=
(forL (ref_Degree_b178 a1) (fun x1036 => x1036) a1 0 (0 : Int)).bind fun v1557 =>
some v1557
theorem ref_Degree_ok {a0 : Int} {a1 : (List Bool)} {r : Int} (h : ref_Degree a0 a1 = some r) : FnC Try.prog 29 [aI a0, aD (.slice .bool) a1] [] (aI r) [] := by
  refine fnC_of_W (B := bodyOf Try.f29) (n := 55) Try.func29 (by kernel_rfl) (by kernel_rfl) (by kernel_rfl) (by kernel_rfl) (by kernel_rfl) ?_
  intro K
  refine W_seq (by kernel_rfl) ?_
  refine W_run 1 [] [1] [] (fr' := [(1, aD (.slice .bool) a1)]) (L' := []) (obs := []) (by kernel_rfl) (by kernel_rfl) (by kernel_rfl) allP0 ?_
  refine seqQ_norm ?_
  refine W_seq (by kernel_rfl) ?_
  refine W_run 1 [] [1, 5] [] (fr' := [(1, aD (.slice .bool) a1), (5, aI (0 : Int))]) (L' := []) (obs := []) (by kernel_rfl) (by kernel_rfl) (by kernel_rfl) allP0 ?_
  refine seqQ_norm ?_
  refine W_seq (by kernel_rfl) ?_
  refine W_seq (by kernel_rfl) ?_
  refine W_run 1 [] [1, 5, 6] [] (fr' := [(1, aD (.slice .bool) a1), (5, aI (0 : Int)), (6, aI (0 : Int))]) (L' := []) (obs := []) (by kernel_rfl) (by kernel_rfl) (by kernel_rfl) allP0 ?_
  refine seqQ_norm ?_
  refine W_block (id := 0) (by kernel_rfl) ?_
  obtain ⟨v1557, h1558, h⟩ := bind_of h
  refine W_len (t := 1) (u := .bool) (xs := a1) (by kernel_rfl) (fun h1561 => ?_)
  obtain ⟨h1559, h1560⟩ := forL_iter h1561 h1558
  refine W_weaken [1, 5, 6] [] (fr' := ((ref_Degree_s179 a1) ((0 : Int), (0 : Int))).1) (L' := ((ref_Degree_s179 a1) ((0 : Int), (0 : Int))).2) (by kernel_rfl) ?_
  refine W_cutK (W_loop (S := (ref_Degree_s179 a1)) (J := (exQ (.exit 0) ref_Degree_s180)) (by kernel_rfl) ?_ h1559 _ v1557 h1560) ?_
  · rintro ⟨i1035, x1036⟩ s h
    refine W_seq (by kernel_rfl) ?_
    refine W_seq (by kernel_rfl) ?_
    refine W_run 4 [] [1, 5, 6, 12] [] (fr' := [(1, aD (.slice .bool) a1), (5, aI x1036), (6, aI i1035), (12, aB (decide (i1035 < (List.length a1 : Int))))]) (L' := []) (obs := []) (by kernel_rfl) (by kernel_rfl) (by kernel_rfl) allP0 ?_
    refine seqQ_norm ?_
    refine W_cond (o := .tmp 12) (b := decide (i1035 < (List.length a1 : Int))) (by kernel_rfl) (by kernel_rfl) (fun h1040 => ?_) (fun h1040 => ?_)
    · replace h := stepL_true h1040 h
      obtain ⟨v1038, _, h1039, h, rfl⟩ := h
      refine W_skip [1, 5, 6] [] (fr' := [(1, aD (.slice .bool) a1), (5, aI x1036), (6, aI i1035)]) (L' := []) (by kernel_rfl) (by kernel_rfl) ?_
      refine seqQ_norm ?_
      refine W_seq (by kernel_rfl) ?_
      obtain ⟨v1554, h1555, h⟩ := bind_of h
      refine W_cutK (Q' := (exQ .normal (ref_Degree_s177 a1 i1035)) v1554) ?_ ?_
      · replace h := h1555
        refine W_block (id := 1) (by kernel_rfl) ?_
        refine W_seq (by kernel_rfl) ?_
        refine W_run 1 [] [1, 5, 6, 7] [] (fr' := [(1, aD (.slice .bool) a1), (5, aI x1036), (6, aI i1035), (7, aI (0 : Int))]) (L' := []) (obs := []) (by kernel_rfl) (by kernel_rfl) (by kernel_rfl) allP0 ?_
        refine seqQ_norm ?_
        refine W_seq (by kernel_rfl) ?_
        refine W_seq (by kernel_rfl) ?_
        refine W_run 1 [] [1, 5, 6, 7, 8] [] (fr' := [(1, aD (.slice .bool) a1), (5, aI x1036), (6, aI i1035), (7, aI (0 : Int)), (8, aI (0 : Int))]) (L' := []) (obs := []) (by kernel_rfl) (by kernel_rfl) (by kernel_rfl) allP0 ?_
        refine seqQ_norm ?_
        refine W_block (id := 2) (by kernel_rfl) ?_
        obtain ⟨v1535, h1536, h⟩ := bind_of h
        refine W_len (t := 1) (u := .bool) (xs := a1) (by kernel_rfl) (fun h1539 => ?_)
        obtain ⟨h1537, h1538⟩ := forL_iter h1539 h1536
        refine W_weaken [1, 5, 6, 7, 8] [] (fr' := ((ref_Degree_s173 a1 i1035 x1036) ((0 : Int), (0 : Int))).1) (L' := ((ref_Degree_s173 a1 i1035 x1036) ((0 : Int), (0 : Int))).2) (by kernel_rfl) ?_
        refine W_cutK (W_loop (S := (ref_Degree_s173 a1 i1035 x1036)) (J := (exQ (.exit 2) (ref_Degree_s174 a1 i1035 x1036))) (by kernel_rfl) ?_ h1537 _ v1535 h1538) ?_
        · rintro ⟨i1493, x1494⟩ s h
          refine W_seq (by kernel_rfl) ?_
          refine W_seq (by kernel_rfl) ?_
          refine W_run 4 [] [1, 5, 6, 7, 8, 18] [] (fr' := [(1, aD (.slice .bool) a1), (5, aI x1036), (6, aI i1035), (7, aI x1494), (8, aI i1493), (18, aB (decide (i1493 < (List.length a1 : Int))))]) (L' := []) (obs := []) (by kernel_rfl) (by kernel_rfl) (by kernel_rfl) allP0 ?_
          refine seqQ_norm ?_
          refine W_cond (o := .tmp 18) (b := decide (i1493 < (List.length a1 : Int))) (by kernel_rfl) (by kernel_rfl) (fun h1498 => ?_) (fun h1498 => ?_)
          · replace h := stepL_true h1498 h
            obtain ⟨v1496, _, h1497, h, rfl⟩ := h
            refine W_skip [1, 5, 6, 7, 8] [] (fr' := [(1, aD (.slice .bool) a1), (5, aI x1036), (6, aI i1035), (7, aI x1494), (8, aI i1493)]) (L' := []) (by kernel_rfl) (by kernel_rfl) ?_
            refine seqQ_norm ?_
            refine W_seq (by kernel_rfl) ?_
            obtain ⟨v1532, h1533, h⟩ := bind_of h
            refine W_cutK (Q' := (exQ .normal (ref_Degree_s171 a1 i1035 x1036 i1493)) v1532) ?_ ?_
            · replace h := h1533
              refine W_block (id := 3) (by kernel_rfl) ?_
              refine W_seq (by kernel_rfl) ?_
              refine W_seq (by kernel_rfl) ?_
              obtain ⟨v1524, h1525, h⟩ := bind_of h
              refine W_cutK (Q' := (exQ .normal (ref_Degree_s169 a1 i1035 x1036 i1493 x1494)) v1524) ?_ ?_
              · replace h := h1525
                refine W_region (by kernel_rfl) ?_
                refine WO_run (j := 6) (k := 6) (orcs := []) (kF := [1, 5, 6, 7, 8, 26]) (kL := []) (fr' := [(1, aD (.slice .bool) a1), (5, aI x1036), (6, aI i1035), (7, aI x1494), (8, aI i1493), (26, aB ((bOr .i64 i1493 i1035) != i1035))]) (L' := []) (obs := []) rfl (by kernel_rfl) allP0 ?_
                rcases Bool.eq_false_or_eq_true ((bOr .i64 i1493 i1035) != i1035) with h1523 | h1523
                · replace h := ofT h1523 h
                  refine WO_run (j := 12) (k := 6) (orcs := [(12, .known true), (14, .known true), (16, .known true), (18, .known true), (20, .known true), (23, .val (.dat .bool true))]) (kF := [1, 5, 6, 7, 8, 32]) (kL := []) (fr' := [(1, aD (.slice .bool) a1), (5, aI x1036), (6, aI i1035), (7, aI x1494), (8, aI i1493), (32, aB true)]) (L' := []) (obs := [(((bOr .i64 i1493 i1035) != i1035) = true), (((bOr .i64 i1493 i1035) != i1035) = true), (((bOr .i64 i1493 i1035) != i1035) = true), (((bOr .i64 i1493 i1035) != i1035) = true), (((bOr .i64 i1493 i1035) != i1035) = true), (((bOr .i64 i1493 i1035) != i1035) = true)]) rfl (by kernel_rfl) (allP2 h1523 (allP2 h1523 (allP2 h1523 (allP2 h1523 (allP2 h1523 (allP1 h1523)))))) ?_
                  obtain rfl := Option.some.inj h
                  refine WO_fin [1, 5, 6, 7, 8, 32] [] (fr' := [(1, aD (.slice .bool) a1), (5, aI x1036), (6, aI i1035), (7, aI x1494), (8, aI i1493), (32, aB true)]) (L' := []) (by kernel_rfl) (by kernel_rfl) ?_
                  exact exQ_mk (by kernel_rfl) (by kernel_rfl)
                · replace h := ofF h1523 h
                  refine WO_run (j := 12) (k := 6) (orcs := [(12, .known false), (14, .known false), (16, .known false), (17, .val (.dat .bool v1496)), (18, .known false), (20, .known false), (23, .val (.dat .bool false))]) (kF := [1, 5, 6, 7, 8, 32]) (kL := []) (fr' := [(1, aD (.slice .bool) a1), (5, aI x1036), (6, aI i1035), (7, aI x1494), (8, aI i1493), (32, aB (!v1496))]) (L' := []) (obs := [(((bOr .i64 i1493 i1035) != i1035) = false), (((bOr .i64 i1493 i1035) != i1035) = false), (((bOr .i64 i1493 i1035) != i1035) = false), Idx a1 i1493 v1496, (((bOr .i64 i1493 i1035) != i1035) = false), (((bOr .i64 i1493 i1035) != i1035) = false), (((bOr .i64 i1493 i1035) != i1035) = false)]) rfl (by kernel_rfl) (allP2 h1523 (allP2 h1523 (allP2 h1523 (allP2 (Idx.of h1497) (allP2 h1523 (allP2 h1523 (allP1 h1523))))))) ?_
                  obtain rfl := Option.some.inj h
                  refine WO_fin [1, 5, 6, 7, 8, 32] [] (fr' := [(1, aD (.slice .bool) a1), (5, aI x1036), (6, aI i1035), (7, aI x1494), (8, aI i1493), (32, aB (!v1496))]) (L' := []) (by kernel_rfl) (by kernel_rfl) ?_
                  exact exQ_mk (by kernel_rfl) (by kernel_rfl)
              · intro e fr L hJ
                obtain ⟨rfl, rfl, rfl⟩ := hJ
                refine LT_keep [1, 5, 6, 7, 8, 32] [] (fr' := [(1, aD (.slice .bool) a1), (5, aI x1036), (6, aI i1035), (7, aI x1494), (8, aI i1493), (32, aB v1524)]) (L' := []) (by kernel_rfl) ?_
                refine seqQ_norm ?_
                refine W_cond (o := .tmp 32) (b := v1524) (by kernel_rfl) (by kernel_rfl) (fun h1526 => ?_) (fun h1526 => ?_)
                · replace h := ofT h1526 h
                  obtain rfl := Option.some.inj h
                  refine W_exit (id := 3) [1, 5, 6, 7, 8] [] (fr' := [(1, aD (.slice .bool) a1), (5, aI x1036), (6, aI i1035), (7, aI x1494), (8, aI i1493)]) (L' := []) (by kernel_rfl) (by kernel_rfl) ?_
                  refine seqQ_exit ?_
                  refine blockQ_hit ?_
                  exact exQ_mk (by kernel_rfl) (by kernel_rfl)
                · replace h := ofF h1526 h
                  refine W_skip [1, 5, 6, 7, 8] [] (fr' := [(1, aD (.slice .bool) a1), (5, aI x1036), (6, aI i1035), (7, aI x1494), (8, aI i1493)]) (L' := []) (by kernel_rfl) (by kernel_rfl) ?_
                  refine seqQ_norm ?_
                  refine W_seq (by kernel_rfl) ?_
                  refine W_region (by kernel_rfl) ?_
                  refine WO_run (j := 1) (k := 1) (orcs := []) (kF := [1, 5, 6, 7, 8, 33]) (kL := []) (fr' := [(1, aD (.slice .bool) a1), (5, aI x1036), (6, aI i1035), (7, aI x1494), (8, aI i1493), (33, aI i1035)]) (L' := []) (obs := []) rfl (by kernel_rfl) allP0 ?_
                  obtain ⟨r1527, h1528, h⟩ := bind_of h
                  refine WO_call0 (us := [none]) (d := 34) (p := True) (j := 2) rfl ⟨by kernel_rfl, by kernel_rfl, by kernel_rfl⟩ trivial (ref_Size_ok h1528) (by kernel_rfl) ?_
                  refine WO_run (j := 3) (k := 1) (orcs := []) (kF := [1, 5, 6, 7, 8, 34, 35]) (kL := []) (fr' := [(1, aD (.slice .bool) a1), (5, aI x1036), (6, aI i1035), (7, aI x1494), (8, aI i1493), (34, aI r1527), (35, aI i1493)]) (L' := []) (obs := []) rfl (by kernel_rfl) allP0 ?_
                  obtain ⟨r1529, h1530, h⟩ := bind_of h
                  refine WO_call0 (us := [none]) (d := 36) (p := True) (j := 4) rfl ⟨by kernel_rfl, by kernel_rfl, by kernel_rfl⟩ trivial (ref_Size_ok h1530) (by kernel_rfl) ?_
                  refine WO_run (j := 7) (k := 3) (orcs := []) (kF := [1, 5, 6, 7, 8, 39]) (kL := []) (fr' := [(1, aD (.slice .bool) a1), (5, aI x1036), (6, aI i1035), (7, aI x1494), (8, aI i1493), (39, aB ((Int.tmod (w64 (r1527 - r1529)) (2 : Int)) == (0 : Int)))]) (L' := []) (obs := [((2 : Int) ≠ 0)]) rfl (by kernel_rfl) (allP1 (by decide)) ?_
                  refine WO_fin [1, 5, 6, 7, 8, 39] [] (fr' := [(1, aD (.slice .bool) a1), (5, aI x1036), (6, aI i1035), (7, aI x1494), (8, aI i1493), (39, aB ((Int.tmod (w64 (r1527 - r1529)) (2 : Int)) == (0 : Int)))]) (L' := []) (by kernel_rfl) (by kernel_rfl) ?_
                  refine seqQ_norm ?_
                  refine W_cond (o := .tmp 39) (b := (Int.tmod (w64 (r1527 - r1529)) (2 : Int)) == (0 : Int)) (by kernel_rfl) (by kernel_rfl) (fun h1531 => ?_) (fun h1531 => ?_)
                  · replace h := ofT h1531 h
                    obtain rfl := Option.some.inj h
                    refine W_run 3 [] [1, 5, 6, 7, 8] [] (fr' := [(1, aD (.slice .bool) a1), (5, aI x1036), (6, aI i1035), (7, aI (w64 (x1494 + (1 : Int)))), (8, aI i1493)]) (L' := []) (obs := []) (by kernel_rfl) (by kernel_rfl) (by kernel_rfl) allP0 ?_
                    refine blockQ_norm ?_
                    exact exQ_mk (by kernel_rfl) (by kernel_rfl)
                  · replace h := ofF h1531 h
                    obtain rfl := Option.some.inj h
                    refine W_run 3 [] [1, 5, 6, 7, 8] [] (fr' := [(1, aD (.slice .bool) a1), (5, aI x1036), (6, aI i1035), (7, aI (w64 (x1494 - (1 : Int)))), (8, aI i1493)]) (L' := []) (obs := []) (by kernel_rfl) (by kernel_rfl) (by kernel_rfl) allP0 ?_
                    refine blockQ_norm ?_
                    exact exQ_mk (by kernel_rfl) (by kernel_rfl)
            · intro e fr L hJ
              obtain ⟨rfl, rfl, rfl⟩ := hJ
              refine LT_keep [1, 5, 6, 7, 8] [] (fr' := [(1, aD (.slice .bool) a1), (5, aI x1036), (6, aI i1035), (7, aI v1532), (8, aI i1493)]) (L' := []) (by kernel_rfl) ?_
              refine seqQ_norm ?_
              obtain rfl := Option.some.inj h
              refine W_run 3 [] [1, 5, 6, 7, 8] [] (fr' := [(1, aD (.slice .bool) a1), (5, aI x1036), (6, aI i1035), (7, aI v1532), (8, aI (w64 (i1493 + (1 : Int))))]) (L' := []) (obs := []) (by kernel_rfl) (by kernel_rfl) (by kernel_rfl) allP0 ?_
              exact round_next' (by kernel_rfl) (by kernel_rfl)
          · obtain rfl := stepL_false h1498 h
            refine W_exit (id := 2) [1, 5, 6, 7] [] (fr' := [(1, aD (.slice .bool) a1), (5, aI x1036), (6, aI i1035), (7, aI x1494)]) (L' := []) (by kernel_rfl) (by kernel_rfl) ?_
            refine seqQ_exit ?_
            refine round_exit ?_
            exact exQ_mk (by kernel_rfl) (by kernel_rfl)
        · intro e fr L hJ
          obtain ⟨rfl, rfl, rfl⟩ := hJ
          refine LT_keep [1, 5, 6, 7] [] (fr' := [(1, aD (.slice .bool) a1), (5, aI x1036), (6, aI i1035), (7, aI v1535)]) (L' := []) (by kernel_rfl) ?_
          refine blockQ_hit ?_
          refine seqQ_norm ?_
          refine W_seq (by kernel_rfl) ?_
          obtain ⟨v1549, h1550, h⟩ := bind_of h
          refine W_cutK (Q' := (exQ .normal (ref_Degree_s175 a1 i1035 x1036)) v1549) ?_ ?_
          · replace h := h1550
            refine W_region (by kernel_rfl) ?_
            refine WO_run (j := 3) (k := 3) (orcs := []) (kF := [1, 5, 6, 46]) (kL := []) (fr' := [(1, aD (.slice .bool) a1), (5, aI x1036), (6, aI i1035), (46, aB (v1535 != (0 : Int)))]) (L' := []) (obs := []) rfl (by kernel_rfl) allP0 ?_
            rcases Bool.eq_false_or_eq_true (v1535 != (0 : Int)) with h1546 | h1546
            · replace h := ofT h1546 h
              refine WO_run (j := 4) (k := 1) (orcs := [(6, .known true)]) (kF := [1, 5, 6, 46, 47]) (kL := []) (fr' := [(1, aD (.slice .bool) a1), (5, aI x1036), (6, aI i1035), (46, aB (v1535 != (0 : Int))), (47, aI i1035)]) (L' := []) (obs := [((v1535 != (0 : Int)) = true)]) rfl (by kernel_rfl) (allP1 h1546) ?_
              obtain ⟨r1547, h1548, h⟩ := bind_of h
              refine WO_call0 (us := [none]) (d := 48) (p := ((v1535 != (0 : Int)) = true)) (j := 5) rfl ⟨by kernel_rfl, by kernel_rfl, by kernel_rfl⟩ h1546 (ref_Size_ok h1548) (by kernel_rfl) ?_
              refine WO_run (j := 8) (k := 3) (orcs := [(10, .known true), (12, .known true), (15, .val (.dat .bool true))]) (kF := [1, 5, 6, 51]) (kL := []) (fr' := [(1, aD (.slice .bool) a1), (5, aI x1036), (6, aI i1035), (51, aB (decide (r1547 > x1036)))]) (L' := []) (obs := [((v1535 != (0 : Int)) = true), ((v1535 != (0 : Int)) = true), ((v1535 != (0 : Int)) = true)]) rfl (by kernel_rfl) (allP2 h1546 (allP2 h1546 (allP1 h1546))) ?_
              obtain rfl := Option.some.inj h
              refine WO_fin [1, 5, 6, 51] [] (fr' := [(1, aD (.slice .bool) a1), (5, aI x1036), (6, aI i1035), (51, aB (decide (r1547 > x1036)))]) (L' := []) (by kernel_rfl) (by kernel_rfl) ?_
              exact exQ_mk (by kernel_rfl) (by kernel_rfl)
            · replace h := ofF h1546 h
              refine WO_run (j := 8) (k := 5) (orcs := [(6, .known false), (8, .known false), (10, .known false), (12, .known false), (15, .val (.dat .bool false))]) (kF := [1, 5, 6, 51]) (kL := []) (fr' := [(1, aD (.slice .bool) a1), (5, aI x1036), (6, aI i1035), (51, aB false)]) (L' := []) (obs := [((v1535 != (0 : Int)) = false), ((v1535 != (0 : Int)) = false), ((v1535 != (0 : Int)) = false), ((v1535 != (0 : Int)) = false), ((v1535 != (0 : Int)) = false)]) rfl (by kernel_rfl) (allP2 h1546 (allP2 h1546 (allP2 h1546 (allP2 h1546 (allP1 h1546))))) ?_
              obtain rfl := Option.some.inj h
              refine WO_fin [1, 5, 6, 51] [] (fr' := [(1, aD (.slice .bool) a1), (5, aI x1036), (6, aI i1035), (51, aB false)]) (L' := []) (by kernel_rfl) (by kernel_rfl) ?_
              exact exQ_mk (by kernel_rfl) (by kernel_rfl)
          · intro e fr L hJ
            obtain ⟨rfl, rfl, rfl⟩ := hJ
            refine LT_keep [1, 5, 6, 51] [] (fr' := [(1, aD (.slice .bool) a1), (5, aI x1036), (6, aI i1035), (51, aB v1549)]) (L' := []) (by kernel_rfl) ?_
            refine seqQ_norm ?_
            refine W_cond (o := .tmp 51) (b := v1549) (by kernel_rfl) (by kernel_rfl) (fun h1551 => ?_) (fun h1551 => ?_)
            · replace h := ofT h1551 h
              refine W_region (by kernel_rfl) ?_
              refine WO_run (j := 1) (k := 1) (orcs := []) (kF := [1, 5, 6, 52]) (kL := []) (fr' := [(1, aD (.slice .bool) a1), (5, aI x1036), (6, aI i1035), (52, aI i1035)]) (L' := []) (obs := []) rfl (by kernel_rfl) allP0 ?_
              obtain ⟨r1552, h1553, h⟩ := bind_of h
              refine WO_call0 (us := [none]) (d := 53) (p := True) (j := 2) rfl ⟨by kernel_rfl, by kernel_rfl, by kernel_rfl⟩ trivial (ref_Size_ok h1553) (by kernel_rfl) ?_
              refine WO_run (j := 3) (k := 1) (orcs := []) (kF := [1, 5, 6]) (kL := []) (fr' := [(1, aD (.slice .bool) a1), (5, aI r1552), (6, aI i1035)]) (L' := []) (obs := []) rfl (by kernel_rfl) allP0 ?_
              obtain rfl := Option.some.inj h
              refine WO_fin [1, 5, 6] [] (fr' := [(1, aD (.slice .bool) a1), (5, aI r1552), (6, aI i1035)]) (L' := []) (by kernel_rfl) (by kernel_rfl) ?_
              refine blockQ_norm ?_
              exact exQ_mk (by kernel_rfl) (by kernel_rfl)
            · replace h := ofF h1551 h
              obtain rfl := Option.some.inj h
              refine W_skip [1, 5, 6] [] (fr' := [(1, aD (.slice .bool) a1), (5, aI x1036), (6, aI i1035)]) (L' := []) (by kernel_rfl) (by kernel_rfl) ?_
              refine blockQ_norm ?_
              exact exQ_mk (by kernel_rfl) (by kernel_rfl)
      · intro e fr L hJ
        obtain ⟨rfl, rfl, rfl⟩ := hJ
        refine LT_keep [1, 5, 6] [] (fr' := [(1, aD (.slice .bool) a1), (5, aI v1554), (6, aI i1035)]) (L' := []) (by kernel_rfl) ?_
        refine seqQ_norm ?_
        obtain rfl := Option.some.inj h
        refine W_run 3 [] [1, 5, 6] [] (fr' := [(1, aD (.slice .bool) a1), (5, aI v1554), (6, aI (w64 (i1035 + (1 : Int))))]) (L' := []) (obs := []) (by kernel_rfl) (by kernel_rfl) (by kernel_rfl) allP0 ?_
        exact round_next' (by kernel_rfl) (by kernel_rfl)
    · obtain rfl := stepL_false h1040 h
      refine W_exit (id := 0) [5] [] (fr' := [(5, aI x1036)]) (L' := []) (by kernel_rfl) (by kernel_rfl) ?_
      refine seqQ_exit ?_
      refine round_exit ?_
      exact exQ_mk (by kernel_rfl) (by kernel_rfl)
  · intro e fr L hJ
    obtain ⟨rfl, rfl, rfl⟩ := hJ
    refine LT_keep [5] [] (fr' := [(5, aI v1557)]) (L' := []) (by kernel_rfl) ?_
    refine blockQ_hit ?_
    refine seqQ_norm ?_
    refine W_seq (by kernel_rfl) ?_
    refine W_run 2 [] [4] [] (fr' := [(4, aI v1557)]) (L' := []) (obs := []) (by kernel_rfl) (by kernel_rfl) (by kernel_rfl) allP0 ?_
    refine seqQ_norm ?_
    obtain rfl := Option.some.inj h
    refine W_ret [4] [] (fr' := [(4, aI v1557)]) (L' := []) (by kernel_rfl) (by kernel_rfl) ?_
    exact retQ_mk (by kernel_rfl) (by kernel_rfl) (by kernel_rfl)

@[reducible] def law_AskDegrees_s1 (v : Bool) : Fr × LL := ([(4, aB v)], [])
def law_AskDegrees (a0 : Int) (a1 : (List Bool)) : Option Bool :=
(ask_Degree a0 a1).bind fun r1 =>
(ref_TableCheck a0 a1 (0 : Int)).bind fun r3 =>
bif r3 != (0 : Int) then
(some ((r1.2 == r3) && (r1.1 == (0 : Int))))
else
((bif r1.2 == (0 : Int) then
((ref_Degree a0 a1).bind fun r13 =>
some (r1.1 == r13))
else
(some false)).bind fun v15 =>
some v15)
theorem law_AskDegrees_ok {a0 : Int} {a1 : (List Bool)} {r : Bool} (h : law_AskDegrees a0 a1 = some r) : FnC Try.prog 10 [aI a0, aD (.slice .bool) a1] [] (aB r) [] := by
  refine fnC_of_W (B := bodyOf Try.f10) (n := 35) Try.func10 (by kernel_rfl) (by kernel_rfl) (by kernel_rfl) (by kernel_rfl) (by kernel_rfl) ?_
  intro K
  refine W_seq (by kernel_rfl) ?_
  refine W_run 1 [] [0, 1] [] (fr' := [(0, aI a0), (1, aD (.slice .bool) a1)]) (L' := []) (obs := []) (by kernel_rfl) (by kernel_rfl) (by kernel_rfl) allP0 ?_
  refine seqQ_norm ?_
  refine W_seq (by kernel_rfl) ?_
  refine W_region (by kernel_rfl) ?_
  refine WO_run (j := 2) (k := 2) (orcs := []) (kF := [0, 1, 9, 10]) (kL := []) (fr' := [(0, aI a0), (1, aD (.slice .bool) a1), (9, aI a0), (10, aD (.slice .bool) a1)]) (L' := []) (obs := []) rfl (by kernel_rfl) allP0 ?_
  obtain ⟨r1, h2, h⟩ := bind_of h
  refine WO_call0 (us := [none, none]) (d := 11) (p := True) (j := 3) rfl ⟨by kernel_rfl, by kernel_rfl, by kernel_rfl⟩ trivial (ask_Degree_ok h2) (by kernel_rfl) ?_
  refine WO_run (j := 8) (k := 5) (orcs := []) (kF := [0, 1, 5, 6]) (kL := []) (fr' := [(0, aI a0), (1, aD (.slice .bool) a1), (5, aI r1.1), (6, aI r1.2)]) (L' := []) (obs := []) rfl (by kernel_rfl) allP0 ?_
  refine WO_fin [0, 1, 5, 6] [] (fr' := [(0, aI a0), (1, aD (.slice .bool) a1), (5, aI r1.1), (6, aI r1.2)]) (L' := []) (by kernel_rfl) (by kernel_rfl) ?_
  refine seqQ_norm ?_
  refine W_seq (by kernel_rfl) ?_
  refine W_region (by kernel_rfl) ?_
  refine WO_run (j := 2) (k := 2) (orcs := []) (kF := [0, 1, 5, 6, 14, 15]) (kL := []) (fr' := [(0, aI a0), (1, aD (.slice .bool) a1), (5, aI r1.1), (6, aI r1.2), (14, aI a0), (15, aD (.slice .bool) a1)]) (L' := []) (obs := []) rfl (by kernel_rfl) allP0 ?_
  obtain ⟨r3, h4, h⟩ := bind_of h
  refine WO_call0 (us := [none, none, none]) (d := 16) (p := True) (j := 3) rfl ⟨by kernel_rfl, by kernel_rfl, by kernel_rfl⟩ trivial (ref_TableCheck_ok h4) (by kernel_rfl) ?_
  refine WO_run (j := 4) (k := 1) (orcs := []) (kF := [0, 1, 5, 6, 7]) (kL := []) (fr' := [(0, aI a0), (1, aD (.slice .bool) a1), (5, aI r1.1), (6, aI r1.2), (7, aI r3)]) (L' := []) (obs := []) rfl (by kernel_rfl) allP0 ?_
  refine WO_fin [0, 1, 5, 6, 7] [] (fr' := [(0, aI a0), (1, aD (.slice .bool) a1), (5, aI r1.1), (6, aI r1.2), (7, aI r3)]) (L' := []) (by kernel_rfl) (by kernel_rfl) ?_
  refine seqQ_norm ?_
  refine W_seq (by kernel_rfl) ?_
  refine W_seq (by kernel_rfl) ?_
  refine W_run 2 [] [0, 1, 5, 6, 7, 18] [] (fr' := [(0, aI a0), (1, aD (.slice .bool) a1), (5, aI r1.1), (6, aI r1.2), (7, aI r3), (18, aB (r3 != (0 : Int)))]) (L' := []) (obs := []) (by kernel_rfl) (by kernel_rfl) (by kernel_rfl) allP0 ?_
  refine seqQ_norm ?_
  refine W_cond (o := .tmp 18) (b := r3 != (0 : Int)) (by kernel_rfl) (by kernel_rfl) (fun h5 => ?_) (fun h5 => ?_)
  · replace h := ofT h5 h
    refine W_seq (by kernel_rfl) ?_
    refine W_run 8 [] [4] [] (fr' := [(4, aB ((r1.2 == r3) && (r1.1 == (0 : Int))))]) (L' := []) (obs := []) (by kernel_rfl) (by kernel_rfl) (by kernel_rfl) allP0 ?_
    refine seqQ_norm ?_
    obtain rfl := Option.some.inj h
    refine W_ret [4] [] (fr' := [(4, aB ((r1.2 == r3) && (r1.1 == (0 : Int))))]) (L' := []) (by kernel_rfl) (by kernel_rfl) ?_
    refine seqQ_ret ?_
    exact retQ_mk (by kernel_rfl) (by kernel_rfl) (by kernel_rfl)
  · replace h := ofF h5 h
    refine W_skip [0, 1, 5, 6] [] (fr' := [(0, aI a0), (1, aD (.slice .bool) a1), (5, aI r1.1), (6, aI r1.2)]) (L' := []) (by kernel_rfl) (by kernel_rfl) ?_
    refine seqQ_norm ?_
    refine W_seq (by kernel_rfl) ?_
    obtain ⟨v15, h16, h⟩ := bind_of h
    refine W_cutK (Q' := (exQ .normal law_AskDegrees_s1) v15) ?_ ?_
    · replace h := h16
      refine W_region (by kernel_rfl) ?_
      refine WO_run (j := 3) (k := 3) (orcs := []) (kF := [0, 1, 5, 28]) (kL := []) (fr' := [(0, aI a0), (1, aD (.slice .bool) a1), (5, aI r1.1), (28, aB (r1.2 == (0 : Int)))]) (L' := []) (obs := []) rfl (by kernel_rfl) allP0 ?_
      rcases Bool.eq_false_or_eq_true (r1.2 == (0 : Int)) with h12 | h12
      · replace h := ofT h12 h
        refine WO_run (j := 6) (k := 3) (orcs := [(6, .known true), (8, .known true), (10, .known true)]) (kF := [28, 29, 30, 31]) (kL := []) (fr' := [(28, aB (r1.2 == (0 : Int))), (29, aI r1.1), (30, aI a0), (31, aD (.slice .bool) a1)]) (L' := []) (obs := [((r1.2 == (0 : Int)) = true), ((r1.2 == (0 : Int)) = true), ((r1.2 == (0 : Int)) = true)]) rfl (by kernel_rfl) (allP2 h12 (allP2 h12 (allP1 h12))) ?_
        obtain ⟨r13, h14, h⟩ := bind_of h
        refine WO_call0 (us := [none, none]) (d := 32) (p := ((r1.2 == (0 : Int)) = true)) (j := 7) rfl ⟨by kernel_rfl, by kernel_rfl, by kernel_rfl⟩ h12 (ref_Degree_ok h14) (by kernel_rfl) ?_
        refine WO_run (j := 10) (k := 3) (orcs := [(14, .known true), (17, .val (.dat .bool true))]) (kF := [4]) (kL := []) (fr' := [(4, aB (r1.1 == r13))]) (L' := []) (obs := [((r1.2 == (0 : Int)) = true), ((r1.2 == (0 : Int)) = true)]) rfl (by kernel_rfl) (allP2 h12 (allP1 h12)) ?_
        obtain rfl := Option.some.inj h
        refine WO_fin [4] [] (fr' := [(4, aB (r1.1 == r13))]) (L' := []) (by kernel_rfl) (by kernel_rfl) ?_
        exact exQ_mk (by kernel_rfl) (by kernel_rfl)
      · replace h := ofF h12 h
        refine WO_run (j := 10) (k := 7) (orcs := [(6, .known false), (8, .known false), (10, .known false), (12, .known false), (14, .known false), (17, .val (.dat .bool false))]) (kF := [4]) (kL := []) (fr' := [(4, aB false)]) (L' := []) (obs := [((r1.2 == (0 : Int)) = false), ((r1.2 == (0 : Int)) = false), ((r1.2 == (0 : Int)) = false), ((r1.2 == (0 : Int)) = false), ((r1.2 == (0 : Int)) = false), ((r1.2 == (0 : Int)) = false)]) rfl (by kernel_rfl) (allP2 h12 (allP2 h12 (allP2 h12 (allP2 h12 (allP2 h12 (allP1 h12)))))) ?_
        obtain rfl := Option.some.inj h
        refine WO_fin [4] [] (fr' := [(4, aB false)]) (L' := []) (by kernel_rfl) (by kernel_rfl) ?_
        exact exQ_mk (by kernel_rfl) (by kernel_rfl)
    · intro e fr L hJ
      obtain ⟨rfl, rfl, rfl⟩ := hJ
      refine LT_keep [4] [] (fr' := [(4, aB v15)]) (L' := []) (by kernel_rfl) ?_
      refine seqQ_norm ?_
      obtain rfl := Option.some.inj h
      refine W_ret [4] [] (fr' := [(4, aB v15)]) (L' := []) (by kernel_rfl) (by kernel_rfl) ?_
      exact retQ_mk (by kernel_rfl) (by kernel_rfl) (by kernel_rfl)
end Go.Proofs.Ytnlibkamomlccaa.askDegrees
