/- What the functions that GuessAparts calls compute, as models, and that they compute it: written by a program of mine. -/
import Derived.Test.YtnlibkamomlccaaProg
import Derived.Test.YtnlibkamomlccaaSl3
set_option linter.all false
set_option maxRecDepth 100000
namespace Go.Proofs.Ytnlibkamomlccaa.guessAparts
open Go Go.Sl
def guess_table (a0 : Int) (a1 : (List Bool)) : Option Int :=
bif (decide (a0 < (0 : Int))) || (decide (a0 > (4 : Int))) then
(some (1 : Int))
else
((ck (0 ≤ a0)).bind fun _ =>
bif (List.length a1 : Int) != (bShl .i64 (1 : Int) a0) then
(some (3 : Int))
else
(some (0 : Int)))
theorem guess_table_ok {a0 : Int} {a1 : (List Bool)} {r : Int} (h : guess_table a0 a1 = some r) : FnC Try.prog 45 [aI a0, aD (.slice .bool) a1] [] (aI r) [] := by
  refine fnC_of_W (B := bodyOf Try.f45) (n := 16) Try.func45 (by kernel_rfl) (by kernel_rfl) (by kernel_rfl) (by kernel_rfl) (by kernel_rfl) ?_
  intro K
  refine W_seq (by kernel_rfl) ?_
  refine W_run 1 [] [0, 1] [] (fr' := [(0, aI a0), (1, aD (.slice .bool) a1)]) (L' := []) (obs := []) (by kernel_rfl) (by kernel_rfl) (by kernel_rfl) allP0 ?_
  refine seqQ_norm ?_
  refine W_seq (by kernel_rfl) ?_
  refine W_seq (by kernel_rfl) ?_
  refine W_run 6 [] [0, 1, 10] [] (fr' := [(0, aI a0), (1, aD (.slice .bool) a1), (10, aB ((decide (a0 < (0 : Int))) || (decide (a0 > (4 : Int)))))]) (L' := []) (obs := []) (by kernel_rfl) (by kernel_rfl) (by kernel_rfl) allP0 ?_
  refine seqQ_norm ?_
  refine W_cond (o := .tmp 10) (b := (decide (a0 < (0 : Int))) || (decide (a0 > (4 : Int)))) (by kernel_rfl) (by kernel_rfl) (fun h1 => ?_) (fun h1 => ?_)
  · replace h := ofT h1 h
    refine W_seq (by kernel_rfl) ?_
    refine W_run 1 [] [4] [] (fr' := [(4, aI (1 : Int))]) (L' := []) (obs := []) (by kernel_rfl) (by kernel_rfl) (by kernel_rfl) allP0 ?_
    refine seqQ_norm ?_
    obtain rfl := Option.some.inj h
    refine W_ret [4] [] (fr' := [(4, aI (1 : Int))]) (L' := []) (by kernel_rfl) (by kernel_rfl) ?_
    refine seqQ_ret ?_
    exact retQ_mk (by kernel_rfl) (by kernel_rfl) (by kernel_rfl)
  · replace h := ofF h1 h
    refine W_skip [0, 1] [] (fr' := [(0, aI a0), (1, aD (.slice .bool) a1)]) (L' := []) (by kernel_rfl) (by kernel_rfl) ?_
    refine seqQ_norm ?_
    refine W_seq (by kernel_rfl) ?_
    refine W_seq (by kernel_rfl) ?_
    obtain ⟨_, h2, h⟩ := bind_of h
    replace h2 := ck_some h2
    refine W_run 5 [] [15] [] (fr' := [(15, aB ((List.length a1 : Int) != (bShl .i64 (1 : Int) a0)))]) (L' := []) (obs := [(0 ≤ a0)]) (by kernel_rfl) (by kernel_rfl) (by kernel_rfl) (allP1 h2) ?_
    refine seqQ_norm ?_
    refine W_cond (o := .tmp 15) (b := (List.length a1 : Int) != (bShl .i64 (1 : Int) a0)) (by kernel_rfl) (by kernel_rfl) (fun h3 => ?_) (fun h3 => ?_)
    · replace h := ofT h3 h
      refine W_seq (by kernel_rfl) ?_
      refine W_run 1 [] [4] [] (fr' := [(4, aI (3 : Int))]) (L' := []) (obs := []) (by kernel_rfl) (by kernel_rfl) (by kernel_rfl) allP0 ?_
      refine seqQ_norm ?_
      obtain rfl := Option.some.inj h
      refine W_ret [4] [] (fr' := [(4, aI (3 : Int))]) (L' := []) (by kernel_rfl) (by kernel_rfl) ?_
      refine seqQ_ret ?_
      exact retQ_mk (by kernel_rfl) (by kernel_rfl) (by kernel_rfl)
    · replace h := ofF h3 h
      refine W_skip [] [] (fr' := []) (L' := []) (by kernel_rfl) (by kernel_rfl) ?_
      refine seqQ_norm ?_
      refine W_seq (by kernel_rfl) ?_
      refine W_run 1 [] [4] [] (fr' := [(4, aI (0 : Int))]) (L' := []) (obs := []) (by kernel_rfl) (by kernel_rfl) (by kernel_rfl) allP0 ?_
      refine seqQ_norm ?_
      obtain rfl := Option.some.inj h
      refine W_ret [4] [] (fr' := [(4, aI (0 : Int))]) (L' := []) (by kernel_rfl) (by kernel_rfl) ?_
      exact retQ_mk (by kernel_rfl) (by kernel_rfl) (by kernel_rfl)

def math_bits_OnesCount64 (a0 : Int) : Option Int :=
some (bAnd .i64 (w64 (IntKind.wrap .u64 ((IntKind.wrap .u64 ((IntKind.wrap .u64 ((bAnd .u64 (IntKind.wrap .u64 ((bShr .u64 (IntKind.wrap .u64 ((bAnd .u64 (bShr .u64 (IntKind.wrap .u64 ((bAnd .u64 (bShr .u64 a0 (1 : Int)) (6148914691236517205 : Int)) + (bAnd .u64 a0 (6148914691236517205 : Int)))) (2 : Int)) (3689348814741910323 : Int)) + (bAnd .u64 (IntKind.wrap .u64 ((bAnd .u64 (bShr .u64 a0 (1 : Int)) (6148914691236517205 : Int)) + (bAnd .u64 a0 (6148914691236517205 : Int)))) (3689348814741910323 : Int)))) (4 : Int)) + (IntKind.wrap .u64 ((bAnd .u64 (bShr .u64 (IntKind.wrap .u64 ((bAnd .u64 (bShr .u64 a0 (1 : Int)) (6148914691236517205 : Int)) + (bAnd .u64 a0 (6148914691236517205 : Int)))) (2 : Int)) (3689348814741910323 : Int)) + (bAnd .u64 (IntKind.wrap .u64 ((bAnd .u64 (bShr .u64 a0 (1 : Int)) (6148914691236517205 : Int)) + (bAnd .u64 a0 (6148914691236517205 : Int)))) (3689348814741910323 : Int)))))) (1085102592571150095 : Int)) + (bShr .u64 (bAnd .u64 (IntKind.wrap .u64 ((bShr .u64 (IntKind.wrap .u64 ((bAnd .u64 (bShr .u64 (IntKind.wrap .u64 ((bAnd .u64 (bShr .u64 a0 (1 : Int)) (6148914691236517205 : Int)) + (bAnd .u64 a0 (6148914691236517205 : Int)))) (2 : Int)) (3689348814741910323 : Int)) + (bAnd .u64 (IntKind.wrap .u64 ((bAnd .u64 (bShr .u64 a0 (1 : Int)) (6148914691236517205 : Int)) + (bAnd .u64 a0 (6148914691236517205 : Int)))) (3689348814741910323 : Int)))) (4 : Int)) + (IntKind.wrap .u64 ((bAnd .u64 (bShr .u64 (IntKind.wrap .u64 ((bAnd .u64 (bShr .u64 a0 (1 : Int)) (6148914691236517205 : Int)) + (bAnd .u64 a0 (6148914691236517205 : Int)))) (2 : Int)) (3689348814741910323 : Int)) + (bAnd .u64 (IntKind.wrap .u64 ((bAnd .u64 (bShr .u64 a0 (1 : Int)) (6148914691236517205 : Int)) + (bAnd .u64 a0 (6148914691236517205 : Int)))) (3689348814741910323 : Int)))))) (1085102592571150095 : Int)) (8 : Int)))) + (bShr .u64 (IntKind.wrap .u64 ((bAnd .u64 (IntKind.wrap .u64 ((bShr .u64 (IntKind.wrap .u64 ((bAnd .u64 (bShr .u64 (IntKind.wrap .u64 ((bAnd .u64 (bShr .u64 a0 (1 : Int)) (6148914691236517205 : Int)) + (bAnd .u64 a0 (6148914691236517205 : Int)))) (2 : Int)) (3689348814741910323 : Int)) + (bAnd .u64 (IntKind.wrap .u64 ((bAnd .u64 (bShr .u64 a0 (1 : Int)) (6148914691236517205 : Int)) + (bAnd .u64 a0 (6148914691236517205 : Int)))) (3689348814741910323 : Int)))) (4 : Int)) + (IntKind.wrap .u64 ((bAnd .u64 (bShr .u64 (IntKind.wrap .u64 ((bAnd .u64 (bShr .u64 a0 (1 : Int)) (6148914691236517205 : Int)) + (bAnd .u64 a0 (6148914691236517205 : Int)))) (2 : Int)) (3689348814741910323 : Int)) + (bAnd .u64 (IntKind.wrap .u64 ((bAnd .u64 (bShr .u64 a0 (1 : Int)) (6148914691236517205 : Int)) + (bAnd .u64 a0 (6148914691236517205 : Int)))) (3689348814741910323 : Int)))))) (1085102592571150095 : Int)) + (bShr .u64 (bAnd .u64 (IntKind.wrap .u64 ((bShr .u64 (IntKind.wrap .u64 ((bAnd .u64 (bShr .u64 (IntKind.wrap .u64 ((bAnd .u64 (bShr .u64 a0 (1 : Int)) (6148914691236517205 : Int)) + (bAnd .u64 a0 (6148914691236517205 : Int)))) (2 : Int)) (3689348814741910323 : Int)) + (bAnd .u64 (IntKind.wrap .u64 ((bAnd .u64 (bShr .u64 a0 (1 : Int)) (6148914691236517205 : Int)) + (bAnd .u64 a0 (6148914691236517205 : Int)))) (3689348814741910323 : Int)))) (4 : Int)) + (IntKind.wrap .u64 ((bAnd .u64 (bShr .u64 (IntKind.wrap .u64 ((bAnd .u64 (bShr .u64 a0 (1 : Int)) (6148914691236517205 : Int)) + (bAnd .u64 a0 (6148914691236517205 : Int)))) (2 : Int)) (3689348814741910323 : Int)) + (bAnd .u64 (IntKind.wrap .u64 ((bAnd .u64 (bShr .u64 a0 (1 : Int)) (6148914691236517205 : Int)) + (bAnd .u64 a0 (6148914691236517205 : Int)))) (3689348814741910323 : Int)))))) (1085102592571150095 : Int)) (8 : Int)))) (16 : Int)))) + (bShr .u64 (IntKind.wrap .u64 ((IntKind.wrap .u64 ((bAnd .u64 (IntKind.wrap .u64 ((bShr .u64 (IntKind.wrap .u64 ((bAnd .u64 (bShr .u64 (IntKind.wrap .u64 ((bAnd .u64 (bShr .u64 a0 (1 : Int)) (6148914691236517205 : Int)) + (bAnd .u64 a0 (6148914691236517205 : Int)))) (2 : Int)) (3689348814741910323 : Int)) + (bAnd .u64 (IntKind.wrap .u64 ((bAnd .u64 (bShr .u64 a0 (1 : Int)) (6148914691236517205 : Int)) + (bAnd .u64 a0 (6148914691236517205 : Int)))) (3689348814741910323 : Int)))) (4 : Int)) + (IntKind.wrap .u64 ((bAnd .u64 (bShr .u64 (IntKind.wrap .u64 ((bAnd .u64 (bShr .u64 a0 (1 : Int)) (6148914691236517205 : Int)) + (bAnd .u64 a0 (6148914691236517205 : Int)))) (2 : Int)) (3689348814741910323 : Int)) + (bAnd .u64 (IntKind.wrap .u64 ((bAnd .u64 (bShr .u64 a0 (1 : Int)) (6148914691236517205 : Int)) + (bAnd .u64 a0 (6148914691236517205 : Int)))) (3689348814741910323 : Int)))))) (1085102592571150095 : Int)) + (bShr .u64 (bAnd .u64 (IntKind.wrap .u64 ((bShr .u64 (IntKind.wrap .u64 ((bAnd .u64 (bShr .u64 (IntKind.wrap .u64 ((bAnd .u64 (bShr .u64 a0 (1 : Int)) (6148914691236517205 : Int)) + (bAnd .u64 a0 (6148914691236517205 : Int)))) (2 : Int)) (3689348814741910323 : Int)) + (bAnd .u64 (IntKind.wrap .u64 ((bAnd .u64 (bShr .u64 a0 (1 : Int)) (6148914691236517205 : Int)) + (bAnd .u64 a0 (6148914691236517205 : Int)))) (3689348814741910323 : Int)))) (4 : Int)) + (IntKind.wrap .u64 ((bAnd .u64 (bShr .u64 (IntKind.wrap .u64 ((bAnd .u64 (bShr .u64 a0 (1 : Int)) (6148914691236517205 : Int)) + (bAnd .u64 a0 (6148914691236517205 : Int)))) (2 : Int)) (3689348814741910323 : Int)) + (bAnd .u64 (IntKind.wrap .u64 ((bAnd .u64 (bShr .u64 a0 (1 : Int)) (6148914691236517205 : Int)) + (bAnd .u64 a0 (6148914691236517205 : Int)))) (3689348814741910323 : Int)))))) (1085102592571150095 : Int)) (8 : Int)))) + (bShr .u64 (IntKind.wrap .u64 ((bAnd .u64 (IntKind.wrap .u64 ((bShr .u64 (IntKind.wrap .u64 ((bAnd .u64 (bShr .u64 (IntKind.wrap .u64 ((bAnd .u64 (bShr .u64 a0 (1 : Int)) (6148914691236517205 : Int)) + (bAnd .u64 a0 (6148914691236517205 : Int)))) (2 : Int)) (3689348814741910323 : Int)) + (bAnd .u64 (IntKind.wrap .u64 ((bAnd .u64 (bShr .u64 a0 (1 : Int)) (6148914691236517205 : Int)) + (bAnd .u64 a0 (6148914691236517205 : Int)))) (3689348814741910323 : Int)))) (4 : Int)) + (IntKind.wrap .u64 ((bAnd .u64 (bShr .u64 (IntKind.wrap .u64 ((bAnd .u64 (bShr .u64 a0 (1 : Int)) (6148914691236517205 : Int)) + (bAnd .u64 a0 (6148914691236517205 : Int)))) (2 : Int)) (3689348814741910323 : Int)) + (bAnd .u64 (IntKind.wrap .u64 ((bAnd .u64 (bShr .u64 a0 (1 : Int)) (6148914691236517205 : Int)) + (bAnd .u64 a0 (6148914691236517205 : Int)))) (3689348814741910323 : Int)))))) (1085102592571150095 : Int)) + (bShr .u64 (bAnd .u64 (IntKind.wrap .u64 ((bShr .u64 (IntKind.wrap .u64 ((bAnd .u64 (bShr .u64 (IntKind.wrap .u64 ((bAnd .u64 (bShr .u64 a0 (1 : Int)) (6148914691236517205 : Int)) + (bAnd .u64 a0 (6148914691236517205 : Int)))) (2 : Int)) (3689348814741910323 : Int)) + (bAnd .u64 (IntKind.wrap .u64 ((bAnd .u64 (bShr .u64 a0 (1 : Int)) (6148914691236517205 : Int)) + (bAnd .u64 a0 (6148914691236517205 : Int)))) (3689348814741910323 : Int)))) (4 : Int)) + (IntKind.wrap .u64 ((bAnd .u64 (bShr .u64 (IntKind.wrap .u64 ((bAnd .u64 (bShr .u64 a0 (1 : Int)) (6148914691236517205 : Int)) + (bAnd .u64 a0 (6148914691236517205 : Int)))) (2 : Int)) (3689348814741910323 : Int)) + (bAnd .u64 (IntKind.wrap .u64 ((bAnd .u64 (bShr .u64 a0 (1 : Int)) (6148914691236517205 : Int)) + (bAnd .u64 a0 (6148914691236517205 : Int)))) (3689348814741910323 : Int)))))) (1085102592571150095 : Int)) (8 : Int)))) (16 : Int)))) (32 : Int))))) (127 : Int))
theorem math_bits_OnesCount64_ok {a0 : Int} {r : Int} (h : math_bits_OnesCount64 a0 = some r) : FnC Try.prog 49 [aD (.int .u64) a0] [] (aI r) [] := by
  refine fnC_of_W (B := bodyOf Try.f49) (n := 35) Try.func49 (by kernel_rfl) (by kernel_rfl) (by kernel_rfl) (by kernel_rfl) (by kernel_rfl) ?_
  intro K
  refine W_seq (by kernel_rfl) ?_
  refine W_run 1 [] [0] [] (fr' := [(0, aD (.int .u64) a0)]) (L' := []) (obs := []) (by kernel_rfl) (by kernel_rfl) (by kernel_rfl) allP0 ?_
  refine seqQ_norm ?_
  refine W_seq (by kernel_rfl) ?_
  refine W_run 7 [] [0] [] (fr' := [(0, aD (.int .u64) (IntKind.wrap .u64 ((bAnd .u64 (bShr .u64 a0 (1 : Int)) (6148914691236517205 : Int)) + (bAnd .u64 a0 (6148914691236517205 : Int)))))]) (L' := []) (obs := [(0 ≤ (1 : Int))]) (by kernel_rfl) (by kernel_rfl) (by kernel_rfl) (allP1 (by decide)) ?_
  refine seqQ_norm ?_
  refine W_seq (by kernel_rfl) ?_
  refine W_run 7 [] [0] [] (fr' := [(0, aD (.int .u64) (IntKind.wrap .u64 ((bAnd .u64 (bShr .u64 (IntKind.wrap .u64 ((bAnd .u64 (bShr .u64 a0 (1 : Int)) (6148914691236517205 : Int)) + (bAnd .u64 a0 (6148914691236517205 : Int)))) (2 : Int)) (3689348814741910323 : Int)) + (bAnd .u64 (IntKind.wrap .u64 ((bAnd .u64 (bShr .u64 a0 (1 : Int)) (6148914691236517205 : Int)) + (bAnd .u64 a0 (6148914691236517205 : Int)))) (3689348814741910323 : Int)))))]) (L' := []) (obs := [(0 ≤ (2 : Int))]) (by kernel_rfl) (by kernel_rfl) (by kernel_rfl) (allP1 (by decide)) ?_
  refine seqQ_norm ?_
  refine W_seq (by kernel_rfl) ?_
  refine W_run 6 [] [0] [] (fr' := [(0, aD (.int .u64) (bAnd .u64 (IntKind.wrap .u64 ((bShr .u64 (IntKind.wrap .u64 ((bAnd .u64 (bShr .u64 (IntKind.wrap .u64 ((bAnd .u64 (bShr .u64 a0 (1 : Int)) (6148914691236517205 : Int)) + (bAnd .u64 a0 (6148914691236517205 : Int)))) (2 : Int)) (3689348814741910323 : Int)) + (bAnd .u64 (IntKind.wrap .u64 ((bAnd .u64 (bShr .u64 a0 (1 : Int)) (6148914691236517205 : Int)) + (bAnd .u64 a0 (6148914691236517205 : Int)))) (3689348814741910323 : Int)))) (4 : Int)) + (IntKind.wrap .u64 ((bAnd .u64 (bShr .u64 (IntKind.wrap .u64 ((bAnd .u64 (bShr .u64 a0 (1 : Int)) (6148914691236517205 : Int)) + (bAnd .u64 a0 (6148914691236517205 : Int)))) (2 : Int)) (3689348814741910323 : Int)) + (bAnd .u64 (IntKind.wrap .u64 ((bAnd .u64 (bShr .u64 a0 (1 : Int)) (6148914691236517205 : Int)) + (bAnd .u64 a0 (6148914691236517205 : Int)))) (3689348814741910323 : Int)))))) (1085102592571150095 : Int)))]) (L' := []) (obs := [(0 ≤ (4 : Int))]) (by kernel_rfl) (by kernel_rfl) (by kernel_rfl) (allP1 (by decide)) ?_
  refine seqQ_norm ?_
  refine W_seq (by kernel_rfl) ?_
  refine W_run 5 [] [0] [] (fr' := [(0, aD (.int .u64) (IntKind.wrap .u64 ((bAnd .u64 (IntKind.wrap .u64 ((bShr .u64 (IntKind.wrap .u64 ((bAnd .u64 (bShr .u64 (IntKind.wrap .u64 ((bAnd .u64 (bShr .u64 a0 (1 : Int)) (6148914691236517205 : Int)) + (bAnd .u64 a0 (6148914691236517205 : Int)))) (2 : Int)) (3689348814741910323 : Int)) + (bAnd .u64 (IntKind.wrap .u64 ((bAnd .u64 (bShr .u64 a0 (1 : Int)) (6148914691236517205 : Int)) + (bAnd .u64 a0 (6148914691236517205 : Int)))) (3689348814741910323 : Int)))) (4 : Int)) + (IntKind.wrap .u64 ((bAnd .u64 (bShr .u64 (IntKind.wrap .u64 ((bAnd .u64 (bShr .u64 a0 (1 : Int)) (6148914691236517205 : Int)) + (bAnd .u64 a0 (6148914691236517205 : Int)))) (2 : Int)) (3689348814741910323 : Int)) + (bAnd .u64 (IntKind.wrap .u64 ((bAnd .u64 (bShr .u64 a0 (1 : Int)) (6148914691236517205 : Int)) + (bAnd .u64 a0 (6148914691236517205 : Int)))) (3689348814741910323 : Int)))))) (1085102592571150095 : Int)) + (bShr .u64 (bAnd .u64 (IntKind.wrap .u64 ((bShr .u64 (IntKind.wrap .u64 ((bAnd .u64 (bShr .u64 (IntKind.wrap .u64 ((bAnd .u64 (bShr .u64 a0 (1 : Int)) (6148914691236517205 : Int)) + (bAnd .u64 a0 (6148914691236517205 : Int)))) (2 : Int)) (3689348814741910323 : Int)) + (bAnd .u64 (IntKind.wrap .u64 ((bAnd .u64 (bShr .u64 a0 (1 : Int)) (6148914691236517205 : Int)) + (bAnd .u64 a0 (6148914691236517205 : Int)))) (3689348814741910323 : Int)))) (4 : Int)) + (IntKind.wrap .u64 ((bAnd .u64 (bShr .u64 (IntKind.wrap .u64 ((bAnd .u64 (bShr .u64 a0 (1 : Int)) (6148914691236517205 : Int)) + (bAnd .u64 a0 (6148914691236517205 : Int)))) (2 : Int)) (3689348814741910323 : Int)) + (bAnd .u64 (IntKind.wrap .u64 ((bAnd .u64 (bShr .u64 a0 (1 : Int)) (6148914691236517205 : Int)) + (bAnd .u64 a0 (6148914691236517205 : Int)))) (3689348814741910323 : Int)))))) (1085102592571150095 : Int)) (8 : Int)))))]) (L' := []) (obs := [(0 ≤ (8 : Int))]) (by kernel_rfl) (by kernel_rfl) (by kernel_rfl) (allP1 (by decide)) ?_
  refine seqQ_norm ?_
  refine W_seq (by kernel_rfl) ?_
  refine W_run 5 [] [0] [] (fr' := [(0, aD (.int .u64) (IntKind.wrap .u64 ((IntKind.wrap .u64 ((bAnd .u64 (IntKind.wrap .u64 ((bShr .u64 (IntKind.wrap .u64 ((bAnd .u64 (bShr .u64 (IntKind.wrap .u64 ((bAnd .u64 (bShr .u64 a0 (1 : Int)) (6148914691236517205 : Int)) + (bAnd .u64 a0 (6148914691236517205 : Int)))) (2 : Int)) (3689348814741910323 : Int)) + (bAnd .u64 (IntKind.wrap .u64 ((bAnd .u64 (bShr .u64 a0 (1 : Int)) (6148914691236517205 : Int)) + (bAnd .u64 a0 (6148914691236517205 : Int)))) (3689348814741910323 : Int)))) (4 : Int)) + (IntKind.wrap .u64 ((bAnd .u64 (bShr .u64 (IntKind.wrap .u64 ((bAnd .u64 (bShr .u64 a0 (1 : Int)) (6148914691236517205 : Int)) + (bAnd .u64 a0 (6148914691236517205 : Int)))) (2 : Int)) (3689348814741910323 : Int)) + (bAnd .u64 (IntKind.wrap .u64 ((bAnd .u64 (bShr .u64 a0 (1 : Int)) (6148914691236517205 : Int)) + (bAnd .u64 a0 (6148914691236517205 : Int)))) (3689348814741910323 : Int)))))) (1085102592571150095 : Int)) + (bShr .u64 (bAnd .u64 (IntKind.wrap .u64 ((bShr .u64 (IntKind.wrap .u64 ((bAnd .u64 (bShr .u64 (IntKind.wrap .u64 ((bAnd .u64 (bShr .u64 a0 (1 : Int)) (6148914691236517205 : Int)) + (bAnd .u64 a0 (6148914691236517205 : Int)))) (2 : Int)) (3689348814741910323 : Int)) + (bAnd .u64 (IntKind.wrap .u64 ((bAnd .u64 (bShr .u64 a0 (1 : Int)) (6148914691236517205 : Int)) + (bAnd .u64 a0 (6148914691236517205 : Int)))) (3689348814741910323 : Int)))) (4 : Int)) + (IntKind.wrap .u64 ((bAnd .u64 (bShr .u64 (IntKind.wrap .u64 ((bAnd .u64 (bShr .u64 a0 (1 : Int)) (6148914691236517205 : Int)) + (bAnd .u64 a0 (6148914691236517205 : Int)))) (2 : Int)) (3689348814741910323 : Int)) + (bAnd .u64 (IntKind.wrap .u64 ((bAnd .u64 (bShr .u64 a0 (1 : Int)) (6148914691236517205 : Int)) + (bAnd .u64 a0 (6148914691236517205 : Int)))) (3689348814741910323 : Int)))))) (1085102592571150095 : Int)) (8 : Int)))) + (bShr .u64 (IntKind.wrap .u64 ((bAnd .u64 (IntKind.wrap .u64 ((bShr .u64 (IntKind.wrap .u64 ((bAnd .u64 (bShr .u64 (IntKind.wrap .u64 ((bAnd .u64 (bShr .u64 a0 (1 : Int)) (6148914691236517205 : Int)) + (bAnd .u64 a0 (6148914691236517205 : Int)))) (2 : Int)) (3689348814741910323 : Int)) + (bAnd .u64 (IntKind.wrap .u64 ((bAnd .u64 (bShr .u64 a0 (1 : Int)) (6148914691236517205 : Int)) + (bAnd .u64 a0 (6148914691236517205 : Int)))) (3689348814741910323 : Int)))) (4 : Int)) + (IntKind.wrap .u64 ((bAnd .u64 (bShr .u64 (IntKind.wrap .u64 ((bAnd .u64 (bShr .u64 a0 (1 : Int)) (6148914691236517205 : Int)) + (bAnd .u64 a0 (6148914691236517205 : Int)))) (2 : Int)) (3689348814741910323 : Int)) + (bAnd .u64 (IntKind.wrap .u64 ((bAnd .u64 (bShr .u64 a0 (1 : Int)) (6148914691236517205 : Int)) + (bAnd .u64 a0 (6148914691236517205 : Int)))) (3689348814741910323 : Int)))))) (1085102592571150095 : Int)) + (bShr .u64 (bAnd .u64 (IntKind.wrap .u64 ((bShr .u64 (IntKind.wrap .u64 ((bAnd .u64 (bShr .u64 (IntKind.wrap .u64 ((bAnd .u64 (bShr .u64 a0 (1 : Int)) (6148914691236517205 : Int)) + (bAnd .u64 a0 (6148914691236517205 : Int)))) (2 : Int)) (3689348814741910323 : Int)) + (bAnd .u64 (IntKind.wrap .u64 ((bAnd .u64 (bShr .u64 a0 (1 : Int)) (6148914691236517205 : Int)) + (bAnd .u64 a0 (6148914691236517205 : Int)))) (3689348814741910323 : Int)))) (4 : Int)) + (IntKind.wrap .u64 ((bAnd .u64 (bShr .u64 (IntKind.wrap .u64 ((bAnd .u64 (bShr .u64 a0 (1 : Int)) (6148914691236517205 : Int)) + (bAnd .u64 a0 (6148914691236517205 : Int)))) (2 : Int)) (3689348814741910323 : Int)) + (bAnd .u64 (IntKind.wrap .u64 ((bAnd .u64 (bShr .u64 a0 (1 : Int)) (6148914691236517205 : Int)) + (bAnd .u64 a0 (6148914691236517205 : Int)))) (3689348814741910323 : Int)))))) (1085102592571150095 : Int)) (8 : Int)))) (16 : Int)))))]) (L' := []) (obs := [(0 ≤ (16 : Int))]) (by kernel_rfl) (by kernel_rfl) (by kernel_rfl) (allP1 (by decide)) ?_
  refine seqQ_norm ?_
  refine W_seq (by kernel_rfl) ?_
  refine W_run 5 [] [0] [] (fr' := [(0, aD (.int .u64) (IntKind.wrap .u64 ((IntKind.wrap .u64 ((IntKind.wrap .u64 ((bAnd .u64 (IntKind.wrap .u64 ((bShr .u64 (IntKind.wrap .u64 ((bAnd .u64 (bShr .u64 (IntKind.wrap .u64 ((bAnd .u64 (bShr .u64 a0 (1 : Int)) (6148914691236517205 : Int)) + (bAnd .u64 a0 (6148914691236517205 : Int)))) (2 : Int)) (3689348814741910323 : Int)) + (bAnd .u64 (IntKind.wrap .u64 ((bAnd .u64 (bShr .u64 a0 (1 : Int)) (6148914691236517205 : Int)) + (bAnd .u64 a0 (6148914691236517205 : Int)))) (3689348814741910323 : Int)))) (4 : Int)) + (IntKind.wrap .u64 ((bAnd .u64 (bShr .u64 (IntKind.wrap .u64 ((bAnd .u64 (bShr .u64 a0 (1 : Int)) (6148914691236517205 : Int)) + (bAnd .u64 a0 (6148914691236517205 : Int)))) (2 : Int)) (3689348814741910323 : Int)) + (bAnd .u64 (IntKind.wrap .u64 ((bAnd .u64 (bShr .u64 a0 (1 : Int)) (6148914691236517205 : Int)) + (bAnd .u64 a0 (6148914691236517205 : Int)))) (3689348814741910323 : Int)))))) (1085102592571150095 : Int)) + (bShr .u64 (bAnd .u64 (IntKind.wrap .u64 ((bShr .u64 (IntKind.wrap .u64 ((bAnd .u64 (bShr .u64 (IntKind.wrap .u64 ((bAnd .u64 (bShr .u64 a0 (1 : Int)) (6148914691236517205 : Int)) + (bAnd .u64 a0 (6148914691236517205 : Int)))) (2 : Int)) (3689348814741910323 : Int)) + (bAnd .u64 (IntKind.wrap .u64 ((bAnd .u64 (bShr .u64 a0 (1 : Int)) (6148914691236517205 : Int)) + (bAnd .u64 a0 (6148914691236517205 : Int)))) (3689348814741910323 : Int)))) (4 : Int)) + (IntKind.wrap .u64 ((bAnd .u64 (bShr .u64 (IntKind.wrap .u64 ((bAnd .u64 (bShr .u64 a0 (1 : Int)) (6148914691236517205 : Int)) + (bAnd .u64 a0 (6148914691236517205 : Int)))) (2 : Int)) (3689348814741910323 : Int)) + (bAnd .u64 (IntKind.wrap .u64 ((bAnd .u64 (bShr .u64 a0 (1 : Int)) (6148914691236517205 : Int)) + (bAnd .u64 a0 (6148914691236517205 : Int)))) (3689348814741910323 : Int)))))) (1085102592571150095 : Int)) (8 : Int)))) + (bShr .u64 (IntKind.wrap .u64 ((bAnd .u64 (IntKind.wrap .u64 ((bShr .u64 (IntKind.wrap .u64 ((bAnd .u64 (bShr .u64 (IntKind.wrap .u64 ((bAnd .u64 (bShr .u64 a0 (1 : Int)) (6148914691236517205 : Int)) + (bAnd .u64 a0 (6148914691236517205 : Int)))) (2 : Int)) (3689348814741910323 : Int)) + (bAnd .u64 (IntKind.wrap .u64 ((bAnd .u64 (bShr .u64 a0 (1 : Int)) (6148914691236517205 : Int)) + (bAnd .u64 a0 (6148914691236517205 : Int)))) (3689348814741910323 : Int)))) (4 : Int)) + (IntKind.wrap .u64 ((bAnd .u64 (bShr .u64 (IntKind.wrap .u64 ((bAnd .u64 (bShr .u64 a0 (1 : Int)) (6148914691236517205 : Int)) + (bAnd .u64 a0 (6148914691236517205 : Int)))) (2 : Int)) (3689348814741910323 : Int)) + (bAnd .u64 (IntKind.wrap .u64 ((bAnd .u64 (bShr .u64 a0 (1 : Int)) (6148914691236517205 : Int)) + (bAnd .u64 a0 (6148914691236517205 : Int)))) (3689348814741910323 : Int)))))) (1085102592571150095 : Int)) + (bShr .u64 (bAnd .u64 (IntKind.wrap .u64 ((bShr .u64 (IntKind.wrap .u64 ((bAnd .u64 (bShr .u64 (IntKind.wrap .u64 ((bAnd .u64 (bShr .u64 a0 (1 : Int)) (6148914691236517205 : Int)) + (bAnd .u64 a0 (6148914691236517205 : Int)))) (2 : Int)) (3689348814741910323 : Int)) + (bAnd .u64 (IntKind.wrap .u64 ((bAnd .u64 (bShr .u64 a0 (1 : Int)) (6148914691236517205 : Int)) + (bAnd .u64 a0 (6148914691236517205 : Int)))) (3689348814741910323 : Int)))) (4 : Int)) + (IntKind.wrap .u64 ((bAnd .u64 (bShr .u64 (IntKind.wrap .u64 ((bAnd .u64 (bShr .u64 a0 (1 : Int)) (6148914691236517205 : Int)) + (bAnd .u64 a0 (6148914691236517205 : Int)))) (2 : Int)) (3689348814741910323 : Int)) + (bAnd .u64 (IntKind.wrap .u64 ((bAnd .u64 (bShr .u64 a0 (1 : Int)) (6148914691236517205 : Int)) + (bAnd .u64 a0 (6148914691236517205 : Int)))) (3689348814741910323 : Int)))))) (1085102592571150095 : Int)) (8 : Int)))) (16 : Int)))) + (bShr .u64 (IntKind.wrap .u64 ((IntKind.wrap .u64 ((bAnd .u64 (IntKind.wrap .u64 ((bShr .u64 (IntKind.wrap .u64 ((bAnd .u64 (bShr .u64 (IntKind.wrap .u64 ((bAnd .u64 (bShr .u64 a0 (1 : Int)) (6148914691236517205 : Int)) + (bAnd .u64 a0 (6148914691236517205 : Int)))) (2 : Int)) (3689348814741910323 : Int)) + (bAnd .u64 (IntKind.wrap .u64 ((bAnd .u64 (bShr .u64 a0 (1 : Int)) (6148914691236517205 : Int)) + (bAnd .u64 a0 (6148914691236517205 : Int)))) (3689348814741910323 : Int)))) (4 : Int)) + (IntKind.wrap .u64 ((bAnd .u64 (bShr .u64 (IntKind.wrap .u64 ((bAnd .u64 (bShr .u64 a0 (1 : Int)) (6148914691236517205 : Int)) + (bAnd .u64 a0 (6148914691236517205 : Int)))) (2 : Int)) (3689348814741910323 : Int)) + (bAnd .u64 (IntKind.wrap .u64 ((bAnd .u64 (bShr .u64 a0 (1 : Int)) (6148914691236517205 : Int)) + (bAnd .u64 a0 (6148914691236517205 : Int)))) (3689348814741910323 : Int)))))) (1085102592571150095 : Int)) + (bShr .u64 (bAnd .u64 (IntKind.wrap .u64 ((bShr .u64 (IntKind.wrap .u64 ((bAnd .u64 (bShr .u64 (IntKind.wrap .u64 ((bAnd .u64 (bShr .u64 a0 (1 : Int)) (6148914691236517205 : Int)) + (bAnd .u64 a0 (6148914691236517205 : Int)))) (2 : Int)) (3689348814741910323 : Int)) + (bAnd .u64 (IntKind.wrap .u64 ((bAnd .u64 (bShr .u64 a0 (1 : Int)) (6148914691236517205 : Int)) + (bAnd .u64 a0 (6148914691236517205 : Int)))) (3689348814741910323 : Int)))) (4 : Int)) + (IntKind.wrap .u64 ((bAnd .u64 (bShr .u64 (IntKind.wrap .u64 ((bAnd .u64 (bShr .u64 a0 (1 : Int)) (6148914691236517205 : Int)) + (bAnd .u64 a0 (6148914691236517205 : Int)))) (2 : Int)) (3689348814741910323 : Int)) + (bAnd .u64 (IntKind.wrap .u64 ((bAnd .u64 (bShr .u64 a0 (1 : Int)) (6148914691236517205 : Int)) + (bAnd .u64 a0 (6148914691236517205 : Int)))) (3689348814741910323 : Int)))))) (1085102592571150095 : Int)) (8 : Int)))) + (bShr .u64 (IntKind.wrap .u64 ((bAnd .u64 (IntKind.wrap .u64 ((bShr .u64 (IntKind.wrap .u64 ((bAnd .u64 (bShr .u64 (IntKind.wrap .u64 ((bAnd .u64 (bShr .u64 a0 (1 : Int)) (6148914691236517205 : Int)) + (bAnd .u64 a0 (6148914691236517205 : Int)))) (2 : Int)) (3689348814741910323 : Int)) + (bAnd .u64 (IntKind.wrap .u64 ((bAnd .u64 (bShr .u64 a0 (1 : Int)) (6148914691236517205 : Int)) + (bAnd .u64 a0 (6148914691236517205 : Int)))) (3689348814741910323 : Int)))) (4 : Int)) + (IntKind.wrap .u64 ((bAnd .u64 (bShr .u64 (IntKind.wrap .u64 ((bAnd .u64 (bShr .u64 a0 (1 : Int)) (6148914691236517205 : Int)) + (bAnd .u64 a0 (6148914691236517205 : Int)))) (2 : Int)) (3689348814741910323 : Int)) + (bAnd .u64 (IntKind.wrap .u64 ((bAnd .u64 (bShr .u64 a0 (1 : Int)) (6148914691236517205 : Int)) + (bAnd .u64 a0 (6148914691236517205 : Int)))) (3689348814741910323 : Int)))))) (1085102592571150095 : Int)) + (bShr .u64 (bAnd .u64 (IntKind.wrap .u64 ((bShr .u64 (IntKind.wrap .u64 ((bAnd .u64 (bShr .u64 (IntKind.wrap .u64 ((bAnd .u64 (bShr .u64 a0 (1 : Int)) (6148914691236517205 : Int)) + (bAnd .u64 a0 (6148914691236517205 : Int)))) (2 : Int)) (3689348814741910323 : Int)) + (bAnd .u64 (IntKind.wrap .u64 ((bAnd .u64 (bShr .u64 a0 (1 : Int)) (6148914691236517205 : Int)) + (bAnd .u64 a0 (6148914691236517205 : Int)))) (3689348814741910323 : Int)))) (4 : Int)) + (IntKind.wrap .u64 ((bAnd .u64 (bShr .u64 (IntKind.wrap .u64 ((bAnd .u64 (bShr .u64 a0 (1 : Int)) (6148914691236517205 : Int)) + (bAnd .u64 a0 (6148914691236517205 : Int)))) (2 : Int)) (3689348814741910323 : Int)) + (bAnd .u64 (IntKind.wrap .u64 ((bAnd .u64 (bShr .u64 a0 (1 : Int)) (6148914691236517205 : Int)) + (bAnd .u64 a0 (6148914691236517205 : Int)))) (3689348814741910323 : Int)))))) (1085102592571150095 : Int)) (8 : Int)))) (16 : Int)))) (32 : Int)))))]) (L' := []) (obs := [(0 ≤ (32 : Int))]) (by kernel_rfl) (by kernel_rfl) (by kernel_rfl) (allP1 (by decide)) ?_
  refine seqQ_norm ?_
  refine W_seq (by kernel_rfl) ?_
  refine W_run 4 [] [2] [] (fr' := [(2, aI (bAnd .i64 (w64 (IntKind.wrap .u64 ((IntKind.wrap .u64 ((IntKind.wrap .u64 ((bAnd .u64 (IntKind.wrap .u64 ((bShr .u64 (IntKind.wrap .u64 ((bAnd .u64 (bShr .u64 (IntKind.wrap .u64 ((bAnd .u64 (bShr .u64 a0 (1 : Int)) (6148914691236517205 : Int)) + (bAnd .u64 a0 (6148914691236517205 : Int)))) (2 : Int)) (3689348814741910323 : Int)) + (bAnd .u64 (IntKind.wrap .u64 ((bAnd .u64 (bShr .u64 a0 (1 : Int)) (6148914691236517205 : Int)) + (bAnd .u64 a0 (6148914691236517205 : Int)))) (3689348814741910323 : Int)))) (4 : Int)) + (IntKind.wrap .u64 ((bAnd .u64 (bShr .u64 (IntKind.wrap .u64 ((bAnd .u64 (bShr .u64 a0 (1 : Int)) (6148914691236517205 : Int)) + (bAnd .u64 a0 (6148914691236517205 : Int)))) (2 : Int)) (3689348814741910323 : Int)) + (bAnd .u64 (IntKind.wrap .u64 ((bAnd .u64 (bShr .u64 a0 (1 : Int)) (6148914691236517205 : Int)) + (bAnd .u64 a0 (6148914691236517205 : Int)))) (3689348814741910323 : Int)))))) (1085102592571150095 : Int)) + (bShr .u64 (bAnd .u64 (IntKind.wrap .u64 ((bShr .u64 (IntKind.wrap .u64 ((bAnd .u64 (bShr .u64 (IntKind.wrap .u64 ((bAnd .u64 (bShr .u64 a0 (1 : Int)) (6148914691236517205 : Int)) + (bAnd .u64 a0 (6148914691236517205 : Int)))) (2 : Int)) (3689348814741910323 : Int)) + (bAnd .u64 (IntKind.wrap .u64 ((bAnd .u64 (bShr .u64 a0 (1 : Int)) (6148914691236517205 : Int)) + (bAnd .u64 a0 (6148914691236517205 : Int)))) (3689348814741910323 : Int)))) (4 : Int)) + (IntKind.wrap .u64 ((bAnd .u64 (bShr .u64 (IntKind.wrap .u64 ((bAnd .u64 (bShr .u64 a0 (1 : Int)) (6148914691236517205 : Int)) + (bAnd .u64 a0 (6148914691236517205 : Int)))) (2 : Int)) (3689348814741910323 : Int)) + (bAnd .u64 (IntKind.wrap .u64 ((bAnd .u64 (bShr .u64 a0 (1 : Int)) (6148914691236517205 : Int)) + (bAnd .u64 a0 (6148914691236517205 : Int)))) (3689348814741910323 : Int)))))) (1085102592571150095 : Int)) (8 : Int)))) + (bShr .u64 (IntKind.wrap .u64 ((bAnd .u64 (IntKind.wrap .u64 ((bShr .u64 (IntKind.wrap .u64 ((bAnd .u64 (bShr .u64 (IntKind.wrap .u64 ((bAnd .u64 (bShr .u64 a0 (1 : Int)) (6148914691236517205 : Int)) + (bAnd .u64 a0 (6148914691236517205 : Int)))) (2 : Int)) (3689348814741910323 : Int)) + (bAnd .u64 (IntKind.wrap .u64 ((bAnd .u64 (bShr .u64 a0 (1 : Int)) (6148914691236517205 : Int)) + (bAnd .u64 a0 (6148914691236517205 : Int)))) (3689348814741910323 : Int)))) (4 : Int)) + (IntKind.wrap .u64 ((bAnd .u64 (bShr .u64 (IntKind.wrap .u64 ((bAnd .u64 (bShr .u64 a0 (1 : Int)) (6148914691236517205 : Int)) + (bAnd .u64 a0 (6148914691236517205 : Int)))) (2 : Int)) (3689348814741910323 : Int)) + (bAnd .u64 (IntKind.wrap .u64 ((bAnd .u64 (bShr .u64 a0 (1 : Int)) (6148914691236517205 : Int)) + (bAnd .u64 a0 (6148914691236517205 : Int)))) (3689348814741910323 : Int)))))) (1085102592571150095 : Int)) + (bShr .u64 (bAnd .u64 (IntKind.wrap .u64 ((bShr .u64 (IntKind.wrap .u64 ((bAnd .u64 (bShr .u64 (IntKind.wrap .u64 ((bAnd .u64 (bShr .u64 a0 (1 : Int)) (6148914691236517205 : Int)) + (bAnd .u64 a0 (6148914691236517205 : Int)))) (2 : Int)) (3689348814741910323 : Int)) + (bAnd .u64 (IntKind.wrap .u64 ((bAnd .u64 (bShr .u64 a0 (1 : Int)) (6148914691236517205 : Int)) + (bAnd .u64 a0 (6148914691236517205 : Int)))) (3689348814741910323 : Int)))) (4 : Int)) + (IntKind.wrap .u64 ((bAnd .u64 (bShr .u64 (IntKind.wrap .u64 ((bAnd .u64 (bShr .u64 a0 (1 : Int)) (6148914691236517205 : Int)) + (bAnd .u64 a0 (6148914691236517205 : Int)))) (2 : Int)) (3689348814741910323 : Int)) + (bAnd .u64 (IntKind.wrap .u64 ((bAnd .u64 (bShr .u64 a0 (1 : Int)) (6148914691236517205 : Int)) + (bAnd .u64 a0 (6148914691236517205 : Int)))) (3689348814741910323 : Int)))))) (1085102592571150095 : Int)) (8 : Int)))) (16 : Int)))) + (bShr .u64 (IntKind.wrap .u64 ((IntKind.wrap .u64 ((bAnd .u64 (IntKind.wrap .u64 ((bShr .u64 (IntKind.wrap .u64 ((bAnd .u64 (bShr .u64 (IntKind.wrap .u64 ((bAnd .u64 (bShr .u64 a0 (1 : Int)) (6148914691236517205 : Int)) + (bAnd .u64 a0 (6148914691236517205 : Int)))) (2 : Int)) (3689348814741910323 : Int)) + (bAnd .u64 (IntKind.wrap .u64 ((bAnd .u64 (bShr .u64 a0 (1 : Int)) (6148914691236517205 : Int)) + (bAnd .u64 a0 (6148914691236517205 : Int)))) (3689348814741910323 : Int)))) (4 : Int)) + (IntKind.wrap .u64 ((bAnd .u64 (bShr .u64 (IntKind.wrap .u64 ((bAnd .u64 (bShr .u64 a0 (1 : Int)) (6148914691236517205 : Int)) + (bAnd .u64 a0 (6148914691236517205 : Int)))) (2 : Int)) (3689348814741910323 : Int)) + (bAnd .u64 (IntKind.wrap .u64 ((bAnd .u64 (bShr .u64 a0 (1 : Int)) (6148914691236517205 : Int)) + (bAnd .u64 a0 (6148914691236517205 : Int)))) (3689348814741910323 : Int)))))) (1085102592571150095 : Int)) + (bShr .u64 (bAnd .u64 (IntKind.wrap .u64 ((bShr .u64 (IntKind.wrap .u64 ((bAnd .u64 (bShr .u64 (IntKind.wrap .u64 ((bAnd .u64 (bShr .u64 a0 (1 : Int)) (6148914691236517205 : Int)) + (bAnd .u64 a0 (6148914691236517205 : Int)))) (2 : Int)) (3689348814741910323 : Int)) + (bAnd .u64 (IntKind.wrap .u64 ((bAnd .u64 (bShr .u64 a0 (1 : Int)) (6148914691236517205 : Int)) + (bAnd .u64 a0 (6148914691236517205 : Int)))) (3689348814741910323 : Int)))) (4 : Int)) + (IntKind.wrap .u64 ((bAnd .u64 (bShr .u64 (IntKind.wrap .u64 ((bAnd .u64 (bShr .u64 a0 (1 : Int)) (6148914691236517205 : Int)) + (bAnd .u64 a0 (6148914691236517205 : Int)))) (2 : Int)) (3689348814741910323 : Int)) + (bAnd .u64 (IntKind.wrap .u64 ((bAnd .u64 (bShr .u64 a0 (1 : Int)) (6148914691236517205 : Int)) + (bAnd .u64 a0 (6148914691236517205 : Int)))) (3689348814741910323 : Int)))))) (1085102592571150095 : Int)) (8 : Int)))) + (bShr .u64 (IntKind.wrap .u64 ((bAnd .u64 (IntKind.wrap .u64 ((bShr .u64 (IntKind.wrap .u64 ((bAnd .u64 (bShr .u64 (IntKind.wrap .u64 ((bAnd .u64 (bShr .u64 a0 (1 : Int)) (6148914691236517205 : Int)) + (bAnd .u64 a0 (6148914691236517205 : Int)))) (2 : Int)) (3689348814741910323 : Int)) + (bAnd .u64 (IntKind.wrap .u64 ((bAnd .u64 (bShr .u64 a0 (1 : Int)) (6148914691236517205 : Int)) + (bAnd .u64 a0 (6148914691236517205 : Int)))) (3689348814741910323 : Int)))) (4 : Int)) + (IntKind.wrap .u64 ((bAnd .u64 (bShr .u64 (IntKind.wrap .u64 ((bAnd .u64 (bShr .u64 a0 (1 : Int)) (6148914691236517205 : Int)) + (bAnd .u64 a0 (6148914691236517205 : Int)))) (2 : Int)) (3689348814741910323 : Int)) + (bAnd .u64 (IntKind.wrap .u64 ((bAnd .u64 (bShr .u64 a0 (1 : Int)) (6148914691236517205 : Int)) + (bAnd .u64 a0 (6148914691236517205 : Int)))) (3689348814741910323 : Int)))))) (1085102592571150095 : Int)) + (bShr .u64 (bAnd .u64 (IntKind.wrap .u64 ((bShr .u64 (IntKind.wrap .u64 ((bAnd .u64 (bShr .u64 (IntKind.wrap .u64 ((bAnd .u64 (bShr .u64 a0 (1 : Int)) (6148914691236517205 : Int)) + (bAnd .u64 a0 (6148914691236517205 : Int)))) (2 : Int)) (3689348814741910323 : Int)) + (bAnd .u64 (IntKind.wrap .u64 ((bAnd .u64 (bShr .u64 a0 (1 : Int)) (6148914691236517205 : Int)) + (bAnd .u64 a0 (6148914691236517205 : Int)))) (3689348814741910323 : Int)))) (4 : Int)) + (IntKind.wrap .u64 ((bAnd .u64 (bShr .u64 (IntKind.wrap .u64 ((bAnd .u64 (bShr .u64 a0 (1 : Int)) (6148914691236517205 : Int)) + (bAnd .u64 a0 (6148914691236517205 : Int)))) (2 : Int)) (3689348814741910323 : Int)) + (bAnd .u64 (IntKind.wrap .u64 ((bAnd .u64 (bShr .u64 a0 (1 : Int)) (6148914691236517205 : Int)) + (bAnd .u64 a0 (6148914691236517205 : Int)))) (3689348814741910323 : Int)))))) (1085102592571150095 : Int)) (8 : Int)))) (16 : Int)))) (32 : Int))))) (127 : Int)))]) (L' := []) (obs := []) (by kernel_rfl) (by kernel_rfl) (by kernel_rfl) allP0 ?_
  refine seqQ_norm ?_
  obtain rfl := Option.some.inj h
  refine W_ret [2] [] (fr' := [(2, aI (bAnd .i64 (w64 (IntKind.wrap .u64 ((IntKind.wrap .u64 ((IntKind.wrap .u64 ((bAnd .u64 (IntKind.wrap .u64 ((bShr .u64 (IntKind.wrap .u64 ((bAnd .u64 (bShr .u64 (IntKind.wrap .u64 ((bAnd .u64 (bShr .u64 a0 (1 : Int)) (6148914691236517205 : Int)) + (bAnd .u64 a0 (6148914691236517205 : Int)))) (2 : Int)) (3689348814741910323 : Int)) + (bAnd .u64 (IntKind.wrap .u64 ((bAnd .u64 (bShr .u64 a0 (1 : Int)) (6148914691236517205 : Int)) + (bAnd .u64 a0 (6148914691236517205 : Int)))) (3689348814741910323 : Int)))) (4 : Int)) + (IntKind.wrap .u64 ((bAnd .u64 (bShr .u64 (IntKind.wrap .u64 ((bAnd .u64 (bShr .u64 a0 (1 : Int)) (6148914691236517205 : Int)) + (bAnd .u64 a0 (6148914691236517205 : Int)))) (2 : Int)) (3689348814741910323 : Int)) + (bAnd .u64 (IntKind.wrap .u64 ((bAnd .u64 (bShr .u64 a0 (1 : Int)) (6148914691236517205 : Int)) + (bAnd .u64 a0 (6148914691236517205 : Int)))) (3689348814741910323 : Int)))))) (1085102592571150095 : Int)) + (bShr .u64 (bAnd .u64 (IntKind.wrap .u64 ((bShr .u64 (IntKind.wrap .u64 ((bAnd .u64 (bShr .u64 (IntKind.wrap .u64 ((bAnd .u64 (bShr .u64 a0 (1 : Int)) (6148914691236517205 : Int)) + (bAnd .u64 a0 (6148914691236517205 : Int)))) (2 : Int)) (3689348814741910323 : Int)) + (bAnd .u64 (IntKind.wrap .u64 ((bAnd .u64 (bShr .u64 a0 (1 : Int)) (6148914691236517205 : Int)) + (bAnd .u64 a0 (6148914691236517205 : Int)))) (3689348814741910323 : Int)))) (4 : Int)) + (IntKind.wrap .u64 ((bAnd .u64 (bShr .u64 (IntKind.wrap .u64 ((bAnd .u64 (bShr .u64 a0 (1 : Int)) (6148914691236517205 : Int)) + (bAnd .u64 a0 (6148914691236517205 : Int)))) (2 : Int)) (3689348814741910323 : Int)) + (bAnd .u64 (IntKind.wrap .u64 ((bAnd .u64 (bShr .u64 a0 (1 : Int)) (6148914691236517205 : Int)) + (bAnd .u64 a0 (6148914691236517205 : Int)))) (3689348814741910323 : Int)))))) (1085102592571150095 : Int)) (8 : Int)))) + (bShr .u64 (IntKind.wrap .u64 ((bAnd .u64 (IntKind.wrap .u64 ((bShr .u64 (IntKind.wrap .u64 ((bAnd .u64 (bShr .u64 (IntKind.wrap .u64 ((bAnd .u64 (bShr .u64 a0 (1 : Int)) (6148914691236517205 : Int)) + (bAnd .u64 a0 (6148914691236517205 : Int)))) (2 : Int)) (3689348814741910323 : Int)) + (bAnd .u64 (IntKind.wrap .u64 ((bAnd .u64 (bShr .u64 a0 (1 : Int)) (6148914691236517205 : Int)) + (bAnd .u64 a0 (6148914691236517205 : Int)))) (3689348814741910323 : Int)))) (4 : Int)) + (IntKind.wrap .u64 ((bAnd .u64 (bShr .u64 (IntKind.wrap .u64 ((bAnd .u64 (bShr .u64 a0 (1 : Int)) (6148914691236517205 : Int)) + (bAnd .u64 a0 (6148914691236517205 : Int)))) (2 : Int)) (3689348814741910323 : Int)) + (bAnd .u64 (IntKind.wrap .u64 ((bAnd .u64 (bShr .u64 a0 (1 : Int)) (6148914691236517205 : Int)) + (bAnd .u64 a0 (6148914691236517205 : Int)))) (3689348814741910323 : Int)))))) (1085102592571150095 : Int)) + (bShr .u64 (bAnd .u64 (IntKind.wrap .u64 ((bShr .u64 (IntKind.wrap .u64 ((bAnd .u64 (bShr .u64 (IntKind.wrap .u64 ((bAnd .u64 (bShr .u64 a0 (1 : Int)) (6148914691236517205 : Int)) + (bAnd .u64 a0 (6148914691236517205 : Int)))) (2 : Int)) (3689348814741910323 : Int)) + (bAnd .u64 (IntKind.wrap .u64 ((bAnd .u64 (bShr .u64 a0 (1 : Int)) (6148914691236517205 : Int)) + (bAnd .u64 a0 (6148914691236517205 : Int)))) (3689348814741910323 : Int)))) (4 : Int)) + (IntKind.wrap .u64 ((bAnd .u64 (bShr .u64 (IntKind.wrap .u64 ((bAnd .u64 (bShr .u64 a0 (1 : Int)) (6148914691236517205 : Int)) + (bAnd .u64 a0 (6148914691236517205 : Int)))) (2 : Int)) (3689348814741910323 : Int)) + (bAnd .u64 (IntKind.wrap .u64 ((bAnd .u64 (bShr .u64 a0 (1 : Int)) (6148914691236517205 : Int)) + (bAnd .u64 a0 (6148914691236517205 : Int)))) (3689348814741910323 : Int)))))) (1085102592571150095 : Int)) (8 : Int)))) (16 : Int)))) + (bShr .u64 (IntKind.wrap .u64 ((IntKind.wrap .u64 ((bAnd .u64 (IntKind.wrap .u64 ((bShr .u64 (IntKind.wrap .u64 ((bAnd .u64 (bShr .u64 (IntKind.wrap .u64 ((bAnd .u64 (bShr .u64 a0 (1 : Int)) (6148914691236517205 : Int)) + (bAnd .u64 a0 (6148914691236517205 : Int)))) (2 : Int)) (3689348814741910323 : Int)) + (bAnd .u64 (IntKind.wrap .u64 ((bAnd .u64 (bShr .u64 a0 (1 : Int)) (6148914691236517205 : Int)) + (bAnd .u64 a0 (6148914691236517205 : Int)))) (3689348814741910323 : Int)))) (4 : Int)) + (IntKind.wrap .u64 ((bAnd .u64 (bShr .u64 (IntKind.wrap .u64 ((bAnd .u64 (bShr .u64 a0 (1 : Int)) (6148914691236517205 : Int)) + (bAnd .u64 a0 (6148914691236517205 : Int)))) (2 : Int)) (3689348814741910323 : Int)) + (bAnd .u64 (IntKind.wrap .u64 ((bAnd .u64 (bShr .u64 a0 (1 : Int)) (6148914691236517205 : Int)) + (bAnd .u64 a0 (6148914691236517205 : Int)))) (3689348814741910323 : Int)))))) (1085102592571150095 : Int)) + (bShr .u64 (bAnd .u64 (IntKind.wrap .u64 ((bShr .u64 (IntKind.wrap .u64 ((bAnd .u64 (bShr .u64 (IntKind.wrap .u64 ((bAnd .u64 (bShr .u64 a0 (1 : Int)) (6148914691236517205 : Int)) + (bAnd .u64 a0 (6148914691236517205 : Int)))) (2 : Int)) (3689348814741910323 : Int)) + (bAnd .u64 (IntKind.wrap .u64 ((bAnd .u64 (bShr .u64 a0 (1 : Int)) (6148914691236517205 : Int)) + (bAnd .u64 a0 (6148914691236517205 : Int)))) (3689348814741910323 : Int)))) (4 : Int)) + (IntKind.wrap .u64 ((bAnd .u64 (bShr .u64 (IntKind.wrap .u64 ((bAnd .u64 (bShr .u64 a0 (1 : Int)) (6148914691236517205 : Int)) + (bAnd .u64 a0 (6148914691236517205 : Int)))) (2 : Int)) (3689348814741910323 : Int)) + (bAnd .u64 (IntKind.wrap .u64 ((bAnd .u64 (bShr .u64 a0 (1 : Int)) (6148914691236517205 : Int)) + (bAnd .u64 a0 (6148914691236517205 : Int)))) (3689348814741910323 : Int)))))) (1085102592571150095 : Int)) (8 : Int)))) + (bShr .u64 (IntKind.wrap .u64 ((bAnd .u64 (IntKind.wrap .u64 ((bShr .u64 (IntKind.wrap .u64 ((bAnd .u64 (bShr .u64 (IntKind.wrap .u64 ((bAnd .u64 (bShr .u64 a0 (1 : Int)) (6148914691236517205 : Int)) + (bAnd .u64 a0 (6148914691236517205 : Int)))) (2 : Int)) (3689348814741910323 : Int)) + (bAnd .u64 (IntKind.wrap .u64 ((bAnd .u64 (bShr .u64 a0 (1 : Int)) (6148914691236517205 : Int)) + (bAnd .u64 a0 (6148914691236517205 : Int)))) (3689348814741910323 : Int)))) (4 : Int)) + (IntKind.wrap .u64 ((bAnd .u64 (bShr .u64 (IntKind.wrap .u64 ((bAnd .u64 (bShr .u64 a0 (1 : Int)) (6148914691236517205 : Int)) + (bAnd .u64 a0 (6148914691236517205 : Int)))) (2 : Int)) (3689348814741910323 : Int)) + (bAnd .u64 (IntKind.wrap .u64 ((bAnd .u64 (bShr .u64 a0 (1 : Int)) (6148914691236517205 : Int)) + (bAnd .u64 a0 (6148914691236517205 : Int)))) (3689348814741910323 : Int)))))) (1085102592571150095 : Int)) + (bShr .u64 (bAnd .u64 (IntKind.wrap .u64 ((bShr .u64 (IntKind.wrap .u64 ((bAnd .u64 (bShr .u64 (IntKind.wrap .u64 ((bAnd .u64 (bShr .u64 a0 (1 : Int)) (6148914691236517205 : Int)) + (bAnd .u64 a0 (6148914691236517205 : Int)))) (2 : Int)) (3689348814741910323 : Int)) + (bAnd .u64 (IntKind.wrap .u64 ((bAnd .u64 (bShr .u64 a0 (1 : Int)) (6148914691236517205 : Int)) + (bAnd .u64 a0 (6148914691236517205 : Int)))) (3689348814741910323 : Int)))) (4 : Int)) + (IntKind.wrap .u64 ((bAnd .u64 (bShr .u64 (IntKind.wrap .u64 ((bAnd .u64 (bShr .u64 a0 (1 : Int)) (6148914691236517205 : Int)) + (bAnd .u64 a0 (6148914691236517205 : Int)))) (2 : Int)) (3689348814741910323 : Int)) + (bAnd .u64 (IntKind.wrap .u64 ((bAnd .u64 (bShr .u64 a0 (1 : Int)) (6148914691236517205 : Int)) + (bAnd .u64 a0 (6148914691236517205 : Int)))) (3689348814741910323 : Int)))))) (1085102592571150095 : Int)) (8 : Int)))) (16 : Int)))) (32 : Int))))) (127 : Int)))]) (L' := []) (by kernel_rfl) (by kernel_rfl) ?_
  exact retQ_mk (by kernel_rfl) (by kernel_rfl) (by kernel_rfl)

def math_bits_OnesCount (a0 : Int) : Option Int :=
(math_bits_OnesCount64 a0).bind fun r2 =>
some r2
theorem math_bits_OnesCount_ok {a0 : Int} {r : Int} (h : math_bits_OnesCount a0 = some r) : FnC Try.prog 44 [aD (.int .u64) a0] [] (aI r) [] := by
  refine fnC_of_W (B := bodyOf Try.f44) (n := 8) Try.func44 (by kernel_rfl) (by kernel_rfl) (by kernel_rfl) (by kernel_rfl) (by kernel_rfl) ?_
  intro K
  refine W_seq (by kernel_rfl) ?_
  refine W_run 1 [] [0] [] (fr' := [(0, aD (.int .u64) a0)]) (L' := []) (obs := []) (by kernel_rfl) (by kernel_rfl) (by kernel_rfl) allP0 ?_
  refine seqQ_norm ?_
  refine W_seq (by kernel_rfl) ?_
  refine W_cond (o := .const (.bool false)) (b := false) (by kernel_rfl) (by kernel_rfl) (fun h1 => by have := (rfl : false = false).symm.trans h1; cases this) (fun h1 => ?_)
  refine W_skip [0] [] (fr' := [(0, aD (.int .u64) a0)]) (L' := []) (by kernel_rfl) (by kernel_rfl) ?_
  refine seqQ_norm ?_
  refine W_seq (by kernel_rfl) ?_
  refine W_region (by kernel_rfl) ?_
  refine WO_run (j := 1) (k := 1) (orcs := []) (kF := [6]) (kL := []) (fr' := [(6, aD (.int .u64) a0)]) (L' := []) (obs := []) rfl (by kernel_rfl) allP0 ?_
  obtain ⟨r2, h3, h⟩ := bind_of h
  refine WO_call0 (us := [none]) (d := 7) (p := True) (j := 2) rfl ⟨by kernel_rfl, by kernel_rfl, by kernel_rfl⟩ trivial (math_bits_OnesCount64_ok h3) (by kernel_rfl) ?_
  refine WO_run (j := 3) (k := 1) (orcs := []) (kF := [2]) (kL := []) (fr' := [(2, aI r2)]) (L' := []) (obs := []) rfl (by kernel_rfl) allP0 ?_
  refine WO_fin [2] [] (fr' := [(2, aI r2)]) (L' := []) (by kernel_rfl) (by kernel_rfl) ?_
  refine seqQ_norm ?_
  obtain rfl := Option.some.inj h
  refine W_ret [2] [] (fr' := [(2, aI r2)]) (L' := []) (by kernel_rfl) (by kernel_rfl) ?_
  exact retQ_mk (by kernel_rfl) (by kernel_rfl) (by kernel_rfl)

def guess_Apart_g110 (i574 : Int) (i742 : Int) (x743 : Int) (v745 : Bool) : Option Int :=
(math_bits_OnesCount (IntKind.wrap .u64 (bAnd .i64 i742 i574))).bind fun r754 =>
bif !(v745 == ((Int.tmod r754 (2 : Int)) == (1 : Int))) then
(some (w64 (x743 + (1 : Int))))
else
(some x743)
@[reducible] def guess_Apart_s111 (a1 : (List Bool)) (i574 : Int) (x575 : (Int × Int)) (i742 : Int) (v : Int) : Fr × LL := ([(1, aD (.slice .bool) a1), (8, aI x575.1), (9, aI x575.2), (10, aI i574), (11, aI v), (24, aI (List.length a1 : Int)), (25, aI i574), (28, aD (.slice .bool) a1), (29, aI (List.length a1 : Int)), (30, aI i742)], [])
def guess_Apart_b112 (i574 : Int) (i742 : Int) (v745 : Bool) (x743 : Int) : Option (Flow Int Int) :=
(guess_Apart_g110 i574 i742 x743 v745).bind fun v757 =>
some (.next v757)
@[reducible] def guess_Apart_s113 (a1 : (List Bool)) (i574 : Int) (x575 : (Int × Int)) (v : Int × Int) : Fr × LL := ([(1, aD (.slice .bool) a1), (8, aI x575.1), (9, aI x575.2), (10, aI i574), (11, aI v.2), (24, aI (List.length a1 : Int)), (25, aI i574), (28, aD (.slice .bool) a1), (29, aI (List.length a1 : Int)), (30, aI v.1)], [])
@[reducible] def guess_Apart_s114 (a1 : (List Bool)) (i574 : Int) (x575 : (Int × Int)) (v : Int) : Fr × LL := ([(1, aD (.slice .bool) a1), (8, aI x575.1), (9, aI x575.2), (10, aI i574), (11, aI v), (24, aI (List.length a1 : Int)), (25, aI i574)], [])
def guess_Apart_g115 (a1 : (List Bool)) (i574 : Int) (x575 : (Int × Int)) : Option (Int × Int) :=
(forL (guess_Apart_b112 i574) (fun x743 => x743) a1 0 (0 : Int)).bind fun v760 =>
bif decide (v760 < x575.1) then
(some (v760, i574))
else
(some (x575.1, x575.2))
@[reducible] def guess_Apart_s116 (a1 : (List Bool)) (i574 : Int) (v : (Int × Int)) : Fr × LL := ([(1, aD (.slice .bool) a1), (8, aI v.1), (9, aI v.2), (24, aI (List.length a1 : Int)), (25, aI i574)], [])
def guess_Apart_b117 (a1 : (List Bool)) (i574 : Int) (v577 : Bool) (x575 : (Int × Int)) : Option (Flow (Int × Int) (Int × Int)) :=
(guess_Apart_g115 a1 i574 x575).bind fun v766 =>
some (.next (v766.1, v766.2))
@[reducible] def guess_Apart_s118 (a1 : (List Bool)) (v : Int × (Int × Int)) : Fr × LL := ([(1, aD (.slice .bool) a1), (8, aI v.2.1), (9, aI v.2.2), (24, aI (List.length a1 : Int)), (25, aI v.1)], [])
@[reducible] def guess_Apart_s119 (v : (Int × Int)) : Fr × LL := ([(8, aI v.1), (9, aI v.2)], [])
def guess_Apart (a0 : Int) (a1 : (List Bool)) : Option (Int × Int × Int) :=
(guess_table a0 a1).bind fun r1 =>
bif r1 != (0 : Int) then
(some ((0 : Int), (0 : Int), r1))
else
((forL (guess_Apart_b117 a1) (fun x575 => (x575.1, x575.2)) a1 0 (w64 ((List.length a1 : Int) + (1 : Int)), (0 : Int))).bind fun v769 =>
some (v769.1, v769.2, (0 : Int)))
theorem guess_Apart_ok {a0 : Int} {a1 : (List Bool)} {r : (Int × Int × Int)} (h : guess_Apart a0 a1 = some r) : FnC Try.prog 31 [aI a0, aD (.slice .bool) a1] [] (.tup [.dat tI r.1, .dat tI r.2.1, .dat tI r.2.2]) [] := by
  refine fnC_of_W (B := bodyOf Try.f31) (n := 55) Try.func31 (by kernel_rfl) (by kernel_rfl) (by kernel_rfl) (by kernel_rfl) (by kernel_rfl) ?_
  intro K
  refine W_seq (by kernel_rfl) ?_
  refine W_run 3 [] [0, 1] [] (fr' := [(0, aI a0), (1, aD (.slice .bool) a1)]) (L' := []) (obs := []) (by kernel_rfl) (by kernel_rfl) (by kernel_rfl) allP0 ?_
  refine seqQ_norm ?_
  refine W_seq (by kernel_rfl) ?_
  refine W_seq (by kernel_rfl) ?_
  refine W_region (by kernel_rfl) ?_
  refine WO_run (j := 2) (k := 2) (orcs := []) (kF := [1, 14, 15]) (kL := []) (fr' := [(1, aD (.slice .bool) a1), (14, aI a0), (15, aD (.slice .bool) a1)]) (L' := []) (obs := []) rfl (by kernel_rfl) allP0 ?_
  obtain ⟨r1, h2, h⟩ := bind_of h
  refine WO_call0 (us := [none, none]) (d := 16) (p := True) (j := 3) rfl ⟨by kernel_rfl, by kernel_rfl, by kernel_rfl⟩ trivial (guess_table_ok h2) (by kernel_rfl) ?_
  refine WO_run (j := 4) (k := 1) (orcs := []) (kF := [1, 7]) (kL := []) (fr' := [(1, aD (.slice .bool) a1), (7, aI r1)]) (L' := []) (obs := []) rfl (by kernel_rfl) allP0 ?_
  refine WO_fin [1, 7] [] (fr' := [(1, aD (.slice .bool) a1), (7, aI r1)]) (L' := []) (by kernel_rfl) (by kernel_rfl) ?_
  refine seqQ_norm ?_
  refine W_seq (by kernel_rfl) ?_
  refine W_run 2 [] [1, 7, 18] [] (fr' := [(1, aD (.slice .bool) a1), (7, aI r1), (18, aB (r1 != (0 : Int)))]) (L' := []) (obs := []) (by kernel_rfl) (by kernel_rfl) (by kernel_rfl) allP0 ?_
  refine seqQ_norm ?_
  refine W_cond (o := .tmp 18) (b := r1 != (0 : Int)) (by kernel_rfl) (by kernel_rfl) (fun h3 => ?_) (fun h3 => ?_)
  · replace h := ofT h3 h
    refine W_seq (by kernel_rfl) ?_
    refine W_run 4 [] [4, 5, 6] [] (fr' := [(4, aI (0 : Int)), (5, aI (0 : Int)), (6, aI r1)]) (L' := []) (obs := []) (by kernel_rfl) (by kernel_rfl) (by kernel_rfl) allP0 ?_
    refine seqQ_norm ?_
    obtain rfl := Option.some.inj h
    refine W_ret [4, 5, 6] [] (fr' := [(4, aI (0 : Int)), (5, aI (0 : Int)), (6, aI r1)]) (L' := []) (by kernel_rfl) (by kernel_rfl) ?_
    refine seqQ_ret ?_
    exact retQ_mk (by kernel_rfl) (by kernel_rfl) (by kernel_rfl)
  · replace h := ofF h3 h
    refine W_skip [1] [] (fr' := [(1, aD (.slice .bool) a1)]) (L' := []) (by kernel_rfl) (by kernel_rfl) ?_
    refine seqQ_norm ?_
    refine W_seq (by kernel_rfl) ?_
    refine W_run 5 [] [1, 8, 9] [] (fr' := [(1, aD (.slice .bool) a1), (8, aI (w64 ((List.length a1 : Int) + (1 : Int)))), (9, aI (0 : Int))]) (L' := []) (obs := []) (by kernel_rfl) (by kernel_rfl) (by kernel_rfl) allP0 ?_
    refine seqQ_norm ?_
    refine W_seq (by kernel_rfl) ?_
    refine W_seq (by kernel_rfl) ?_
    refine W_run 3 [] [1, 8, 9, 24, 25] [] (fr' := [(1, aD (.slice .bool) a1), (8, aI (w64 ((List.length a1 : Int) + (1 : Int)))), (9, aI (0 : Int)), (24, aI (List.length a1 : Int)), (25, aI (0 : Int))]) (L' := []) (obs := []) (by kernel_rfl) (by kernel_rfl) (by kernel_rfl) allP0 ?_
    refine seqQ_norm ?_
    refine W_block (id := 0) (by kernel_rfl) ?_
    obtain ⟨v769, h770, h⟩ := bind_of h
    refine W_len (t := 1) (u := .bool) (xs := a1) (by kernel_rfl) (fun h773 => ?_)
    obtain ⟨h771, h772⟩ := forL_iter h773 h770
    refine W_weaken [1, 8, 9, 24, 25] [] (fr' := ((guess_Apart_s118 a1) ((0 : Int), (w64 ((List.length a1 : Int) + (1 : Int)), (0 : Int)))).1) (L' := ((guess_Apart_s118 a1) ((0 : Int), (w64 ((List.length a1 : Int) + (1 : Int)), (0 : Int)))).2) (by kernel_rfl) ?_
    refine W_cutK (W_loop (S := (guess_Apart_s118 a1)) (J := (exQ (.exit 0) guess_Apart_s119)) (by kernel_rfl) ?_ h771 _ v769 h772) ?_
    · rintro ⟨i574, x575⟩ s h
      refine W_seq (by kernel_rfl) ?_
      refine W_run 1 [] [1, 8, 9, 24, 25, 26] [] (fr' := [(1, aD (.slice .bool) a1), (8, aI x575.1), (9, aI x575.2), (24, aI (List.length a1 : Int)), (25, aI i574), (26, aB (decide (i574 < (List.length a1 : Int))))]) (L' := []) (obs := []) (by kernel_rfl) (by kernel_rfl) (by kernel_rfl) allP0 ?_
      refine seqQ_norm ?_
      refine W_seq (by kernel_rfl) ?_
      refine W_cond (o := .tmp 26) (b := decide (i574 < (List.length a1 : Int))) (by kernel_rfl) (by kernel_rfl) (fun h579 => ?_) (fun h579 => ?_)
      · replace h := stepL_true h579 h
        obtain ⟨v577, _, h578, h, rfl⟩ := h
        refine W_skip [1, 8, 9, 24, 25] [] (fr' := [(1, aD (.slice .bool) a1), (8, aI x575.1), (9, aI x575.2), (24, aI (List.length a1 : Int)), (25, aI i574)]) (L' := []) (by kernel_rfl) (by kernel_rfl) ?_
        refine seqQ_norm ?_
        refine W_seq (by kernel_rfl) ?_
        obtain ⟨v766, h767, h⟩ := bind_of h
        refine W_cutK (Q' := (exQ .normal (guess_Apart_s116 a1 i574)) v766) ?_ ?_
        · replace h := h767
          refine W_block (id := 1) (by kernel_rfl) ?_
          refine W_seq (by kernel_rfl) ?_
          refine W_run 2 [] [1, 8, 9, 10, 24, 25] [] (fr' := [(1, aD (.slice .bool) a1), (8, aI x575.1), (9, aI x575.2), (10, aI i574), (24, aI (List.length a1 : Int)), (25, aI i574)]) (L' := []) (obs := []) (by kernel_rfl) (by kernel_rfl) (by kernel_rfl) allP0 ?_
          refine seqQ_norm ?_
          refine W_seq (by kernel_rfl) ?_
          refine W_run 1 [] [1, 8, 9, 10, 11, 24, 25] [] (fr' := [(1, aD (.slice .bool) a1), (8, aI x575.1), (9, aI x575.2), (10, aI i574), (11, aI (0 : Int)), (24, aI (List.length a1 : Int)), (25, aI i574)]) (L' := []) (obs := []) (by kernel_rfl) (by kernel_rfl) (by kernel_rfl) allP0 ?_
          refine seqQ_norm ?_
          refine W_seq (by kernel_rfl) ?_
          refine W_seq (by kernel_rfl) ?_
          refine W_run 3 [] [1, 8, 9, 10, 11, 24, 25, 28, 29, 30] [] (fr' := [(1, aD (.slice .bool) a1), (8, aI x575.1), (9, aI x575.2), (10, aI i574), (11, aI (0 : Int)), (24, aI (List.length a1 : Int)), (25, aI i574), (28, aD (.slice .bool) a1), (29, aI (List.length a1 : Int)), (30, aI (0 : Int))]) (L' := []) (obs := []) (by kernel_rfl) (by kernel_rfl) (by kernel_rfl) allP0 ?_
          refine seqQ_norm ?_
          refine W_block (id := 2) (by kernel_rfl) ?_
          obtain ⟨v760, h761, h⟩ := bind_of h
          refine W_len (t := 28) (u := .bool) (xs := a1) (by kernel_rfl) (fun h764 => ?_)
          obtain ⟨h762, h763⟩ := forL_iter h764 h761
          refine W_weaken [1, 8, 9, 10, 11, 24, 25, 28, 29, 30] [] (fr' := ((guess_Apart_s113 a1 i574 x575) ((0 : Int), (0 : Int))).1) (L' := ((guess_Apart_s113 a1 i574 x575) ((0 : Int), (0 : Int))).2) (by kernel_rfl) ?_
          refine W_cutK (W_loop (S := (guess_Apart_s113 a1 i574 x575)) (J := (exQ (.exit 2) (guess_Apart_s114 a1 i574 x575))) (by kernel_rfl) ?_ h762 _ v760 h763) ?_
          · rintro ⟨i742, x743⟩ s h
            refine W_seq (by kernel_rfl) ?_
            refine W_run 1 [] [1, 8, 9, 10, 11, 24, 25, 28, 29, 30, 31] [] (fr' := [(1, aD (.slice .bool) a1), (8, aI x575.1), (9, aI x575.2), (10, aI i574), (11, aI x743), (24, aI (List.length a1 : Int)), (25, aI i574), (28, aD (.slice .bool) a1), (29, aI (List.length a1 : Int)), (30, aI i742), (31, aB (decide (i742 < (List.length a1 : Int))))]) (L' := []) (obs := []) (by kernel_rfl) (by kernel_rfl) (by kernel_rfl) allP0 ?_
            refine seqQ_norm ?_
            refine W_seq (by kernel_rfl) ?_
            refine W_cond (o := .tmp 31) (b := decide (i742 < (List.length a1 : Int))) (by kernel_rfl) (by kernel_rfl) (fun h747 => ?_) (fun h747 => ?_)
            · replace h := stepL_true h747 h
              obtain ⟨v745, _, h746, h, rfl⟩ := h
              refine W_skip [1, 8, 9, 10, 11, 24, 25, 28, 29, 30] [] (fr' := [(1, aD (.slice .bool) a1), (8, aI x575.1), (9, aI x575.2), (10, aI i574), (11, aI x743), (24, aI (List.length a1 : Int)), (25, aI i574), (28, aD (.slice .bool) a1), (29, aI (List.length a1 : Int)), (30, aI i742)]) (L' := []) (by kernel_rfl) (by kernel_rfl) ?_
              refine seqQ_norm ?_
              refine W_seq (by kernel_rfl) ?_
              obtain ⟨v757, h758, h⟩ := bind_of h
              refine W_cutK (Q' := (exQ .normal (guess_Apart_s111 a1 i574 x575 i742)) v757) ?_ ?_
              · replace h := h758
                refine W_block (id := 3) (by kernel_rfl) ?_
                refine W_seq (by kernel_rfl) ?_
                refine W_run 5 [(3, .val (.dat .bool v745))] [1, 8, 9, 10, 11, 12, 13, 24, 25, 28, 29, 30] [] (fr' := [(1, aD (.slice .bool) a1), (8, aI x575.1), (9, aI x575.2), (10, aI i574), (11, aI x743), (12, aI i742), (13, aB v745), (24, aI (List.length a1 : Int)), (25, aI i574), (28, aD (.slice .bool) a1), (29, aI (List.length a1 : Int)), (30, aI i742)]) (L' := []) (obs := [Idx a1 i742 v745]) (by kernel_rfl) (by kernel_rfl) (by kernel_rfl) (allP1 (Idx.of h746)) ?_
                refine seqQ_norm ?_
                refine W_seq (by kernel_rfl) ?_
                refine W_region (by kernel_rfl) ?_
                refine WO_run (j := 5) (k := 5) (orcs := []) (kF := [1, 8, 9, 10, 11, 24, 25, 28, 29, 30, 35, 39]) (kL := []) (fr' := [(1, aD (.slice .bool) a1), (8, aI x575.1), (9, aI x575.2), (10, aI i574), (11, aI x743), (24, aI (List.length a1 : Int)), (25, aI i574), (28, aD (.slice .bool) a1), (29, aI (List.length a1 : Int)), (30, aI i742), (35, aB v745), (39, aD (.int .u64) (IntKind.wrap .u64 (bAnd .i64 i742 i574)))]) (L' := []) (obs := []) rfl (by kernel_rfl) allP0 ?_
                obtain ⟨r754, h755, h⟩ := bind_of h
                refine WO_call0 (us := [none]) (d := 40) (p := True) (j := 6) rfl ⟨by kernel_rfl, by kernel_rfl, by kernel_rfl⟩ trivial (math_bits_OnesCount_ok h755) (by kernel_rfl) ?_
                refine WO_run (j := 9) (k := 3) (orcs := []) (kF := [1, 8, 9, 10, 11, 24, 25, 28, 29, 30, 43]) (kL := []) (fr' := [(1, aD (.slice .bool) a1), (8, aI x575.1), (9, aI x575.2), (10, aI i574), (11, aI x743), (24, aI (List.length a1 : Int)), (25, aI i574), (28, aD (.slice .bool) a1), (29, aI (List.length a1 : Int)), (30, aI i742), (43, aB (!(v745 == ((Int.tmod r754 (2 : Int)) == (1 : Int)))))]) (L' := []) (obs := [((2 : Int) ≠ 0)]) rfl (by kernel_rfl) (allP1 (by decide)) ?_
                refine WO_fin [1, 8, 9, 10, 11, 24, 25, 28, 29, 30, 43] [] (fr' := [(1, aD (.slice .bool) a1), (8, aI x575.1), (9, aI x575.2), (10, aI i574), (11, aI x743), (24, aI (List.length a1 : Int)), (25, aI i574), (28, aD (.slice .bool) a1), (29, aI (List.length a1 : Int)), (30, aI i742), (43, aB (!(v745 == ((Int.tmod r754 (2 : Int)) == (1 : Int)))))]) (L' := []) (by kernel_rfl) (by kernel_rfl) ?_
                refine seqQ_norm ?_
                refine W_cond (o := .tmp 43) (b := !(v745 == ((Int.tmod r754 (2 : Int)) == (1 : Int)))) (by kernel_rfl) (by kernel_rfl) (fun h756 => ?_) (fun h756 => ?_)
                · replace h := ofT h756 h
                  obtain rfl := Option.some.inj h
                  refine W_run 3 [] [1, 8, 9, 10, 11, 24, 25, 28, 29, 30] [] (fr' := [(1, aD (.slice .bool) a1), (8, aI x575.1), (9, aI x575.2), (10, aI i574), (11, aI (w64 (x743 + (1 : Int)))), (24, aI (List.length a1 : Int)), (25, aI i574), (28, aD (.slice .bool) a1), (29, aI (List.length a1 : Int)), (30, aI i742)]) (L' := []) (obs := []) (by kernel_rfl) (by kernel_rfl) (by kernel_rfl) allP0 ?_
                  refine blockQ_norm ?_
                  exact exQ_mk (by kernel_rfl) (by kernel_rfl)
                · replace h := ofF h756 h
                  obtain rfl := Option.some.inj h
                  refine W_skip [1, 8, 9, 10, 11, 24, 25, 28, 29, 30] [] (fr' := [(1, aD (.slice .bool) a1), (8, aI x575.1), (9, aI x575.2), (10, aI i574), (11, aI x743), (24, aI (List.length a1 : Int)), (25, aI i574), (28, aD (.slice .bool) a1), (29, aI (List.length a1 : Int)), (30, aI i742)]) (L' := []) (by kernel_rfl) (by kernel_rfl) ?_
                  refine blockQ_norm ?_
                  exact exQ_mk (by kernel_rfl) (by kernel_rfl)
              · intro e fr L hJ
                obtain ⟨rfl, rfl, rfl⟩ := hJ
                refine LT_keep [1, 8, 9, 10, 11, 24, 25, 28, 29, 30] [] (fr' := [(1, aD (.slice .bool) a1), (8, aI x575.1), (9, aI x575.2), (10, aI i574), (11, aI v757), (24, aI (List.length a1 : Int)), (25, aI i574), (28, aD (.slice .bool) a1), (29, aI (List.length a1 : Int)), (30, aI i742)]) (L' := []) (by kernel_rfl) ?_
                refine seqQ_norm ?_
                obtain rfl := Option.some.inj h
                refine W_run 2 [] [1, 8, 9, 10, 11, 24, 25, 28, 29, 30] [] (fr' := [(1, aD (.slice .bool) a1), (8, aI x575.1), (9, aI x575.2), (10, aI i574), (11, aI v757), (24, aI (List.length a1 : Int)), (25, aI i574), (28, aD (.slice .bool) a1), (29, aI (List.length a1 : Int)), (30, aI (w64 (i742 + (1 : Int))))]) (L' := []) (obs := []) (by kernel_rfl) (by kernel_rfl) (by kernel_rfl) allP0 ?_
                exact round_next' (by kernel_rfl) (by kernel_rfl)
            · obtain rfl := stepL_false h747 h
              refine W_exit (id := 2) [1, 8, 9, 10, 11, 24, 25] [] (fr' := [(1, aD (.slice .bool) a1), (8, aI x575.1), (9, aI x575.2), (10, aI i574), (11, aI x743), (24, aI (List.length a1 : Int)), (25, aI i574)]) (L' := []) (by kernel_rfl) (by kernel_rfl) ?_
              refine seqQ_exit ?_
              refine round_exit ?_
              exact exQ_mk (by kernel_rfl) (by kernel_rfl)
          · intro e fr L hJ
            obtain ⟨rfl, rfl, rfl⟩ := hJ
            refine LT_keep [1, 8, 9, 10, 11, 24, 25] [] (fr' := [(1, aD (.slice .bool) a1), (8, aI x575.1), (9, aI x575.2), (10, aI i574), (11, aI v760), (24, aI (List.length a1 : Int)), (25, aI i574)]) (L' := []) (by kernel_rfl) ?_
            refine blockQ_hit ?_
            refine seqQ_norm ?_
            refine W_seq (by kernel_rfl) ?_
            refine W_run 3 [] [1, 8, 9, 10, 11, 24, 25, 49] [] (fr' := [(1, aD (.slice .bool) a1), (8, aI x575.1), (9, aI x575.2), (10, aI i574), (11, aI v760), (24, aI (List.length a1 : Int)), (25, aI i574), (49, aB (decide (v760 < x575.1)))]) (L' := []) (obs := []) (by kernel_rfl) (by kernel_rfl) (by kernel_rfl) allP0 ?_
            refine seqQ_norm ?_
            refine W_cond (o := .tmp 49) (b := decide (v760 < x575.1)) (by kernel_rfl) (by kernel_rfl) (fun h765 => ?_) (fun h765 => ?_)
            · replace h := ofT h765 h
              obtain rfl := Option.some.inj h
              refine W_run 4 [] [1, 8, 9, 24, 25] [] (fr' := [(1, aD (.slice .bool) a1), (8, aI v760), (9, aI i574), (24, aI (List.length a1 : Int)), (25, aI i574)]) (L' := []) (obs := []) (by kernel_rfl) (by kernel_rfl) (by kernel_rfl) allP0 ?_
              refine blockQ_norm ?_
              exact exQ_mk (by kernel_rfl) (by kernel_rfl)
            · replace h := ofF h765 h
              obtain rfl := Option.some.inj h
              refine W_skip [1, 8, 9, 24, 25] [] (fr' := [(1, aD (.slice .bool) a1), (8, aI x575.1), (9, aI x575.2), (24, aI (List.length a1 : Int)), (25, aI i574)]) (L' := []) (by kernel_rfl) (by kernel_rfl) ?_
              refine blockQ_norm ?_
              exact exQ_mk (by kernel_rfl) (by kernel_rfl)
        · intro e fr L hJ
          obtain ⟨rfl, rfl, rfl⟩ := hJ
          refine LT_keep [1, 8, 9, 24, 25] [] (fr' := [(1, aD (.slice .bool) a1), (8, aI v766.1), (9, aI v766.2), (24, aI (List.length a1 : Int)), (25, aI i574)]) (L' := []) (by kernel_rfl) ?_
          refine seqQ_norm ?_
          obtain rfl := Option.some.inj h
          refine W_run 2 [] [1, 8, 9, 24, 25] [] (fr' := [(1, aD (.slice .bool) a1), (8, aI v766.1), (9, aI v766.2), (24, aI (List.length a1 : Int)), (25, aI (w64 (i574 + (1 : Int))))]) (L' := []) (obs := []) (by kernel_rfl) (by kernel_rfl) (by kernel_rfl) allP0 ?_
          exact round_next' (by kernel_rfl) (by kernel_rfl)
      · obtain rfl := stepL_false h579 h
        refine W_exit (id := 0) [8, 9] [] (fr' := [(8, aI x575.1), (9, aI x575.2)]) (L' := []) (by kernel_rfl) (by kernel_rfl) ?_
        refine seqQ_exit ?_
        refine round_exit ?_
        exact exQ_mk (by kernel_rfl) (by kernel_rfl)
    · intro e fr L hJ
      obtain ⟨rfl, rfl, rfl⟩ := hJ
      refine LT_keep [8, 9] [] (fr' := [(8, aI v769.1), (9, aI v769.2)]) (L' := []) (by kernel_rfl) ?_
      refine blockQ_hit ?_
      refine seqQ_norm ?_
      refine W_seq (by kernel_rfl) ?_
      refine W_run 5 [] [4, 5, 6] [] (fr' := [(4, aI v769.1), (5, aI v769.2), (6, aI (0 : Int))]) (L' := []) (obs := []) (by kernel_rfl) (by kernel_rfl) (by kernel_rfl) allP0 ?_
      refine seqQ_norm ?_
      obtain rfl := Option.some.inj h
      refine W_ret [4, 5, 6] [] (fr' := [(4, aI v769.1), (5, aI v769.2), (6, aI (0 : Int))]) (L' := []) (by kernel_rfl) (by kernel_rfl) ?_
      exact retQ_mk (by kernel_rfl) (by kernel_rfl) (by kernel_rfl)

def ref_Within (a0 : Int) (a1 : Int) (a2 : Int) : Option Bool :=
some ((decide (a0 ≤ a1)) && (decide (a1 ≤ a2)))
theorem ref_Within_ok {a0 : Int} {a1 : Int} {a2 : Int} {r : Bool} (h : ref_Within a0 a1 a2 = some r) : FnC Try.prog 34 [aI a0, aI a1, aI a2] [] (aB r) [] := by
  refine fnC_of_W (B := bodyOf Try.f34) (n := 15) Try.func34 (by kernel_rfl) (by kernel_rfl) (by kernel_rfl) (by kernel_rfl) (by kernel_rfl) ?_
  intro K
  refine W_seq (by kernel_rfl) ?_
  refine W_run 1 [] [0, 1, 2] [] (fr' := [(0, aI a0), (1, aI a1), (2, aI a2)]) (L' := []) (obs := []) (by kernel_rfl) (by kernel_rfl) (by kernel_rfl) allP0 ?_
  refine seqQ_norm ?_
  refine W_seq (by kernel_rfl) ?_
  refine W_run 9 [] [6] [] (fr' := [(6, aB ((decide (a0 ≤ a1)) && (decide (a1 ≤ a2))))]) (L' := []) (obs := []) (by kernel_rfl) (by kernel_rfl) (by kernel_rfl) allP0 ?_
  refine seqQ_norm ?_
  obtain rfl := Option.some.inj h
  refine W_ret [6] [] (fr' := [(6, aB ((decide (a0 ≤ a1)) && (decide (a1 ≤ a2))))]) (L' := []) (by kernel_rfl) (by kernel_rfl) ?_
  exact retQ_mk (by kernel_rfl) (by kernel_rfl) (by kernel_rfl)

def ref_Inside_b1 (a0 : Int) (i11 : Int) (v14 : Int) (x12 : Unit) : Option (Flow Unit (Esc Bool Unit)) :=
bif (decide (v14 < (0 : Int))) || (decide (v14 ≥ a0)) then
(some (.done (.ret false)))
else
(some (.next ()))
@[reducible] def ref_Inside_s2 (a0 : Int) (a1 : (List Int)) (v : Int × Unit) : Fr × LL := ([(0, aI a0), (7, aD (.slice tI) a1), (8, aI (List.length a1 : Int)), (9, aI v.1)], [])
@[reducible] def ref_Inside_s3 (v : Bool) : Fr × LL := ([(4, aB v)], [])
@[reducible] def ref_Inside_s4 (v : Unit) : Fr × LL := ([], [])
def ref_Inside (a0 : Int) (a1 : (List Int)) : Option Bool :=
(forL (ref_Inside_b1 a0) (fun x12 => (.brk ())) a1 0 ()).bind fun v19 =>
match v19 with
| .ret v24 =>
(some v24)
| .brk v25 =>
(some true)
theorem ref_Inside_ok {a0 : Int} {a1 : (List Int)} {r : Bool} (h : ref_Inside a0 a1 = some r) : FnC Try.prog 35 [aI a0, aD (.slice tI) a1] [] (aB r) [] := by
  refine fnC_of_W (B := bodyOf Try.f35) (n := 21) Try.func35 (by kernel_rfl) (by kernel_rfl) (by kernel_rfl) (by kernel_rfl) (by kernel_rfl) ?_
  intro K
  refine W_seq (by kernel_rfl) ?_
  refine W_run 1 [] [0, 1] [] (fr' := [(0, aI a0), (1, aD (.slice tI) a1)]) (L' := []) (obs := []) (by kernel_rfl) (by kernel_rfl) (by kernel_rfl) allP0 ?_
  refine seqQ_norm ?_
  refine W_seq (by kernel_rfl) ?_
  refine W_seq (by kernel_rfl) ?_
  refine W_run 3 [] [0, 7, 8, 9] [] (fr' := [(0, aI a0), (7, aD (.slice tI) a1), (8, aI (List.length a1 : Int)), (9, aI (0 : Int))]) (L' := []) (obs := []) (by kernel_rfl) (by kernel_rfl) (by kernel_rfl) allP0 ?_
  refine seqQ_norm ?_
  refine W_block (id := 0) (by kernel_rfl) ?_
  obtain ⟨v19, h20, h⟩ := bind_of h
  refine W_len (t := 7) (u := tI) (xs := a1) (by kernel_rfl) (fun h23 => ?_)
  obtain ⟨h21, h22⟩ := forL_iter h23 h20
  refine W_weaken [0, 7, 8, 9] [] (fr' := ((ref_Inside_s2 a0 a1) ((0 : Int), ())).1) (L' := ((ref_Inside_s2 a0 a1) ((0 : Int), ())).2) (by kernel_rfl) ?_
  refine W_cutK (W_loop (S := (ref_Inside_s2 a0 a1)) (J := (escQ (exQ .ret ref_Inside_s3) (exQ (.exit 0) ref_Inside_s4))) (by kernel_rfl) ?_ h21 _ v19 h22) ?_
  · rintro ⟨i11, x12⟩ s h
    refine W_seq (by kernel_rfl) ?_
    refine W_run 1 [] [0, 7, 8, 9, 10] [] (fr' := [(0, aI a0), (7, aD (.slice tI) a1), (8, aI (List.length a1 : Int)), (9, aI i11), (10, aB (decide (i11 < (List.length a1 : Int))))]) (L' := []) (obs := []) (by kernel_rfl) (by kernel_rfl) (by kernel_rfl) allP0 ?_
    refine seqQ_norm ?_
    refine W_seq (by kernel_rfl) ?_
    refine W_cond (o := .tmp 10) (b := decide (i11 < (List.length a1 : Int))) (by kernel_rfl) (by kernel_rfl) (fun h16 => ?_) (fun h16 => ?_)
    · replace h := stepL_true h16 h
      obtain ⟨v14, _, h15, h, rfl⟩ := h
      refine W_skip [0, 7, 8, 9] [] (fr' := [(0, aI a0), (7, aD (.slice tI) a1), (8, aI (List.length a1 : Int)), (9, aI i11)]) (L' := []) (by kernel_rfl) (by kernel_rfl) ?_
      refine seqQ_norm ?_
      refine W_seq (by kernel_rfl) ?_
      refine W_block (id := 1) (by kernel_rfl) ?_
      refine W_seq (by kernel_rfl) ?_
      refine W_run 3 [(1, .val (.dat tI v14))] [0, 6, 7, 8, 9] [] (fr' := [(0, aI a0), (6, aI v14), (7, aD (.slice tI) a1), (8, aI (List.length a1 : Int)), (9, aI i11)]) (L' := []) (obs := [Idx a1 i11 v14]) (by kernel_rfl) (by kernel_rfl) (by kernel_rfl) (allP1 (Idx.of h15)) ?_
      refine seqQ_norm ?_
      refine W_seq (by kernel_rfl) ?_
      refine W_run 7 [] [0, 7, 8, 9, 19] [] (fr' := [(0, aI a0), (7, aD (.slice tI) a1), (8, aI (List.length a1 : Int)), (9, aI i11), (19, aB ((decide (v14 < (0 : Int))) || (decide (v14 ≥ a0))))]) (L' := []) (obs := []) (by kernel_rfl) (by kernel_rfl) (by kernel_rfl) allP0 ?_
      refine seqQ_norm ?_
      refine W_cond (o := .tmp 19) (b := (decide (v14 < (0 : Int))) || (decide (v14 ≥ a0))) (by kernel_rfl) (by kernel_rfl) (fun h17 => ?_) (fun h17 => ?_)
      · replace h := ofT h17 h
        refine W_seq (by kernel_rfl) ?_
        refine W_run 1 [] [4] [] (fr' := [(4, aB false)]) (L' := []) (obs := []) (by kernel_rfl) (by kernel_rfl) (by kernel_rfl) allP0 ?_
        refine seqQ_norm ?_
        obtain rfl := Option.some.inj h
        refine W_ret [4] [] (fr' := [(4, aB false)]) (L' := []) (by kernel_rfl) (by kernel_rfl) ?_
        refine blockQ_ret ?_
        refine seqQ_ret ?_
        refine round_ret ?_
        refine escQ_ret ?_
        exact exQ_mk (by kernel_rfl) (by kernel_rfl)
      · replace h := ofF h17 h
        refine W_skip [0, 7, 8, 9] [] (fr' := [(0, aI a0), (7, aD (.slice tI) a1), (8, aI (List.length a1 : Int)), (9, aI i11)]) (L' := []) (by kernel_rfl) (by kernel_rfl) ?_
        refine blockQ_norm ?_
        refine seqQ_norm ?_
        obtain rfl := Option.some.inj h
        refine W_run 2 [] [0, 7, 8, 9] [] (fr' := [(0, aI a0), (7, aD (.slice tI) a1), (8, aI (List.length a1 : Int)), (9, aI (w64 (i11 + (1 : Int))))]) (L' := []) (obs := []) (by kernel_rfl) (by kernel_rfl) (by kernel_rfl) allP0 ?_
        exact round_next' (by kernel_rfl) (by kernel_rfl)
    · obtain rfl := stepL_false h16 h
      refine W_exit (id := 0) [] [] (fr' := []) (L' := []) (by kernel_rfl) (by kernel_rfl) ?_
      refine seqQ_exit ?_
      refine round_exit ?_
      refine escQ_brk ?_
      exact exQ_mk (by kernel_rfl) (by kernel_rfl)
  · intro e fr L hJ
    rcases v19 with v24 | v25
    · obtain ⟨rfl, rfl, rfl⟩ := hJ
      obtain rfl := Option.some.inj h
      refine LT_keep [4] [] (fr' := [(4, aB v24)]) (L' := []) (by kernel_rfl) ?_
      refine blockQ_ret ?_
      refine seqQ_ret ?_
      exact retQ_mk (by kernel_rfl) (by kernel_rfl) (by kernel_rfl)
    · obtain ⟨rfl, rfl, rfl⟩ := hJ
      refine LT_keep [] [] (fr' := []) (L' := []) (by kernel_rfl) ?_
      refine blockQ_hit ?_
      refine seqQ_norm ?_
      refine W_seq (by kernel_rfl) ?_
      refine W_run 1 [] [4] [] (fr' := [(4, aB true)]) (L' := []) (obs := []) (by kernel_rfl) (by kernel_rfl) (by kernel_rfl) allP0 ?_
      refine seqQ_norm ?_
      obtain rfl := Option.some.inj h
      refine W_ret [4] [] (fr' := [(4, aB true)]) (L' := []) (by kernel_rfl) (by kernel_rfl) ?_
      exact retQ_mk (by kernel_rfl) (by kernel_rfl) (by kernel_rfl)

def ref_TableCheck (a0 : Int) (a1 : (List Bool)) (a2 : Int) : Option Int :=
(ref_Within (0 : Int) a0 (4 : Int)).bind fun r1 =>
bif !r1 then
(some (1 : Int))
else
((ck (0 ≤ IntKind.wrap .u64 (a0))).bind fun _ =>
bif (List.length a1 : Int) != (bShl .i64 (1 : Int) (IntKind.wrap .u64 (a0))) then
(some (3 : Int))
else
((ref_Inside (List.length a1 : Int) [a2]).bind fun r6 =>
bif !r6 then
(some (4 : Int))
else
(some (0 : Int))))
theorem ref_TableCheck_ok {a0 : Int} {a1 : (List Bool)} {a2 : Int} {r : Int} (h : ref_TableCheck a0 a1 a2 = some r) : FnC Try.prog 18 [aI a0, aD (.slice .bool) a1, aI a2] [] (aI r) [] := by
  refine fnC_of_W (B := bodyOf Try.f18) (n := 22) Try.func18 (by kernel_rfl) (by kernel_rfl) (by kernel_rfl) (by kernel_rfl) (by kernel_rfl) ?_
  intro K
  refine W_seq (by kernel_rfl) ?_
  refine W_run 1 [] [0, 1, 2] [] (fr' := [(0, aI a0), (1, aD (.slice .bool) a1), (2, aI a2)]) (L' := []) (obs := []) (by kernel_rfl) (by kernel_rfl) (by kernel_rfl) allP0 ?_
  refine seqQ_norm ?_
  refine W_seq (by kernel_rfl) ?_
  refine W_seq (by kernel_rfl) ?_
  refine W_region (by kernel_rfl) ?_
  refine WO_run (j := 1) (k := 1) (orcs := []) (kF := [0, 1, 2, 7]) (kL := []) (fr' := [(0, aI a0), (1, aD (.slice .bool) a1), (2, aI a2), (7, aI a0)]) (L' := []) (obs := []) rfl (by kernel_rfl) allP0 ?_
  obtain ⟨r1, h2, h⟩ := bind_of h
  refine WO_call0 (us := [none, none, none]) (d := 8) (p := True) (j := 2) rfl ⟨by kernel_rfl, by kernel_rfl, by kernel_rfl⟩ trivial (ref_Within_ok h2) (by kernel_rfl) ?_
  refine WO_run (j := 3) (k := 1) (orcs := []) (kF := [0, 1, 2, 9]) (kL := []) (fr' := [(0, aI a0), (1, aD (.slice .bool) a1), (2, aI a2), (9, aB (!r1))]) (L' := []) (obs := []) rfl (by kernel_rfl) allP0 ?_
  refine WO_fin [0, 1, 2, 9] [] (fr' := [(0, aI a0), (1, aD (.slice .bool) a1), (2, aI a2), (9, aB (!r1))]) (L' := []) (by kernel_rfl) (by kernel_rfl) ?_
  refine seqQ_norm ?_
  refine W_cond (o := .tmp 9) (b := !r1) (by kernel_rfl) (by kernel_rfl) (fun h3 => ?_) (fun h3 => ?_)
  · replace h := ofT h3 h
    refine W_seq (by kernel_rfl) ?_
    refine W_run 1 [] [6] [] (fr' := [(6, aI (1 : Int))]) (L' := []) (obs := []) (by kernel_rfl) (by kernel_rfl) (by kernel_rfl) allP0 ?_
    refine seqQ_norm ?_
    obtain rfl := Option.some.inj h
    refine W_ret [6] [] (fr' := [(6, aI (1 : Int))]) (L' := []) (by kernel_rfl) (by kernel_rfl) ?_
    refine seqQ_ret ?_
    exact retQ_mk (by kernel_rfl) (by kernel_rfl) (by kernel_rfl)
  · replace h := ofF h3 h
    refine W_skip [0, 1, 2] [] (fr' := [(0, aI a0), (1, aD (.slice .bool) a1), (2, aI a2)]) (L' := []) (by kernel_rfl) (by kernel_rfl) ?_
    refine seqQ_norm ?_
    refine W_seq (by kernel_rfl) ?_
    refine W_seq (by kernel_rfl) ?_
    obtain ⟨_, h4, h⟩ := bind_of h
    replace h4 := ck_some h4
    refine W_run 6 [] [1, 2, 15] [] (fr' := [(1, aD (.slice .bool) a1), (2, aI a2), (15, aB ((List.length a1 : Int) != (bShl .i64 (1 : Int) (IntKind.wrap .u64 (a0)))))]) (L' := []) (obs := [(0 ≤ IntKind.wrap .u64 (a0))]) (by kernel_rfl) (by kernel_rfl) (by kernel_rfl) (allP1 h4) ?_
    refine seqQ_norm ?_
    refine W_cond (o := .tmp 15) (b := (List.length a1 : Int) != (bShl .i64 (1 : Int) (IntKind.wrap .u64 (a0)))) (by kernel_rfl) (by kernel_rfl) (fun h5 => ?_) (fun h5 => ?_)
    · replace h := ofT h5 h
      refine W_seq (by kernel_rfl) ?_
      refine W_run 1 [] [6] [] (fr' := [(6, aI (3 : Int))]) (L' := []) (obs := []) (by kernel_rfl) (by kernel_rfl) (by kernel_rfl) allP0 ?_
      refine seqQ_norm ?_
      obtain rfl := Option.some.inj h
      refine W_ret [6] [] (fr' := [(6, aI (3 : Int))]) (L' := []) (by kernel_rfl) (by kernel_rfl) ?_
      refine seqQ_ret ?_
      exact retQ_mk (by kernel_rfl) (by kernel_rfl) (by kernel_rfl)
    · replace h := ofF h5 h
      refine W_skip [1, 2] [] (fr' := [(1, aD (.slice .bool) a1), (2, aI a2)]) (L' := []) (by kernel_rfl) (by kernel_rfl) ?_
      refine seqQ_norm ?_
      refine W_seq (by kernel_rfl) ?_
      refine W_seq (by kernel_rfl) ?_
      refine W_region (by kernel_rfl) ?_
      refine WO_run (j := 4) (k := 4) (orcs := []) (kF := [17, 19]) (kL := [19]) (fr' := [(17, aI (List.length a1 : Int)), (19, .one (.slc 19))]) (L' := [(19, .seq tI [a2])]) (obs := []) rfl (by kernel_rfl) allP0 ?_
      obtain ⟨r6, h7, h⟩ := bind_of h
      refine WO_frz 19 (by kernel_rfl) ?_
      refine WO_call0 (us := [none, none]) (d := 20) (p := True) (j := 5) rfl ⟨by kernel_rfl, by kernel_rfl, by kernel_rfl⟩ trivial (ref_Inside_ok h7) (by kernel_rfl) ?_
      refine WO_run (j := 6) (k := 1) (orcs := []) (kF := [21]) (kL := []) (fr' := [(21, aB (!r6))]) (L' := []) (obs := []) rfl (by kernel_rfl) allP0 ?_
      refine WO_fin [21] [] (fr' := [(21, aB (!r6))]) (L' := []) (by kernel_rfl) (by kernel_rfl) ?_
      refine seqQ_norm ?_
      refine W_cond (o := .tmp 21) (b := !r6) (by kernel_rfl) (by kernel_rfl) (fun h8 => ?_) (fun h8 => ?_)
      · replace h := ofT h8 h
        refine W_seq (by kernel_rfl) ?_
        refine W_run 1 [] [6] [] (fr' := [(6, aI (4 : Int))]) (L' := []) (obs := []) (by kernel_rfl) (by kernel_rfl) (by kernel_rfl) allP0 ?_
        refine seqQ_norm ?_
        obtain rfl := Option.some.inj h
        refine W_ret [6] [] (fr' := [(6, aI (4 : Int))]) (L' := []) (by kernel_rfl) (by kernel_rfl) ?_
        refine seqQ_ret ?_
        exact retQ_mk (by kernel_rfl) (by kernel_rfl) (by kernel_rfl)
      · replace h := ofF h8 h
        refine W_skip [] [] (fr' := []) (L' := []) (by kernel_rfl) (by kernel_rfl) ?_
        refine seqQ_norm ?_
        refine W_seq (by kernel_rfl) ?_
        refine W_run 1 [] [6] [] (fr' := [(6, aI (0 : Int))]) (L' := []) (obs := []) (by kernel_rfl) (by kernel_rfl) (by kernel_rfl) allP0 ?_
        refine seqQ_norm ?_
        obtain rfl := Option.some.inj h
        refine W_ret [6] [] (fr' := [(6, aI (0 : Int))]) (L' := []) (by kernel_rfl) (by kernel_rfl) ?_
        exact retQ_mk (by kernel_rfl) (by kernel_rfl) (by kernel_rfl)

def ref_Bit (a0 : Int) (a1 : Int) : Option Bool :=
bif (decide (a1 ≥ (0 : Int))) && (decide (a1 < (63 : Int))) then
((ck (0 ≤ IntKind.wrap .u64 (a1))).bind fun _ =>
some ((bAnd .i64 a0 (bShl .i64 (1 : Int) (IntKind.wrap .u64 (a1)))) != (0 : Int)))
else
(some false)
theorem ref_Bit_ok {a0 : Int} {a1 : Int} {r : Bool} (h : ref_Bit a0 a1 = some r) : FnC Try.prog 36 [aI a0, aI a1] [] (aB r) [] := by
  refine fnC_of_W (B := bodyOf Try.f36) (n := 19) Try.func36 (by kernel_rfl) (by kernel_rfl) (by kernel_rfl) (by kernel_rfl) (by kernel_rfl) ?_
  intro K
  refine W_seq (by kernel_rfl) ?_
  refine W_run 1 [] [0, 1] [] (fr' := [(0, aI a0), (1, aI a1)]) (L' := []) (obs := []) (by kernel_rfl) (by kernel_rfl) (by kernel_rfl) allP0 ?_
  refine seqQ_norm ?_
  refine W_seq (by kernel_rfl) ?_
  refine W_region (by kernel_rfl) ?_
  refine WO_run (j := 7) (k := 7) (orcs := []) (kF := [0, 1, 11]) (kL := []) (fr' := [(0, aI a0), (1, aI a1), (11, aB ((decide (a1 ≥ (0 : Int))) && (decide (a1 < (63 : Int)))))]) (L' := []) (obs := []) rfl (by kernel_rfl) allP0 ?_
  rcases Bool.eq_false_or_eq_true ((decide (a1 ≥ (0 : Int))) && (decide (a1 < (63 : Int)))) with h1 | h1
  · replace h := ofT h1 h
    obtain ⟨_, h2, h⟩ := bind_of h
    replace h2 := ck_some h2
    refine WO_run (j := 15) (k := 8) (orcs := [(14, .known true), (16, .known true), (18, .known true), (20, .known true), (22, .known true), (24, .known true), (27, .val (.dat .bool true))]) (kF := [4]) (kL := []) (fr' := [(4, aB ((bAnd .i64 a0 (bShl .i64 (1 : Int) (IntKind.wrap .u64 (a1)))) != (0 : Int)))]) (L' := []) (obs := [(((decide (a1 ≥ (0 : Int))) && (decide (a1 < (63 : Int)))) = true), (((decide (a1 ≥ (0 : Int))) && (decide (a1 < (63 : Int)))) = true), (((decide (a1 ≥ (0 : Int))) && (decide (a1 < (63 : Int)))) = true), (((decide (a1 ≥ (0 : Int))) && (decide (a1 < (63 : Int)))) = true), (0 ≤ IntKind.wrap .u64 (a1)), (((decide (a1 ≥ (0 : Int))) && (decide (a1 < (63 : Int)))) = true), (((decide (a1 ≥ (0 : Int))) && (decide (a1 < (63 : Int)))) = true), (((decide (a1 ≥ (0 : Int))) && (decide (a1 < (63 : Int)))) = true)]) rfl (by kernel_rfl) (allP2 h1 (allP2 h1 (allP2 h1 (allP2 h1 (allP2 h2 (allP2 h1 (allP2 h1 (allP1 h1)))))))) ?_
    refine WO_fin [4] [] (fr' := [(4, aB ((bAnd .i64 a0 (bShl .i64 (1 : Int) (IntKind.wrap .u64 (a1)))) != (0 : Int)))]) (L' := []) (by kernel_rfl) (by kernel_rfl) ?_
    refine seqQ_norm ?_
    obtain rfl := Option.some.inj h
    refine W_ret [4] [] (fr' := [(4, aB ((bAnd .i64 a0 (bShl .i64 (1 : Int) (IntKind.wrap .u64 (a1)))) != (0 : Int)))]) (L' := []) (by kernel_rfl) (by kernel_rfl) ?_
    exact retQ_mk (by kernel_rfl) (by kernel_rfl) (by kernel_rfl)
  · replace h := ofF h1 h
    refine WO_run (j := 15) (k := 8) (orcs := [(14, .known false), (16, .known false), (18, .known false), (20, .known false), (22, .known false), (24, .known false), (27, .val (.dat .bool false))]) (kF := [4]) (kL := []) (fr' := [(4, aB false)]) (L' := []) (obs := [(((decide (a1 ≥ (0 : Int))) && (decide (a1 < (63 : Int)))) = false), (((decide (a1 ≥ (0 : Int))) && (decide (a1 < (63 : Int)))) = false), (((decide (a1 ≥ (0 : Int))) && (decide (a1 < (63 : Int)))) = false), (((decide (a1 ≥ (0 : Int))) && (decide (a1 < (63 : Int)))) = false), (((decide (a1 ≥ (0 : Int))) && (decide (a1 < (63 : Int)))) = false), (((decide (a1 ≥ (0 : Int))) && (decide (a1 < (63 : Int)))) = false), (((decide (a1 ≥ (0 : Int))) && (decide (a1 < (63 : Int)))) = false)]) rfl (by kernel_rfl) (allP2 h1 (allP2 h1 (allP2 h1 (allP2 h1 (allP2 h1 (allP2 h1 (allP1 h1))))))) ?_
    refine WO_fin [4] [] (fr' := [(4, aB false)]) (L' := []) (by kernel_rfl) (by kernel_rfl) ?_
    refine seqQ_norm ?_
    obtain rfl := Option.some.inj h
    refine W_ret [4] [] (fr' := [(4, aB false)]) (L' := []) (by kernel_rfl) (by kernel_rfl) ?_
    exact retQ_mk (by kernel_rfl) (by kernel_rfl) (by kernel_rfl)

@[reducible] def ref_Size_s3 (a0 : Int) (i27 : Int) (v : Int) : Fr × LL := ([(0, aI a0), (3, aI v), (4, aI i27)], [])
def ref_Size_b4 (a0 : Int) (i27 : Int) (x28 : Int) : Option (Flow Int Int) :=
((ref_Bit a0 i27).bind fun r37 =>
bif r37 then
(some (w64 (x28 + (1 : Int))))
else
(some x28)).bind fun v40 =>
some (.next v40)
@[reducible] def ref_Size_s5 (a0 : Int) (v : Int × Int) : Fr × LL := ([(0, aI a0), (3, aI v.2), (4, aI v.1)], [])
@[reducible] def ref_Size_s6 (v : Int) : Fr × LL := ([(3, aI v)], [])
def ref_Size (a0 : Int) : Option Int :=
(forI (0 : Int) (63 : Int) (ref_Size_b4 a0) (fun x28 => x28) (0 : Int)).bind fun v43 =>
some v43
theorem ref_Size_ok {a0 : Int} {r : Int} (h : ref_Size a0 = some r) : FnC Try.prog 19 [aI a0] [] (aI r) [] := by
  refine fnC_of_W (B := bodyOf Try.f19) (n := 15) Try.func19 (by kernel_rfl) (by kernel_rfl) (by kernel_rfl) (by kernel_rfl) (by kernel_rfl) ?_
  intro K
  refine W_seq (by kernel_rfl) ?_
  refine W_run 1 [] [0] [] (fr' := [(0, aI a0)]) (L' := []) (obs := []) (by kernel_rfl) (by kernel_rfl) (by kernel_rfl) allP0 ?_
  refine seqQ_norm ?_
  refine W_seq (by kernel_rfl) ?_
  refine W_run 1 [] [0, 3] [] (fr' := [(0, aI a0), (3, aI (0 : Int))]) (L' := []) (obs := []) (by kernel_rfl) (by kernel_rfl) (by kernel_rfl) allP0 ?_
  refine seqQ_norm ?_
  refine W_seq (by kernel_rfl) ?_
  refine W_seq (by kernel_rfl) ?_
  refine W_run 1 [] [0, 3, 4] [] (fr' := [(0, aI a0), (3, aI (0 : Int)), (4, aI (0 : Int))]) (L' := []) (obs := []) (by kernel_rfl) (by kernel_rfl) (by kernel_rfl) allP0 ?_
  refine seqQ_norm ?_
  refine W_block (id := 0) (by kernel_rfl) ?_
  obtain ⟨v43, h44, h⟩ := bind_of h
  obtain ⟨h45, h46⟩ := forI_iter h44
  refine W_weaken [0, 3, 4] [] (fr' := ((ref_Size_s5 a0) ((0 : Int), (0 : Int))).1) (L' := ((ref_Size_s5 a0) ((0 : Int), (0 : Int))).2) (by kernel_rfl) ?_
  refine W_cutK (W_loop (S := (ref_Size_s5 a0)) (J := (exQ (.exit 0) ref_Size_s6)) (by kernel_rfl) ?_ h45 _ v43 h46) ?_
  · rintro ⟨i27, x28⟩ s h
    refine W_seq (by kernel_rfl) ?_
    refine W_seq (by kernel_rfl) ?_
    refine W_run 2 [] [0, 3, 4, 6] [] (fr' := [(0, aI a0), (3, aI x28), (4, aI i27), (6, aB (decide (i27 < (63 : Int))))]) (L' := []) (obs := []) (by kernel_rfl) (by kernel_rfl) (by kernel_rfl) allP0 ?_
    refine seqQ_norm ?_
    refine W_cond (o := .tmp 6) (b := decide (i27 < (63 : Int))) (by kernel_rfl) (by kernel_rfl) (fun h30 => ?_) (fun h30 => ?_)
    · replace h := stepI_true h30 h
      obtain ⟨_, h, rfl⟩ := h
      refine W_skip [0, 3, 4] [] (fr' := [(0, aI a0), (3, aI x28), (4, aI i27)]) (L' := []) (by kernel_rfl) (by kernel_rfl) ?_
      refine seqQ_norm ?_
      refine W_seq (by kernel_rfl) ?_
      obtain ⟨v40, h41, h⟩ := bind_of h
      refine W_cutK (Q' := (exQ .normal (ref_Size_s3 a0 i27)) v40) ?_ ?_
      · replace h := h41
        refine W_block (id := 1) (by kernel_rfl) ?_
        refine W_seq (by kernel_rfl) ?_
        refine W_region (by kernel_rfl) ?_
        refine WO_run (j := 2) (k := 2) (orcs := []) (kF := [0, 3, 4, 9, 10]) (kL := []) (fr' := [(0, aI a0), (3, aI x28), (4, aI i27), (9, aI a0), (10, aI i27)]) (L' := []) (obs := []) rfl (by kernel_rfl) allP0 ?_
        obtain ⟨r37, h38, h⟩ := bind_of h
        refine WO_call0 (us := [none, none]) (d := 11) (p := True) (j := 3) rfl ⟨by kernel_rfl, by kernel_rfl, by kernel_rfl⟩ trivial (ref_Bit_ok h38) (by kernel_rfl) ?_
        refine WO_fin [0, 3, 4, 11] [] (fr' := [(0, aI a0), (3, aI x28), (4, aI i27), (11, aB r37)]) (L' := []) (by kernel_rfl) (by kernel_rfl) ?_
        refine seqQ_norm ?_
        refine W_cond (o := .tmp 11) (b := r37) (by kernel_rfl) (by kernel_rfl) (fun h39 => ?_) (fun h39 => ?_)
        · replace h := ofT h39 h
          obtain rfl := Option.some.inj h
          refine W_run 3 [] [0, 3, 4] [] (fr' := [(0, aI a0), (3, aI (w64 (x28 + (1 : Int)))), (4, aI i27)]) (L' := []) (obs := []) (by kernel_rfl) (by kernel_rfl) (by kernel_rfl) allP0 ?_
          refine blockQ_norm ?_
          exact exQ_mk (by kernel_rfl) (by kernel_rfl)
        · replace h := ofF h39 h
          obtain rfl := Option.some.inj h
          refine W_skip [0, 3, 4] [] (fr' := [(0, aI a0), (3, aI x28), (4, aI i27)]) (L' := []) (by kernel_rfl) (by kernel_rfl) ?_
          refine blockQ_norm ?_
          exact exQ_mk (by kernel_rfl) (by kernel_rfl)
      · intro e fr L hJ
        obtain ⟨rfl, rfl, rfl⟩ := hJ
        refine LT_keep [0, 3, 4] [] (fr' := [(0, aI a0), (3, aI v40), (4, aI i27)]) (L' := []) (by kernel_rfl) ?_
        refine seqQ_norm ?_
        obtain rfl := Option.some.inj h
        refine W_run 3 [] [0, 3, 4] [] (fr' := [(0, aI a0), (3, aI v40), (4, aI (w64 (i27 + (1 : Int))))]) (L' := []) (obs := []) (by kernel_rfl) (by kernel_rfl) (by kernel_rfl) allP0 ?_
        exact round_next' (by kernel_rfl) (by kernel_rfl)
    · obtain rfl := stepI_false h30 h
      refine W_exit (id := 0) [3] [] (fr' := [(3, aI x28)]) (L' := []) (by kernel_rfl) (by kernel_rfl) ?_
      refine seqQ_exit ?_
      refine round_exit ?_
      exact exQ_mk (by kernel_rfl) (by kernel_rfl)
  · intro e fr L hJ
    obtain ⟨rfl, rfl, rfl⟩ := hJ
    refine LT_keep [3] [] (fr' := [(3, aI v43)]) (L' := []) (by kernel_rfl) ?_
    refine blockQ_hit ?_
    refine seqQ_norm ?_
    refine W_seq (by kernel_rfl) ?_
    refine W_run 2 [] [2] [] (fr' := [(2, aI v43)]) (L' := []) (obs := []) (by kernel_rfl) (by kernel_rfl) (by kernel_rfl) allP0 ?_
    refine seqQ_norm ?_
    obtain rfl := Option.some.inj h
    refine W_ret [2] [] (fr' := [(2, aI v43)]) (L' := []) (by kernel_rfl) (by kernel_rfl) ?_
    exact retQ_mk (by kernel_rfl) (by kernel_rfl) (by kernel_rfl)

def ref_Odd (a0 : Int) (a1 : Int) : Option Bool :=
(ref_Size (bAnd .i64 a0 a1)).bind fun r1 =>
some ((Int.tmod r1 (2 : Int)) == (1 : Int))
theorem ref_Odd_ok {a0 : Int} {a1 : Int} {r : Bool} (h : ref_Odd a0 a1 = some r) : FnC Try.prog 32 [aI a0, aI a1] [] (aB r) [] := by
  refine fnC_of_W (B := bodyOf Try.f32) (n := 11) Try.func32 (by kernel_rfl) (by kernel_rfl) (by kernel_rfl) (by kernel_rfl) (by kernel_rfl) ?_
  intro K
  refine W_seq (by kernel_rfl) ?_
  refine W_run 1 [] [0, 1] [] (fr' := [(0, aI a0), (1, aI a1)]) (L' := []) (obs := []) (by kernel_rfl) (by kernel_rfl) (by kernel_rfl) allP0 ?_
  refine seqQ_norm ?_
  refine W_seq (by kernel_rfl) ?_
  refine W_region (by kernel_rfl) ?_
  refine WO_run (j := 3) (k := 3) (orcs := []) (kF := [7]) (kL := []) (fr' := [(7, aI (bAnd .i64 a0 a1))]) (L' := []) (obs := []) rfl (by kernel_rfl) allP0 ?_
  obtain ⟨r1, h2, h⟩ := bind_of h
  refine WO_call0 (us := [none]) (d := 8) (p := True) (j := 4) rfl ⟨by kernel_rfl, by kernel_rfl, by kernel_rfl⟩ trivial (ref_Size_ok h2) (by kernel_rfl) ?_
  refine WO_run (j := 7) (k := 3) (orcs := []) (kF := [4]) (kL := []) (fr' := [(4, aB ((Int.tmod r1 (2 : Int)) == (1 : Int)))]) (L' := []) (obs := [((2 : Int) ≠ 0)]) rfl (by kernel_rfl) (allP1 (by decide)) ?_
  refine WO_fin [4] [] (fr' := [(4, aB ((Int.tmod r1 (2 : Int)) == (1 : Int)))]) (L' := []) (by kernel_rfl) (by kernel_rfl) ?_
  refine seqQ_norm ?_
  obtain rfl := Option.some.inj h
  refine W_ret [4] [] (fr' := [(4, aB ((Int.tmod r1 (2 : Int)) == (1 : Int)))]) (L' := []) (by kernel_rfl) (by kernel_rfl) ?_
  exact retQ_mk (by kernel_rfl) (by kernel_rfl) (by kernel_rfl)

@[reducible] def law_GuessAparts_s75 (a1 : (List Bool)) (r1 : (Int × Int × Int)) (i576 : Int) (x577 : (Int × Int)) (i744 : Int) (v : Int) : Fr × LL := ([(1, aD (.slice .bool) a1), (5, aI r1.1), (6, aI r1.2.1), (7, aI r1.2.2), (9, aI x577.1), (10, aI x577.2), (11, aI i576), (12, aI v), (13, aI i744)], [])
def law_GuessAparts_b76 (i576 : Int) (i744 : Int) (v747 : Bool) (x745 : Int) : Option (Flow Int Int) :=
((ref_Odd i576 i744).bind fun r756 =>
bif !(v747 == r756) then
(some (w64 (x745 + (1 : Int))))
else
(some x745)).bind fun v759 =>
some (.next v759)
@[reducible] def law_GuessAparts_s77 (a1 : (List Bool)) (r1 : (Int × Int × Int)) (i576 : Int) (x577 : (Int × Int)) (v : Int × Int) : Fr × LL := ([(1, aD (.slice .bool) a1), (5, aI r1.1), (6, aI r1.2.1), (7, aI r1.2.2), (9, aI x577.1), (10, aI x577.2), (11, aI i576), (12, aI v.2), (13, aI v.1)], [])
@[reducible] def law_GuessAparts_s78 (a1 : (List Bool)) (r1 : (Int × Int × Int)) (i576 : Int) (x577 : (Int × Int)) (v : Int) : Fr × LL := ([(1, aD (.slice .bool) a1), (5, aI r1.1), (6, aI r1.2.1), (7, aI r1.2.2), (9, aI x577.1), (10, aI x577.2), (11, aI i576), (12, aI v)], [])
def law_GuessAparts_g79 (a1 : (List Bool)) (i576 : Int) (x577 : (Int × Int)) : Option (Int × Int) :=
(forL (law_GuessAparts_b76 i576) (fun x745 => x745) a1 0 (0 : Int)).bind fun v762 =>
bif decide (v762 < x577.1) then
(some (v762, i576))
else
(some (x577.1, x577.2))
@[reducible] def law_GuessAparts_s80 (a1 : (List Bool)) (r1 : (Int × Int × Int)) (i576 : Int) (v : (Int × Int)) : Fr × LL := ([(1, aD (.slice .bool) a1), (5, aI r1.1), (6, aI r1.2.1), (7, aI r1.2.2), (9, aI v.1), (10, aI v.2), (11, aI i576)], [])
def law_GuessAparts_b81 (a1 : (List Bool)) (i576 : Int) (v579 : Bool) (x577 : (Int × Int)) : Option (Flow (Int × Int) (Int × Int)) :=
(law_GuessAparts_g79 a1 i576 x577).bind fun v768 =>
some (.next (v768.1, v768.2))
@[reducible] def law_GuessAparts_s82 (a1 : (List Bool)) (r1 : (Int × Int × Int)) (v : Int × (Int × Int)) : Fr × LL := ([(1, aD (.slice .bool) a1), (5, aI r1.1), (6, aI r1.2.1), (7, aI r1.2.2), (9, aI v.2.1), (10, aI v.2.2), (11, aI v.1)], [])
@[reducible] def law_GuessAparts_s83 (r1 : (Int × Int × Int)) (v : (Int × Int)) : Fr × LL := ([(5, aI r1.1), (6, aI r1.2.1), (7, aI r1.2.2), (9, aI v.1), (10, aI v.2)], [])
def law_GuessAparts (a0 : Int) (a1 : (List Bool)) : Option Bool :=
(guess_Apart a0 a1).bind fun r1 =>
(ref_TableCheck a0 a1 (0 : Int)).bind fun r3 =>
bif r3 != (0 : Int) then
(some (((r1.2.2 == r3) && (r1.1 == (0 : Int))) && (r1.2.1 == (0 : Int))))
else
((forL (law_GuessAparts_b81 a1) (fun x577 => (x577.1, x577.2)) a1 0 (w64 ((List.length a1 : Int) + (1 : Int)), (0 : Int))).bind fun v771 =>
some (((r1.2.2 == (0 : Int)) && (r1.1 == v771.1)) && (r1.2.1 == v771.2)))
theorem law_GuessAparts_ok {a0 : Int} {a1 : (List Bool)} {r : Bool} (h : law_GuessAparts a0 a1 = some r) : FnC Try.prog 12 [aI a0, aD (.slice .bool) a1] [] (aB r) [] := by
  refine fnC_of_W (B := bodyOf Try.f12) (n := 79) Try.func12 (by kernel_rfl) (by kernel_rfl) (by kernel_rfl) (by kernel_rfl) (by kernel_rfl) ?_
  intro K
  refine W_seq (by kernel_rfl) ?_
  refine W_run 1 [] [0, 1] [] (fr' := [(0, aI a0), (1, aD (.slice .bool) a1)]) (L' := []) (obs := []) (by kernel_rfl) (by kernel_rfl) (by kernel_rfl) allP0 ?_
  refine seqQ_norm ?_
  refine W_seq (by kernel_rfl) ?_
  refine W_region (by kernel_rfl) ?_
  refine WO_run (j := 2) (k := 2) (orcs := []) (kF := [0, 1, 15, 16]) (kL := []) (fr' := [(0, aI a0), (1, aD (.slice .bool) a1), (15, aI a0), (16, aD (.slice .bool) a1)]) (L' := []) (obs := []) rfl (by kernel_rfl) allP0 ?_
  obtain ⟨r1, h2, h⟩ := bind_of h
  refine WO_call0 (us := [none, none]) (d := 17) (p := True) (j := 3) rfl ⟨by kernel_rfl, by kernel_rfl, by kernel_rfl⟩ trivial (guess_Apart_ok h2) (by kernel_rfl) ?_
  refine WO_run (j := 10) (k := 7) (orcs := []) (kF := [0, 1, 5, 6, 7]) (kL := []) (fr' := [(0, aI a0), (1, aD (.slice .bool) a1), (5, aI r1.1), (6, aI r1.2.1), (7, aI r1.2.2)]) (L' := []) (obs := []) rfl (by kernel_rfl) allP0 ?_
  refine WO_fin [0, 1, 5, 6, 7] [] (fr' := [(0, aI a0), (1, aD (.slice .bool) a1), (5, aI r1.1), (6, aI r1.2.1), (7, aI r1.2.2)]) (L' := []) (by kernel_rfl) (by kernel_rfl) ?_
  refine seqQ_norm ?_
  refine W_seq (by kernel_rfl) ?_
  refine W_region (by kernel_rfl) ?_
  refine WO_run (j := 2) (k := 2) (orcs := []) (kF := [1, 5, 6, 7, 21, 22]) (kL := []) (fr' := [(1, aD (.slice .bool) a1), (5, aI r1.1), (6, aI r1.2.1), (7, aI r1.2.2), (21, aI a0), (22, aD (.slice .bool) a1)]) (L' := []) (obs := []) rfl (by kernel_rfl) allP0 ?_
  obtain ⟨r3, h4, h⟩ := bind_of h
  refine WO_call0 (us := [none, none, none]) (d := 23) (p := True) (j := 3) rfl ⟨by kernel_rfl, by kernel_rfl, by kernel_rfl⟩ trivial (ref_TableCheck_ok h4) (by kernel_rfl) ?_
  refine WO_run (j := 4) (k := 1) (orcs := []) (kF := [1, 5, 6, 7, 8]) (kL := []) (fr' := [(1, aD (.slice .bool) a1), (5, aI r1.1), (6, aI r1.2.1), (7, aI r1.2.2), (8, aI r3)]) (L' := []) (obs := []) rfl (by kernel_rfl) allP0 ?_
  refine WO_fin [1, 5, 6, 7, 8] [] (fr' := [(1, aD (.slice .bool) a1), (5, aI r1.1), (6, aI r1.2.1), (7, aI r1.2.2), (8, aI r3)]) (L' := []) (by kernel_rfl) (by kernel_rfl) ?_
  refine seqQ_norm ?_
  refine W_seq (by kernel_rfl) ?_
  refine W_seq (by kernel_rfl) ?_
  refine W_run 2 [] [1, 5, 6, 7, 8, 25] [] (fr' := [(1, aD (.slice .bool) a1), (5, aI r1.1), (6, aI r1.2.1), (7, aI r1.2.2), (8, aI r3), (25, aB (r3 != (0 : Int)))]) (L' := []) (obs := []) (by kernel_rfl) (by kernel_rfl) (by kernel_rfl) allP0 ?_
  refine seqQ_norm ?_
  refine W_cond (o := .tmp 25) (b := r3 != (0 : Int)) (by kernel_rfl) (by kernel_rfl) (fun h5 => ?_) (fun h5 => ?_)
  · replace h := ofT h5 h
    refine W_seq (by kernel_rfl) ?_
    refine W_run 12 [] [4] [] (fr' := [(4, aB (((r1.2.2 == r3) && (r1.1 == (0 : Int))) && (r1.2.1 == (0 : Int))))]) (L' := []) (obs := []) (by kernel_rfl) (by kernel_rfl) (by kernel_rfl) allP0 ?_
    refine seqQ_norm ?_
    obtain rfl := Option.some.inj h
    refine W_ret [4] [] (fr' := [(4, aB (((r1.2.2 == r3) && (r1.1 == (0 : Int))) && (r1.2.1 == (0 : Int))))]) (L' := []) (by kernel_rfl) (by kernel_rfl) ?_
    refine seqQ_ret ?_
    exact retQ_mk (by kernel_rfl) (by kernel_rfl) (by kernel_rfl)
  · replace h := ofF h5 h
    refine W_skip [1, 5, 6, 7] [] (fr' := [(1, aD (.slice .bool) a1), (5, aI r1.1), (6, aI r1.2.1), (7, aI r1.2.2)]) (L' := []) (by kernel_rfl) (by kernel_rfl) ?_
    refine seqQ_norm ?_
    refine W_seq (by kernel_rfl) ?_
    refine W_run 4 [] [1, 5, 6, 7, 9] [] (fr' := [(1, aD (.slice .bool) a1), (5, aI r1.1), (6, aI r1.2.1), (7, aI r1.2.2), (9, aI (w64 ((List.length a1 : Int) + (1 : Int))))]) (L' := []) (obs := []) (by kernel_rfl) (by kernel_rfl) (by kernel_rfl) allP0 ?_
    refine seqQ_norm ?_
    refine W_seq (by kernel_rfl) ?_
    refine W_run 1 [] [1, 5, 6, 7, 9, 10] [] (fr' := [(1, aD (.slice .bool) a1), (5, aI r1.1), (6, aI r1.2.1), (7, aI r1.2.2), (9, aI (w64 ((List.length a1 : Int) + (1 : Int)))), (10, aI (0 : Int))]) (L' := []) (obs := []) (by kernel_rfl) (by kernel_rfl) (by kernel_rfl) allP0 ?_
    refine seqQ_norm ?_
    refine W_seq (by kernel_rfl) ?_
    refine W_seq (by kernel_rfl) ?_
    refine W_run 1 [] [1, 5, 6, 7, 9, 10, 11] [] (fr' := [(1, aD (.slice .bool) a1), (5, aI r1.1), (6, aI r1.2.1), (7, aI r1.2.2), (9, aI (w64 ((List.length a1 : Int) + (1 : Int)))), (10, aI (0 : Int)), (11, aI (0 : Int))]) (L' := []) (obs := []) (by kernel_rfl) (by kernel_rfl) (by kernel_rfl) allP0 ?_
    refine seqQ_norm ?_
    refine W_block (id := 0) (by kernel_rfl) ?_
    obtain ⟨v771, h772, h⟩ := bind_of h
    refine W_len (t := 1) (u := .bool) (xs := a1) (by kernel_rfl) (fun h775 => ?_)
    obtain ⟨h773, h774⟩ := forL_iter h775 h772
    refine W_weaken [1, 5, 6, 7, 9, 10, 11] [] (fr' := ((law_GuessAparts_s82 a1 r1) ((0 : Int), (w64 ((List.length a1 : Int) + (1 : Int)), (0 : Int)))).1) (L' := ((law_GuessAparts_s82 a1 r1) ((0 : Int), (w64 ((List.length a1 : Int) + (1 : Int)), (0 : Int)))).2) (by kernel_rfl) ?_
    refine W_cutK (W_loop (S := (law_GuessAparts_s82 a1 r1)) (J := (exQ (.exit 0) (law_GuessAparts_s83 r1))) (by kernel_rfl) ?_ h773 _ v771 h774) ?_
    · rintro ⟨i576, x577⟩ s h
      refine W_seq (by kernel_rfl) ?_
      refine W_seq (by kernel_rfl) ?_
      refine W_run 4 [] [1, 5, 6, 7, 9, 10, 11, 43] [] (fr' := [(1, aD (.slice .bool) a1), (5, aI r1.1), (6, aI r1.2.1), (7, aI r1.2.2), (9, aI x577.1), (10, aI x577.2), (11, aI i576), (43, aB (decide (i576 < (List.length a1 : Int))))]) (L' := []) (obs := []) (by kernel_rfl) (by kernel_rfl) (by kernel_rfl) allP0 ?_
      refine seqQ_norm ?_
      refine W_cond (o := .tmp 43) (b := decide (i576 < (List.length a1 : Int))) (by kernel_rfl) (by kernel_rfl) (fun h581 => ?_) (fun h581 => ?_)
      · replace h := stepL_true h581 h
        obtain ⟨v579, _, h580, h, rfl⟩ := h
        refine W_skip [1, 5, 6, 7, 9, 10, 11] [] (fr' := [(1, aD (.slice .bool) a1), (5, aI r1.1), (6, aI r1.2.1), (7, aI r1.2.2), (9, aI x577.1), (10, aI x577.2), (11, aI i576)]) (L' := []) (by kernel_rfl) (by kernel_rfl) ?_
        refine seqQ_norm ?_
        refine W_seq (by kernel_rfl) ?_
        obtain ⟨v768, h769, h⟩ := bind_of h
        refine W_cutK (Q' := (exQ .normal (law_GuessAparts_s80 a1 r1 i576)) v768) ?_ ?_
        · replace h := h769
          refine W_block (id := 1) (by kernel_rfl) ?_
          refine W_seq (by kernel_rfl) ?_
          refine W_run 1 [] [1, 5, 6, 7, 9, 10, 11, 12] [] (fr' := [(1, aD (.slice .bool) a1), (5, aI r1.1), (6, aI r1.2.1), (7, aI r1.2.2), (9, aI x577.1), (10, aI x577.2), (11, aI i576), (12, aI (0 : Int))]) (L' := []) (obs := []) (by kernel_rfl) (by kernel_rfl) (by kernel_rfl) allP0 ?_
          refine seqQ_norm ?_
          refine W_seq (by kernel_rfl) ?_
          refine W_seq (by kernel_rfl) ?_
          refine W_run 1 [] [1, 5, 6, 7, 9, 10, 11, 12, 13] [] (fr' := [(1, aD (.slice .bool) a1), (5, aI r1.1), (6, aI r1.2.1), (7, aI r1.2.2), (9, aI x577.1), (10, aI x577.2), (11, aI i576), (12, aI (0 : Int)), (13, aI (0 : Int))]) (L' := []) (obs := []) (by kernel_rfl) (by kernel_rfl) (by kernel_rfl) allP0 ?_
          refine seqQ_norm ?_
          refine W_block (id := 2) (by kernel_rfl) ?_
          obtain ⟨v762, h763, h⟩ := bind_of h
          refine W_len (t := 1) (u := .bool) (xs := a1) (by kernel_rfl) (fun h766 => ?_)
          obtain ⟨h764, h765⟩ := forL_iter h766 h763
          refine W_weaken [1, 5, 6, 7, 9, 10, 11, 12, 13] [] (fr' := ((law_GuessAparts_s77 a1 r1 i576 x577) ((0 : Int), (0 : Int))).1) (L' := ((law_GuessAparts_s77 a1 r1 i576 x577) ((0 : Int), (0 : Int))).2) (by kernel_rfl) ?_
          refine W_cutK (W_loop (S := (law_GuessAparts_s77 a1 r1 i576 x577)) (J := (exQ (.exit 2) (law_GuessAparts_s78 a1 r1 i576 x577))) (by kernel_rfl) ?_ h764 _ v762 h765) ?_
          · rintro ⟨i744, x745⟩ s h
            refine W_seq (by kernel_rfl) ?_
            refine W_seq (by kernel_rfl) ?_
            refine W_run 4 [] [1, 5, 6, 7, 9, 10, 11, 12, 13, 49] [] (fr' := [(1, aD (.slice .bool) a1), (5, aI r1.1), (6, aI r1.2.1), (7, aI r1.2.2), (9, aI x577.1), (10, aI x577.2), (11, aI i576), (12, aI x745), (13, aI i744), (49, aB (decide (i744 < (List.length a1 : Int))))]) (L' := []) (obs := []) (by kernel_rfl) (by kernel_rfl) (by kernel_rfl) allP0 ?_
            refine seqQ_norm ?_
            refine W_cond (o := .tmp 49) (b := decide (i744 < (List.length a1 : Int))) (by kernel_rfl) (by kernel_rfl) (fun h749 => ?_) (fun h749 => ?_)
            · replace h := stepL_true h749 h
              obtain ⟨v747, _, h748, h, rfl⟩ := h
              refine W_skip [1, 5, 6, 7, 9, 10, 11, 12, 13] [] (fr' := [(1, aD (.slice .bool) a1), (5, aI r1.1), (6, aI r1.2.1), (7, aI r1.2.2), (9, aI x577.1), (10, aI x577.2), (11, aI i576), (12, aI x745), (13, aI i744)]) (L' := []) (by kernel_rfl) (by kernel_rfl) ?_
              refine seqQ_norm ?_
              refine W_seq (by kernel_rfl) ?_
              obtain ⟨v759, h760, h⟩ := bind_of h
              refine W_cutK (Q' := (exQ .normal (law_GuessAparts_s75 a1 r1 i576 x577 i744)) v759) ?_ ?_
              · replace h := h760
                refine W_block (id := 3) (by kernel_rfl) ?_
                refine W_seq (by kernel_rfl) ?_
                obtain ⟨r756, h757, h⟩ := bind_of h
                refine W_draw2 8 [(5, .val (.dat .bool v747))] [(6, [none, none], aB r756)] [1, 5, 6, 7, 9, 10, 11, 12, 13, 59] [] (fr' := [(1, aD (.slice .bool) a1), (5, aI r1.1), (6, aI r1.2.1), (7, aI r1.2.2), (9, aI x577.1), (10, aI x577.2), (11, aI i576), (12, aI x745), (13, aI i744), (59, aB (!(v747 == r756)))]) (L' := []) (out := [(52, aD (.slice .bool) a1), (53, aI i744), (54, .one (.dptr .bool v747)), (55, aB v747), (56, aI i576), (57, aI i744), (58, aB r756), (59, aB (!(v747 == r756)))]) (obs := [Idx a1 i744 v747, True]) (obs2 := []) (calls := [(32, [aI i576, aI i744], aB r756)]) (by kernel_rfl) (by kernel_rfl) (by kernel_rfl) (by kernel_rfl) (allP2 (Idx.of h748) (allP1 trivial)) (allC1 (by kernel_rfl) (ref_Odd_ok h757) (by kernel_rfl) allC0) (by kernel_rfl) allP0 ?_
                refine seqQ_norm ?_
                refine W_cond (o := .tmp 59) (b := !(v747 == r756)) (by kernel_rfl) (by kernel_rfl) (fun h758 => ?_) (fun h758 => ?_)
                · replace h := ofT h758 h
                  obtain rfl := Option.some.inj h
                  refine W_run 3 [] [1, 5, 6, 7, 9, 10, 11, 12, 13] [] (fr' := [(1, aD (.slice .bool) a1), (5, aI r1.1), (6, aI r1.2.1), (7, aI r1.2.2), (9, aI x577.1), (10, aI x577.2), (11, aI i576), (12, aI (w64 (x745 + (1 : Int)))), (13, aI i744)]) (L' := []) (obs := []) (by kernel_rfl) (by kernel_rfl) (by kernel_rfl) allP0 ?_
                  refine blockQ_norm ?_
                  exact exQ_mk (by kernel_rfl) (by kernel_rfl)
                · replace h := ofF h758 h
                  obtain rfl := Option.some.inj h
                  refine W_skip [1, 5, 6, 7, 9, 10, 11, 12, 13] [] (fr' := [(1, aD (.slice .bool) a1), (5, aI r1.1), (6, aI r1.2.1), (7, aI r1.2.2), (9, aI x577.1), (10, aI x577.2), (11, aI i576), (12, aI x745), (13, aI i744)]) (L' := []) (by kernel_rfl) (by kernel_rfl) ?_
                  refine blockQ_norm ?_
                  exact exQ_mk (by kernel_rfl) (by kernel_rfl)
              · intro e fr L hJ
                obtain ⟨rfl, rfl, rfl⟩ := hJ
                refine LT_keep [1, 5, 6, 7, 9, 10, 11, 12, 13] [] (fr' := [(1, aD (.slice .bool) a1), (5, aI r1.1), (6, aI r1.2.1), (7, aI r1.2.2), (9, aI x577.1), (10, aI x577.2), (11, aI i576), (12, aI v759), (13, aI i744)]) (L' := []) (by kernel_rfl) ?_
                refine seqQ_norm ?_
                obtain rfl := Option.some.inj h
                refine W_run 3 [] [1, 5, 6, 7, 9, 10, 11, 12, 13] [] (fr' := [(1, aD (.slice .bool) a1), (5, aI r1.1), (6, aI r1.2.1), (7, aI r1.2.2), (9, aI x577.1), (10, aI x577.2), (11, aI i576), (12, aI v759), (13, aI (w64 (i744 + (1 : Int))))]) (L' := []) (obs := []) (by kernel_rfl) (by kernel_rfl) (by kernel_rfl) allP0 ?_
                exact round_next' (by kernel_rfl) (by kernel_rfl)
            · obtain rfl := stepL_false h749 h
              refine W_exit (id := 2) [1, 5, 6, 7, 9, 10, 11, 12] [] (fr' := [(1, aD (.slice .bool) a1), (5, aI r1.1), (6, aI r1.2.1), (7, aI r1.2.2), (9, aI x577.1), (10, aI x577.2), (11, aI i576), (12, aI x745)]) (L' := []) (by kernel_rfl) (by kernel_rfl) ?_
              refine seqQ_exit ?_
              refine round_exit ?_
              exact exQ_mk (by kernel_rfl) (by kernel_rfl)
          · intro e fr L hJ
            obtain ⟨rfl, rfl, rfl⟩ := hJ
            refine LT_keep [1, 5, 6, 7, 9, 10, 11, 12] [] (fr' := [(1, aD (.slice .bool) a1), (5, aI r1.1), (6, aI r1.2.1), (7, aI r1.2.2), (9, aI x577.1), (10, aI x577.2), (11, aI i576), (12, aI v762)]) (L' := []) (by kernel_rfl) ?_
            refine blockQ_hit ?_
            refine seqQ_norm ?_
            refine W_seq (by kernel_rfl) ?_
            refine W_run 3 [] [1, 5, 6, 7, 9, 10, 11, 12, 64] [] (fr' := [(1, aD (.slice .bool) a1), (5, aI r1.1), (6, aI r1.2.1), (7, aI r1.2.2), (9, aI x577.1), (10, aI x577.2), (11, aI i576), (12, aI v762), (64, aB (decide (v762 < x577.1)))]) (L' := []) (obs := []) (by kernel_rfl) (by kernel_rfl) (by kernel_rfl) allP0 ?_
            refine seqQ_norm ?_
            refine W_cond (o := .tmp 64) (b := decide (v762 < x577.1)) (by kernel_rfl) (by kernel_rfl) (fun h767 => ?_) (fun h767 => ?_)
            · replace h := ofT h767 h
              refine W_seq (by kernel_rfl) ?_
              refine W_run 2 [] [1, 5, 6, 7, 9, 11] [] (fr' := [(1, aD (.slice .bool) a1), (5, aI r1.1), (6, aI r1.2.1), (7, aI r1.2.2), (9, aI v762), (11, aI i576)]) (L' := []) (obs := []) (by kernel_rfl) (by kernel_rfl) (by kernel_rfl) allP0 ?_
              refine seqQ_norm ?_
              obtain rfl := Option.some.inj h
              refine W_run 2 [] [1, 5, 6, 7, 9, 10, 11] [] (fr' := [(1, aD (.slice .bool) a1), (5, aI r1.1), (6, aI r1.2.1), (7, aI r1.2.2), (9, aI v762), (10, aI i576), (11, aI i576)]) (L' := []) (obs := []) (by kernel_rfl) (by kernel_rfl) (by kernel_rfl) allP0 ?_
              refine blockQ_norm ?_
              exact exQ_mk (by kernel_rfl) (by kernel_rfl)
            · replace h := ofF h767 h
              obtain rfl := Option.some.inj h
              refine W_skip [1, 5, 6, 7, 9, 10, 11] [] (fr' := [(1, aD (.slice .bool) a1), (5, aI r1.1), (6, aI r1.2.1), (7, aI r1.2.2), (9, aI x577.1), (10, aI x577.2), (11, aI i576)]) (L' := []) (by kernel_rfl) (by kernel_rfl) ?_
              refine blockQ_norm ?_
              exact exQ_mk (by kernel_rfl) (by kernel_rfl)
        · intro e fr L hJ
          obtain ⟨rfl, rfl, rfl⟩ := hJ
          refine LT_keep [1, 5, 6, 7, 9, 10, 11] [] (fr' := [(1, aD (.slice .bool) a1), (5, aI r1.1), (6, aI r1.2.1), (7, aI r1.2.2), (9, aI v768.1), (10, aI v768.2), (11, aI i576)]) (L' := []) (by kernel_rfl) ?_
          refine seqQ_norm ?_
          obtain rfl := Option.some.inj h
          refine W_run 3 [] [1, 5, 6, 7, 9, 10, 11] [] (fr' := [(1, aD (.slice .bool) a1), (5, aI r1.1), (6, aI r1.2.1), (7, aI r1.2.2), (9, aI v768.1), (10, aI v768.2), (11, aI (w64 (i576 + (1 : Int))))]) (L' := []) (obs := []) (by kernel_rfl) (by kernel_rfl) (by kernel_rfl) allP0 ?_
          exact round_next' (by kernel_rfl) (by kernel_rfl)
      · obtain rfl := stepL_false h581 h
        refine W_exit (id := 0) [5, 6, 7, 9, 10] [] (fr' := [(5, aI r1.1), (6, aI r1.2.1), (7, aI r1.2.2), (9, aI x577.1), (10, aI x577.2)]) (L' := []) (by kernel_rfl) (by kernel_rfl) ?_
        refine seqQ_exit ?_
        refine round_exit ?_
        exact exQ_mk (by kernel_rfl) (by kernel_rfl)
    · intro e fr L hJ
      obtain ⟨rfl, rfl, rfl⟩ := hJ
      refine LT_keep [5, 6, 7, 9, 10] [] (fr' := [(5, aI r1.1), (6, aI r1.2.1), (7, aI r1.2.2), (9, aI v771.1), (10, aI v771.2)]) (L' := []) (by kernel_rfl) ?_
      refine blockQ_hit ?_
      refine seqQ_norm ?_
      refine W_seq (by kernel_rfl) ?_
      refine W_run 13 [] [4] [] (fr' := [(4, aB (((r1.2.2 == (0 : Int)) && (r1.1 == v771.1)) && (r1.2.1 == v771.2)))]) (L' := []) (obs := []) (by kernel_rfl) (by kernel_rfl) (by kernel_rfl) allP0 ?_
      refine seqQ_norm ?_
      obtain rfl := Option.some.inj h
      refine W_ret [4] [] (fr' := [(4, aB (((r1.2.2 == (0 : Int)) && (r1.1 == v771.1)) && (r1.2.1 == v771.2)))]) (L' := []) (by kernel_rfl) (by kernel_rfl) ?_
      exact retQ_mk (by kernel_rfl) (by kernel_rfl) (by kernel_rfl)
end Go.Proofs.Ytnlibkamomlccaa.guessAparts
