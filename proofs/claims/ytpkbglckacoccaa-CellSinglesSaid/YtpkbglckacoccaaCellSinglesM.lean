/- What the functions that CellSingles calls compute, as models, and that they compute it: written by a program of mine. -/
import Derived.Test.YtpkbglckacoccaaProg
import Derived.Test.YtpkbglckacoccaaSl4
set_option linter.all false
set_option maxRecDepth 100000
namespace Go.Proofs.Ytpkbglckacoccaa.cellSingles
open Go Go.Sl
def cell_wrong (a0 : Int) : Option Bool :=
some ((decide (a0 < (0 : Int))) || (decide (a0 > (255 : Int))))
theorem cell_wrong_ok {a0 : Int} {r : Bool} (h : cell_wrong a0 = some r) : FnC Try.prog 48 [aI a0] [] (aB r) [] := by
  refine fnC_of_W (B := bodyOf Try.f48) (n := 9) Try.func48 (by kernel_rfl) (by kernel_rfl) (by kernel_rfl) (by kernel_rfl) (by kernel_rfl) ?_
  intro K
  refine W_seq (by kernel_rfl) ?_
  refine W_run 1 [] [0] [] (fr' := [(0, aI a0)]) (L' := []) (obs := []) (by kernel_rfl) (by kernel_rfl) (by kernel_rfl) allP0 ?_
  refine seqQ_norm ?_
  refine W_seq (by kernel_rfl) ?_
  refine W_run 7 [] [2] [] (fr' := [(2, aB ((decide (a0 < (0 : Int))) || (decide (a0 > (255 : Int)))))]) (L' := []) (obs := []) (by kernel_rfl) (by kernel_rfl) (by kernel_rfl) allP0 ?_
  refine seqQ_norm ?_
  obtain rfl := Option.some.inj h
  refine W_ret [2] [] (fr' := [(2, aB ((decide (a0 < (0 : Int))) || (decide (a0 > (255 : Int)))))]) (L' := []) (by kernel_rfl) (by kernel_rfl) ?_
  exact retQ_mk (by kernel_rfl) (by kernel_rfl) (by kernel_rfl)

def cell_Single_1_g1 (a0 : Int) (a1 : Int) (c0 : Int) : Option Bool :=
bif ((bAnd .i64 (bShr .i64 a0 (2 : Int)) (1 : Int)) == (bShr .i64 (bShr .i64 a1 (2 : Int)) (1 : Int))) && ((bAnd .i64 (bAnd .i64 a0 (3 : Int)) (1 : Int)) == (bShr .i64 (bAnd .i64 a1 (3 : Int)) (1 : Int))) then
((ck (0 ≤ w64 ((w64 ((2 : Int) * (bShr .i64 a0 (2 : Int)))) + (bAnd .i64 (bShr .i64 a1 (2 : Int)) (1 : Int))))).bind fun _ =>
(ck (0 ≤ w64 ((w64 ((2 : Int) * (bAnd .i64 a0 (3 : Int)))) + (bAnd .i64 (bAnd .i64 a1 (3 : Int)) (1 : Int))))).bind fun _ =>
some ((bAnd .i64 (bShr .i64 c0 (w64 ((w64 ((2 : Int) * (bShr .i64 a0 (2 : Int)))) + (bAnd .i64 (bShr .i64 a1 (2 : Int)) (1 : Int))))) (1 : Int)) == (bAnd .i64 (bShr .i64 c0 (w64 ((w64 ((2 : Int) * (bAnd .i64 a0 (3 : Int)))) + (bAnd .i64 (bAnd .i64 a1 (3 : Int)) (1 : Int))))) (1 : Int))))
else
(some false)
@[reducible] def cell_Single_1_s2 (c0 : Int) (v : Bool) : Fr × LL := ([(5, aB v)], [(1000, .cells [.dat tI c0])])
def cell_Single_1 (a0 : Int) (a1 : Int) (c0 : Int) : Option Bool :=
(cell_Single_1_g1 a0 a1 c0).bind fun v10 =>
some v10
theorem cell_Single_1_ok {a0 : Int} {a1 : Int} {c0 : Int} {r : Bool} (h : cell_Single_1 a0 a1 c0 = some r) : FnC Try.prog 52 [aI a0, aI a1, .one (.ptr 1000 0)] [(1000, .cells [.dat tI c0])] (aB r) [(1000, .cells [.dat tI c0])] := by
  refine fnC_of_W (B := bodyOf Try.f52) (n := 49) Try.func52 (by kernel_rfl) (by kernel_rfl) (by kernel_rfl) (by kernel_rfl) (by kernel_rfl) ?_
  intro K
  refine W_seq (by kernel_rfl) ?_
  refine W_run 1 [] [0, 1, 2] [1000] (fr' := [(0, aI a0), (1, aI a1), (2, .one (.ptr 1000 0))]) (L' := [(1000, .cells [.dat tI c0])]) (obs := []) (by kernel_rfl) (by kernel_rfl) (by kernel_rfl) allP0 ?_
  refine seqQ_norm ?_
  refine W_seq (by kernel_rfl) ?_
  refine W_run 12 [] [2, 6, 7, 8, 9] [1000] (fr' := [(2, .one (.ptr 1000 0)), (6, aI (bShr .i64 a0 (2 : Int))), (7, aI (bAnd .i64 a0 (3 : Int))), (8, aI (bShr .i64 a1 (2 : Int))), (9, aI (bAnd .i64 a1 (3 : Int)))]) (L' := [(1000, .cells [.dat tI c0])]) (obs := [(0 ≤ (2 : Int)), (0 ≤ (2 : Int))]) (by kernel_rfl) (by kernel_rfl) (by kernel_rfl) (allP2 (by decide) (allP1 (by decide))) ?_
  refine seqQ_norm ?_
  refine W_seq (by kernel_rfl) ?_
  obtain ⟨v10, h11, h⟩ := bind_of h
  refine W_cutK (Q' := (exQ .normal (cell_Single_1_s2 c0)) v10) ?_ ?_
  · replace h := h11
    rcases Bool.eq_false_or_eq_true (((bAnd .i64 (bShr .i64 a0 (2 : Int)) (1 : Int)) == (bShr .i64 (bShr .i64 a1 (2 : Int)) (1 : Int))) && ((bAnd .i64 (bAnd .i64 a0 (3 : Int)) (1 : Int)) == (bShr .i64 (bAnd .i64 a1 (3 : Int)) (1 : Int)))) with h7 | h7
    · replace h := ofT h7 h
      obtain ⟨_, h8, h⟩ := bind_of h
      replace h8 := ck_some h8
      obtain ⟨_, h9, h⟩ := bind_of h
      replace h9 := ck_some h9
      obtain rfl := Option.some.inj h
      refine W_draw2 31 [(26, .known true), (28, .known true), (30, .known true), (32, .known true), (34, .known true), (36, .known true), (38, .known true), (40, .known true), (42, .known true), (44, .known true), (46, .known true), (48, .known true), (50, .known true), (52, .known true), (54, .known true), (56, .known true), (58, .known true), (61, .val (.dat .bool true))] [] [5] [1000] (fr' := [(5, aB ((bAnd .i64 (bShr .i64 c0 (w64 ((w64 ((2 : Int) * (bShr .i64 a0 (2 : Int)))) + (bAnd .i64 (bShr .i64 a1 (2 : Int)) (1 : Int))))) (1 : Int)) == (bAnd .i64 (bShr .i64 c0 (w64 ((w64 ((2 : Int) * (bAnd .i64 a0 (3 : Int)))) + (bAnd .i64 (bAnd .i64 a1 (3 : Int)) (1 : Int))))) (1 : Int))))]) (L' := [(1000, .cells [.dat tI c0])]) (out := [(18, aI (bShr .i64 a0 (2 : Int))), (19, aI (bAnd .i64 (bShr .i64 a0 (2 : Int)) (1 : Int))), (20, aI (bShr .i64 a1 (2 : Int))), (21, aI (bShr .i64 (bShr .i64 a1 (2 : Int)) (1 : Int))), (22, aB ((bAnd .i64 (bShr .i64 a0 (2 : Int)) (1 : Int)) == (bShr .i64 (bShr .i64 a1 (2 : Int)) (1 : Int)))), (23, aB ((bAnd .i64 (bShr .i64 a0 (2 : Int)) (1 : Int)) == (bShr .i64 (bShr .i64 a1 (2 : Int)) (1 : Int)))), (24, .mb 23 true (.dat tI (bAnd .i64 a0 (3 : Int)))), (25, .mb 23 true (.dat tI (bAnd .i64 (bAnd .i64 a0 (3 : Int)) (1 : Int)))), (26, .mb 23 true (.dat tI (bAnd .i64 a1 (3 : Int)))), (27, .mb 23 true (.dat tI (bShr .i64 (bAnd .i64 a1 (3 : Int)) (1 : Int)))), (28, .mb 23 true (.dat .bool ((bAnd .i64 (bAnd .i64 a0 (3 : Int)) (1 : Int)) == (bShr .i64 (bAnd .i64 a1 (3 : Int)) (1 : Int))))), (29, aB (((bAnd .i64 (bShr .i64 a0 (2 : Int)) (1 : Int)) == (bShr .i64 (bShr .i64 a1 (2 : Int)) (1 : Int))) && ((bAnd .i64 (bAnd .i64 a0 (3 : Int)) (1 : Int)) == (bShr .i64 (bAnd .i64 a1 (3 : Int)) (1 : Int))))), (30, aB (((bAnd .i64 (bShr .i64 a0 (2 : Int)) (1 : Int)) == (bShr .i64 (bShr .i64 a1 (2 : Int)) (1 : Int))) && ((bAnd .i64 (bAnd .i64 a0 (3 : Int)) (1 : Int)) == (bShr .i64 (bAnd .i64 a1 (3 : Int)) (1 : Int))))), (31, aI c0), (32, aI (bShr .i64 a0 (2 : Int))), (33, aI (w64 ((2 : Int) * (bShr .i64 a0 (2 : Int))))), (34, aI (bShr .i64 a1 (2 : Int))), (35, aI (bAnd .i64 (bShr .i64 a1 (2 : Int)) (1 : Int))), (36, aI (w64 ((w64 ((2 : Int) * (bShr .i64 a0 (2 : Int)))) + (bAnd .i64 (bShr .i64 a1 (2 : Int)) (1 : Int))))), (37, aI (bShr .i64 c0 (w64 ((w64 ((2 : Int) * (bShr .i64 a0 (2 : Int)))) + (bAnd .i64 (bShr .i64 a1 (2 : Int)) (1 : Int)))))), (38, aI (bAnd .i64 (bShr .i64 c0 (w64 ((w64 ((2 : Int) * (bShr .i64 a0 (2 : Int)))) + (bAnd .i64 (bShr .i64 a1 (2 : Int)) (1 : Int))))) (1 : Int))), (39, aI c0), (40, aI (bAnd .i64 a0 (3 : Int))), (41, aI (w64 ((2 : Int) * (bAnd .i64 a0 (3 : Int))))), (42, aI (bAnd .i64 a1 (3 : Int))), (43, aI (bAnd .i64 (bAnd .i64 a1 (3 : Int)) (1 : Int))), (44, aI (w64 ((w64 ((2 : Int) * (bAnd .i64 a0 (3 : Int)))) + (bAnd .i64 (bAnd .i64 a1 (3 : Int)) (1 : Int))))), (45, aI (bShr .i64 c0 (w64 ((w64 ((2 : Int) * (bAnd .i64 a0 (3 : Int)))) + (bAnd .i64 (bAnd .i64 a1 (3 : Int)) (1 : Int)))))), (46, aI (bAnd .i64 (bShr .i64 c0 (w64 ((w64 ((2 : Int) * (bAnd .i64 a0 (3 : Int)))) + (bAnd .i64 (bAnd .i64 a1 (3 : Int)) (1 : Int))))) (1 : Int))), (47, aB ((bAnd .i64 (bShr .i64 c0 (w64 ((w64 ((2 : Int) * (bShr .i64 a0 (2 : Int)))) + (bAnd .i64 (bShr .i64 a1 (2 : Int)) (1 : Int))))) (1 : Int)) == (bAnd .i64 (bShr .i64 c0 (w64 ((w64 ((2 : Int) * (bAnd .i64 a0 (3 : Int)))) + (bAnd .i64 (bAnd .i64 a1 (3 : Int)) (1 : Int))))) (1 : Int)))), (48, aB ((bAnd .i64 (bShr .i64 c0 (w64 ((w64 ((2 : Int) * (bShr .i64 a0 (2 : Int)))) + (bAnd .i64 (bShr .i64 a1 (2 : Int)) (1 : Int))))) (1 : Int)) == (bAnd .i64 (bShr .i64 c0 (w64 ((w64 ((2 : Int) * (bAnd .i64 a0 (3 : Int)))) + (bAnd .i64 (bAnd .i64 a1 (3 : Int)) (1 : Int))))) (1 : Int))))]) (obs := [(0 ≤ (1 : Int)), (0 ≤ (1 : Int)), ((((bAnd .i64 (bShr .i64 a0 (2 : Int)) (1 : Int)) == (bShr .i64 (bShr .i64 a1 (2 : Int)) (1 : Int))) && ((bAnd .i64 (bAnd .i64 a0 (3 : Int)) (1 : Int)) == (bShr .i64 (bAnd .i64 a1 (3 : Int)) (1 : Int)))) = true), ((((bAnd .i64 (bShr .i64 a0 (2 : Int)) (1 : Int)) == (bShr .i64 (bShr .i64 a1 (2 : Int)) (1 : Int))) && ((bAnd .i64 (bAnd .i64 a0 (3 : Int)) (1 : Int)) == (bShr .i64 (bAnd .i64 a1 (3 : Int)) (1 : Int)))) = true), ((((bAnd .i64 (bShr .i64 a0 (2 : Int)) (1 : Int)) == (bShr .i64 (bShr .i64 a1 (2 : Int)) (1 : Int))) && ((bAnd .i64 (bAnd .i64 a0 (3 : Int)) (1 : Int)) == (bShr .i64 (bAnd .i64 a1 (3 : Int)) (1 : Int)))) = true), ((((bAnd .i64 (bShr .i64 a0 (2 : Int)) (1 : Int)) == (bShr .i64 (bShr .i64 a1 (2 : Int)) (1 : Int))) && ((bAnd .i64 (bAnd .i64 a0 (3 : Int)) (1 : Int)) == (bShr .i64 (bAnd .i64 a1 (3 : Int)) (1 : Int)))) = true), ((((bAnd .i64 (bShr .i64 a0 (2 : Int)) (1 : Int)) == (bShr .i64 (bShr .i64 a1 (2 : Int)) (1 : Int))) && ((bAnd .i64 (bAnd .i64 a0 (3 : Int)) (1 : Int)) == (bShr .i64 (bAnd .i64 a1 (3 : Int)) (1 : Int)))) = true), ((((bAnd .i64 (bShr .i64 a0 (2 : Int)) (1 : Int)) == (bShr .i64 (bShr .i64 a1 (2 : Int)) (1 : Int))) && ((bAnd .i64 (bAnd .i64 a0 (3 : Int)) (1 : Int)) == (bShr .i64 (bAnd .i64 a1 (3 : Int)) (1 : Int)))) = true), ((((bAnd .i64 (bShr .i64 a0 (2 : Int)) (1 : Int)) == (bShr .i64 (bShr .i64 a1 (2 : Int)) (1 : Int))) && ((bAnd .i64 (bAnd .i64 a0 (3 : Int)) (1 : Int)) == (bShr .i64 (bAnd .i64 a1 (3 : Int)) (1 : Int)))) = true), (0 ≤ w64 ((w64 ((2 : Int) * (bShr .i64 a0 (2 : Int)))) + (bAnd .i64 (bShr .i64 a1 (2 : Int)) (1 : Int)))), ((((bAnd .i64 (bShr .i64 a0 (2 : Int)) (1 : Int)) == (bShr .i64 (bShr .i64 a1 (2 : Int)) (1 : Int))) && ((bAnd .i64 (bAnd .i64 a0 (3 : Int)) (1 : Int)) == (bShr .i64 (bAnd .i64 a1 (3 : Int)) (1 : Int)))) = true), ((((bAnd .i64 (bShr .i64 a0 (2 : Int)) (1 : Int)) == (bShr .i64 (bShr .i64 a1 (2 : Int)) (1 : Int))) && ((bAnd .i64 (bAnd .i64 a0 (3 : Int)) (1 : Int)) == (bShr .i64 (bAnd .i64 a1 (3 : Int)) (1 : Int)))) = true), ((((bAnd .i64 (bShr .i64 a0 (2 : Int)) (1 : Int)) == (bShr .i64 (bShr .i64 a1 (2 : Int)) (1 : Int))) && ((bAnd .i64 (bAnd .i64 a0 (3 : Int)) (1 : Int)) == (bShr .i64 (bAnd .i64 a1 (3 : Int)) (1 : Int)))) = true), ((((bAnd .i64 (bShr .i64 a0 (2 : Int)) (1 : Int)) == (bShr .i64 (bShr .i64 a1 (2 : Int)) (1 : Int))) && ((bAnd .i64 (bAnd .i64 a0 (3 : Int)) (1 : Int)) == (bShr .i64 (bAnd .i64 a1 (3 : Int)) (1 : Int)))) = true), ((((bAnd .i64 (bShr .i64 a0 (2 : Int)) (1 : Int)) == (bShr .i64 (bShr .i64 a1 (2 : Int)) (1 : Int))) && ((bAnd .i64 (bAnd .i64 a0 (3 : Int)) (1 : Int)) == (bShr .i64 (bAnd .i64 a1 (3 : Int)) (1 : Int)))) = true), ((((bAnd .i64 (bShr .i64 a0 (2 : Int)) (1 : Int)) == (bShr .i64 (bShr .i64 a1 (2 : Int)) (1 : Int))) && ((bAnd .i64 (bAnd .i64 a0 (3 : Int)) (1 : Int)) == (bShr .i64 (bAnd .i64 a1 (3 : Int)) (1 : Int)))) = true), ((((bAnd .i64 (bShr .i64 a0 (2 : Int)) (1 : Int)) == (bShr .i64 (bShr .i64 a1 (2 : Int)) (1 : Int))) && ((bAnd .i64 (bAnd .i64 a0 (3 : Int)) (1 : Int)) == (bShr .i64 (bAnd .i64 a1 (3 : Int)) (1 : Int)))) = true), ((((bAnd .i64 (bShr .i64 a0 (2 : Int)) (1 : Int)) == (bShr .i64 (bShr .i64 a1 (2 : Int)) (1 : Int))) && ((bAnd .i64 (bAnd .i64 a0 (3 : Int)) (1 : Int)) == (bShr .i64 (bAnd .i64 a1 (3 : Int)) (1 : Int)))) = true), (0 ≤ w64 ((w64 ((2 : Int) * (bAnd .i64 a0 (3 : Int)))) + (bAnd .i64 (bAnd .i64 a1 (3 : Int)) (1 : Int)))), ((((bAnd .i64 (bShr .i64 a0 (2 : Int)) (1 : Int)) == (bShr .i64 (bShr .i64 a1 (2 : Int)) (1 : Int))) && ((bAnd .i64 (bAnd .i64 a0 (3 : Int)) (1 : Int)) == (bShr .i64 (bAnd .i64 a1 (3 : Int)) (1 : Int)))) = true), ((((bAnd .i64 (bShr .i64 a0 (2 : Int)) (1 : Int)) == (bShr .i64 (bShr .i64 a1 (2 : Int)) (1 : Int))) && ((bAnd .i64 (bAnd .i64 a0 (3 : Int)) (1 : Int)) == (bShr .i64 (bAnd .i64 a1 (3 : Int)) (1 : Int)))) = true), ((((bAnd .i64 (bShr .i64 a0 (2 : Int)) (1 : Int)) == (bShr .i64 (bShr .i64 a1 (2 : Int)) (1 : Int))) && ((bAnd .i64 (bAnd .i64 a0 (3 : Int)) (1 : Int)) == (bShr .i64 (bAnd .i64 a1 (3 : Int)) (1 : Int)))) = true)]) (obs2 := []) (calls := []) (by kernel_rfl) (by kernel_rfl) (by kernel_rfl) (by kernel_rfl) (allP2 (by decide) (allP2 (by decide) (allP2 h7 (allP2 h7 (allP2 h7 (allP2 h7 (allP2 h7 (allP2 h7 (allP2 h7 (allP2 h8 (allP2 h7 (allP2 h7 (allP2 h7 (allP2 h7 (allP2 h7 (allP2 h7 (allP2 h7 (allP2 h7 (allP2 h9 (allP2 h7 (allP2 h7 (allP1 h7)))))))))))))))))))))) allC0 (by kernel_rfl) allP0 ?_
      exact exQ_mk (by kernel_rfl) (by kernel_rfl)
    · replace h := ofF h7 h
      obtain rfl := Option.some.inj h
      refine W_draw2 31 [(26, .known false), (28, .known false), (30, .known false), (32, .known false), (34, .known false), (36, .known false), (38, .known false), (40, .known false), (42, .known false), (44, .known false), (46, .known false), (48, .known false), (50, .known false), (52, .known false), (54, .known false), (56, .known false), (58, .known false), (61, .val (.dat .bool false))] [] [5] [1000] (fr' := [(5, aB false)]) (L' := [(1000, .cells [.dat tI c0])]) (out := [(18, aI (bShr .i64 a0 (2 : Int))), (19, aI (bAnd .i64 (bShr .i64 a0 (2 : Int)) (1 : Int))), (20, aI (bShr .i64 a1 (2 : Int))), (21, aI (bShr .i64 (bShr .i64 a1 (2 : Int)) (1 : Int))), (22, aB ((bAnd .i64 (bShr .i64 a0 (2 : Int)) (1 : Int)) == (bShr .i64 (bShr .i64 a1 (2 : Int)) (1 : Int)))), (23, aB ((bAnd .i64 (bShr .i64 a0 (2 : Int)) (1 : Int)) == (bShr .i64 (bShr .i64 a1 (2 : Int)) (1 : Int)))), (24, .mb 23 true (.dat tI (bAnd .i64 a0 (3 : Int)))), (25, .mb 23 true (.dat tI (bAnd .i64 (bAnd .i64 a0 (3 : Int)) (1 : Int)))), (26, .mb 23 true (.dat tI (bAnd .i64 a1 (3 : Int)))), (27, .mb 23 true (.dat tI (bShr .i64 (bAnd .i64 a1 (3 : Int)) (1 : Int)))), (28, .mb 23 true (.dat .bool ((bAnd .i64 (bAnd .i64 a0 (3 : Int)) (1 : Int)) == (bShr .i64 (bAnd .i64 a1 (3 : Int)) (1 : Int))))), (29, aB (((bAnd .i64 (bShr .i64 a0 (2 : Int)) (1 : Int)) == (bShr .i64 (bShr .i64 a1 (2 : Int)) (1 : Int))) && ((bAnd .i64 (bAnd .i64 a0 (3 : Int)) (1 : Int)) == (bShr .i64 (bAnd .i64 a1 (3 : Int)) (1 : Int))))), (30, aB (((bAnd .i64 (bShr .i64 a0 (2 : Int)) (1 : Int)) == (bShr .i64 (bShr .i64 a1 (2 : Int)) (1 : Int))) && ((bAnd .i64 (bAnd .i64 a0 (3 : Int)) (1 : Int)) == (bShr .i64 (bAnd .i64 a1 (3 : Int)) (1 : Int))))), (31, .tup []), (32, .tup []), (33, .tup []), (34, .tup []), (35, .tup []), (36, .tup []), (37, .tup []), (38, .tup []), (39, .tup []), (40, .tup []), (41, .tup []), (42, .tup []), (43, .tup []), (44, .tup []), (45, .tup []), (46, .tup []), (47, .tup []), (48, aB false)]) (obs := [(0 ≤ (1 : Int)), (0 ≤ (1 : Int)), ((((bAnd .i64 (bShr .i64 a0 (2 : Int)) (1 : Int)) == (bShr .i64 (bShr .i64 a1 (2 : Int)) (1 : Int))) && ((bAnd .i64 (bAnd .i64 a0 (3 : Int)) (1 : Int)) == (bShr .i64 (bAnd .i64 a1 (3 : Int)) (1 : Int)))) = false), ((((bAnd .i64 (bShr .i64 a0 (2 : Int)) (1 : Int)) == (bShr .i64 (bShr .i64 a1 (2 : Int)) (1 : Int))) && ((bAnd .i64 (bAnd .i64 a0 (3 : Int)) (1 : Int)) == (bShr .i64 (bAnd .i64 a1 (3 : Int)) (1 : Int)))) = false), ((((bAnd .i64 (bShr .i64 a0 (2 : Int)) (1 : Int)) == (bShr .i64 (bShr .i64 a1 (2 : Int)) (1 : Int))) && ((bAnd .i64 (bAnd .i64 a0 (3 : Int)) (1 : Int)) == (bShr .i64 (bAnd .i64 a1 (3 : Int)) (1 : Int)))) = false), ((((bAnd .i64 (bShr .i64 a0 (2 : Int)) (1 : Int)) == (bShr .i64 (bShr .i64 a1 (2 : Int)) (1 : Int))) && ((bAnd .i64 (bAnd .i64 a0 (3 : Int)) (1 : Int)) == (bShr .i64 (bAnd .i64 a1 (3 : Int)) (1 : Int)))) = false), ((((bAnd .i64 (bShr .i64 a0 (2 : Int)) (1 : Int)) == (bShr .i64 (bShr .i64 a1 (2 : Int)) (1 : Int))) && ((bAnd .i64 (bAnd .i64 a0 (3 : Int)) (1 : Int)) == (bShr .i64 (bAnd .i64 a1 (3 : Int)) (1 : Int)))) = false), ((((bAnd .i64 (bShr .i64 a0 (2 : Int)) (1 : Int)) == (bShr .i64 (bShr .i64 a1 (2 : Int)) (1 : Int))) && ((bAnd .i64 (bAnd .i64 a0 (3 : Int)) (1 : Int)) == (bShr .i64 (bAnd .i64 a1 (3 : Int)) (1 : Int)))) = false), ((((bAnd .i64 (bShr .i64 a0 (2 : Int)) (1 : Int)) == (bShr .i64 (bShr .i64 a1 (2 : Int)) (1 : Int))) && ((bAnd .i64 (bAnd .i64 a0 (3 : Int)) (1 : Int)) == (bShr .i64 (bAnd .i64 a1 (3 : Int)) (1 : Int)))) = false), ((((bAnd .i64 (bShr .i64 a0 (2 : Int)) (1 : Int)) == (bShr .i64 (bShr .i64 a1 (2 : Int)) (1 : Int))) && ((bAnd .i64 (bAnd .i64 a0 (3 : Int)) (1 : Int)) == (bShr .i64 (bAnd .i64 a1 (3 : Int)) (1 : Int)))) = false), ((((bAnd .i64 (bShr .i64 a0 (2 : Int)) (1 : Int)) == (bShr .i64 (bShr .i64 a1 (2 : Int)) (1 : Int))) && ((bAnd .i64 (bAnd .i64 a0 (3 : Int)) (1 : Int)) == (bShr .i64 (bAnd .i64 a1 (3 : Int)) (1 : Int)))) = false), ((((bAnd .i64 (bShr .i64 a0 (2 : Int)) (1 : Int)) == (bShr .i64 (bShr .i64 a1 (2 : Int)) (1 : Int))) && ((bAnd .i64 (bAnd .i64 a0 (3 : Int)) (1 : Int)) == (bShr .i64 (bAnd .i64 a1 (3 : Int)) (1 : Int)))) = false), ((((bAnd .i64 (bShr .i64 a0 (2 : Int)) (1 : Int)) == (bShr .i64 (bShr .i64 a1 (2 : Int)) (1 : Int))) && ((bAnd .i64 (bAnd .i64 a0 (3 : Int)) (1 : Int)) == (bShr .i64 (bAnd .i64 a1 (3 : Int)) (1 : Int)))) = false), ((((bAnd .i64 (bShr .i64 a0 (2 : Int)) (1 : Int)) == (bShr .i64 (bShr .i64 a1 (2 : Int)) (1 : Int))) && ((bAnd .i64 (bAnd .i64 a0 (3 : Int)) (1 : Int)) == (bShr .i64 (bAnd .i64 a1 (3 : Int)) (1 : Int)))) = false), ((((bAnd .i64 (bShr .i64 a0 (2 : Int)) (1 : Int)) == (bShr .i64 (bShr .i64 a1 (2 : Int)) (1 : Int))) && ((bAnd .i64 (bAnd .i64 a0 (3 : Int)) (1 : Int)) == (bShr .i64 (bAnd .i64 a1 (3 : Int)) (1 : Int)))) = false), ((((bAnd .i64 (bShr .i64 a0 (2 : Int)) (1 : Int)) == (bShr .i64 (bShr .i64 a1 (2 : Int)) (1 : Int))) && ((bAnd .i64 (bAnd .i64 a0 (3 : Int)) (1 : Int)) == (bShr .i64 (bAnd .i64 a1 (3 : Int)) (1 : Int)))) = false), ((((bAnd .i64 (bShr .i64 a0 (2 : Int)) (1 : Int)) == (bShr .i64 (bShr .i64 a1 (2 : Int)) (1 : Int))) && ((bAnd .i64 (bAnd .i64 a0 (3 : Int)) (1 : Int)) == (bShr .i64 (bAnd .i64 a1 (3 : Int)) (1 : Int)))) = false), ((((bAnd .i64 (bShr .i64 a0 (2 : Int)) (1 : Int)) == (bShr .i64 (bShr .i64 a1 (2 : Int)) (1 : Int))) && ((bAnd .i64 (bAnd .i64 a0 (3 : Int)) (1 : Int)) == (bShr .i64 (bAnd .i64 a1 (3 : Int)) (1 : Int)))) = false), ((((bAnd .i64 (bShr .i64 a0 (2 : Int)) (1 : Int)) == (bShr .i64 (bShr .i64 a1 (2 : Int)) (1 : Int))) && ((bAnd .i64 (bAnd .i64 a0 (3 : Int)) (1 : Int)) == (bShr .i64 (bAnd .i64 a1 (3 : Int)) (1 : Int)))) = false), ((((bAnd .i64 (bShr .i64 a0 (2 : Int)) (1 : Int)) == (bShr .i64 (bShr .i64 a1 (2 : Int)) (1 : Int))) && ((bAnd .i64 (bAnd .i64 a0 (3 : Int)) (1 : Int)) == (bShr .i64 (bAnd .i64 a1 (3 : Int)) (1 : Int)))) = false)]) (obs2 := []) (calls := []) (by kernel_rfl) (by kernel_rfl) (by kernel_rfl) (by kernel_rfl) (allP2 (by decide) (allP2 (by decide) (allP2 h7 (allP2 h7 (allP2 h7 (allP2 h7 (allP2 h7 (allP2 h7 (allP2 h7 (allP2 h7 (allP2 h7 (allP2 h7 (allP2 h7 (allP2 h7 (allP2 h7 (allP2 h7 (allP2 h7 (allP2 h7 (allP2 h7 (allP1 h7)))))))))))))))))))) allC0 (by kernel_rfl) allP0 ?_
      exact exQ_mk (by kernel_rfl) (by kernel_rfl)
  · intro e fr L hJ
    obtain ⟨rfl, rfl, rfl⟩ := hJ
    refine LT_keep [5] [1000] (fr' := [(5, aB v10)]) (L' := [(1000, .cells [.dat tI c0])]) (by kernel_rfl) ?_
    refine seqQ_norm ?_
    obtain rfl := Option.some.inj h
    refine W_ret [5] [1000] (fr' := [(5, aB v10)]) (L' := [(1000, .cells [.dat tI c0])]) (by kernel_rfl) (by kernel_rfl) ?_
    exact retQ_mk (by kernel_rfl) (by kernel_rfl) (by kernel_rfl)

def cell_Single_g234 (a0 : Int) (i1798 : Int) (x1799 : Int) (i1988 : Int) (x1989 : (Bool × Bool)) : Option Bool :=
bif x1989.1 then
(some true)
else
((ck (0 ≤ i1988)).bind fun _ =>
bif (bAnd .u32 (bShr .u32 x1799 i1988) (1 : Int)) == (1 : Int) then
((cell_Single_1 i1988 i1798 a0).bind fun r2005 =>
some r2005)
else
(some false))
@[reducible] def cell_Single_s235 (a0 : Int) (x679 : (Int × Bool)) (i1798 : Int) (x1799 : Int) (i1988 : Int) (x1989 : (Bool × Bool)) (v : Bool) : Fr × LL := ([(4, aD (.int .u32) x1799), (5, .one (.fn 52 [(1, 0)])), (7, aD (.int .u32) x679.1), (8, aI i1798), (9, aB v), (10, aB x1989.2), (11, aI i1988), (18, aI i1798), (21, aI i1988)], [(1, .cells [.dat tI a0])])
def cell_Single_b236 (a0 : Int) (i1798 : Int) (x1799 : Int) (i1988 : Int) (x1989 : (Bool × Bool)) : Option (Flow (Bool × Bool) (Bool × Bool)) :=
(cell_Single_g234 a0 i1798 x1799 i1988 x1989).bind fun v2007 =>
bif x1989.2 then
(some (.next (v2007, true)))
else
((ck (0 ≤ i1988)).bind fun _ =>
bif (bAnd .u32 (bShr .u32 x1799 i1988) (1 : Int)) == (1 : Int) then
((cell_Single_1 i1798 i1988 a0).bind fun r2012 =>
some (.next (v2007, r2012)))
else
(some (.next (v2007, false))))
@[reducible] def cell_Single_s237 (a0 : Int) (x679 : (Int × Bool)) (i1798 : Int) (x1799 : Int) (v : Int × (Bool × Bool)) : Fr × LL := ([(4, aD (.int .u32) x1799), (5, .one (.fn 52 [(1, 0)])), (7, aD (.int .u32) x679.1), (8, aI i1798), (9, aB v.2.1), (10, aB v.2.2), (18, aI i1798), (21, aI v.1)], [(1, .cells [.dat tI a0])])
@[reducible] def cell_Single_s238 (a0 : Int) (x679 : (Int × Bool)) (i1798 : Int) (x1799 : Int) (v : (Bool × Bool)) : Fr × LL := ([(4, aD (.int .u32) x1799), (5, .one (.fn 52 [(1, 0)])), (7, aD (.int .u32) x679.1), (8, aI i1798), (9, aB v.1), (10, aB v.2), (18, aI i1798)], [(1, .cells [.dat tI a0])])
def cell_Single_g239 (a0 : Int) (i1798 : Int) (x1799 : Int) : Option Int :=
(forI (0 : Int) (16 : Int) (cell_Single_b236 a0 i1798 x1799) (fun x1989 => (x1989.1, x1989.2)) (false, false)).bind fun v2015 =>
bif (!v2015.1) || (!v2015.2) then
((ck (0 ≤ i1798)).bind fun _ =>
some (bClr .u32 x1799 (bShl .u32 (1 : Int) i1798)))
else
(some x1799)
@[reducible] def cell_Single_s240 (a0 : Int) (x679 : (Int × Bool)) (i1798 : Int) (v : Int) : Fr × LL := ([(4, aD (.int .u32) v), (5, .one (.fn 52 [(1, 0)])), (7, aD (.int .u32) x679.1), (18, aI i1798)], [(1, .cells [.dat tI a0])])
def cell_Single_b241 (a0 : Int) (i1798 : Int) (x1799 : Int) : Option (Flow Int Int) :=
(cell_Single_g239 a0 i1798 x1799).bind fun v2021 =>
some (.next v2021)
@[reducible] def cell_Single_s242 (a0 : Int) (x679 : (Int × Bool)) (v : Int × Int) : Fr × LL := ([(4, aD (.int .u32) v.2), (5, .one (.fn 52 [(1, 0)])), (7, aD (.int .u32) x679.1), (18, aI v.1)], [(1, .cells [.dat tI a0])])
@[reducible] def cell_Single_s243 (a0 : Int) (x679 : (Int × Bool)) (v : Int) : Fr × LL := ([(4, aD (.int .u32) v), (5, .one (.fn 52 [(1, 0)])), (7, aD (.int .u32) x679.1)], [(1, .cells [.dat tI a0])])
def cell_Single_b244 (a0 : Int) (x679 : (Int × Bool)) : Option (Flow (Int × Bool) Int) :=
bif x679.2 then
((forI (0 : Int) (16 : Int) (cell_Single_b241 a0) (fun x1799 => x1799) x679.1).bind fun v2024 =>
some (.next (v2024, v2024 != x679.1)))
else
(some (.done x679.1))
@[reducible] def cell_Single_s245 (a0 : Int) (v : (Int × Bool)) : Fr × LL := ([(4, aD (.int .u32) v.1), (5, .one (.fn 52 [(1, 0)])), (6, aB v.2)], [(1, .cells [.dat tI a0])])
@[reducible] def cell_Single_s246 (v : Int) : Fr × LL := ([(4, aD (.int .u32) v)], [])
def cell_Single_b247 (v2028 : Int) (i2039 : Int) (x2040 : Unit) : Option (Flow Unit (Esc (Bool × Int) Unit)) :=
(ck (0 ≤ i2039)).bind fun _ =>
bif ((bAnd .u32 (bShr .u32 v2028 i2039) (1 : Int)) == (1 : Int)) && ((bShr .i64 i2039 (2 : Int)) != (bAnd .i64 i2039 (3 : Int))) then
(some (.done (.ret (false, (0 : Int)))))
else
(some (.next ()))
@[reducible] def cell_Single_s248 (v2028 : Int) (v : Int × Unit) : Fr × LL := ([(4, aD (.int .u32) v2028), (67, aI v.1)], [])
@[reducible] def cell_Single_s249 (v : (Bool × Int)) : Fr × LL := ([(2, aB v.1), (3, aI v.2)], [])
@[reducible] def cell_Single_s250 (v : Unit) : Fr × LL := ([], [])
def cell_Single (fuel : Nat) (a0 : Int) : Option (Bool × Int) :=
(cell_wrong a0).bind fun r1 =>
bif r1 then
(some (false, (4 : Int)))
else
((iter (cell_Single_b244 a0) fuel ((65535 : Int), true)).bind fun v2028 =>
(forI (0 : Int) (16 : Int) (cell_Single_b247 v2028) (fun x2040 => (.brk ())) ()).bind fun v2046 =>
match v2046 with
| .ret v2050 =>
(some (v2050.1, v2050.2))
| .brk v2051 =>
(some (true, (0 : Int))))
theorem cell_Single_ok {fuel : Nat} {a0 : Int} {r : (Bool × Int)} (h : cell_Single fuel a0 = some r) : FnC Try.prog 18 [aI a0] [] (.tup [.dat .bool r.1, .dat tI r.2]) [] := by
  refine fnC_of_W (B := bodyOf Try.f18) (n := 83) Try.func18 (by kernel_rfl) (by kernel_rfl) (by kernel_rfl) (by kernel_rfl) (by kernel_rfl) ?_
  intro K
  refine W_seq (by kernel_rfl) ?_
  refine W_run 3 [] [1] [1] (fr' := [(1, .one (.ptr 1 0))]) (L' := [(1, .cells [.dat tI a0])]) (obs := []) (by kernel_rfl) (by kernel_rfl) (by kernel_rfl) allP0 ?_
  refine seqQ_norm ?_
  refine W_seq (by kernel_rfl) ?_
  refine W_seq (by kernel_rfl) ?_
  refine W_region (by kernel_rfl) ?_
  refine WO_run (j := 1) (k := 1) (orcs := []) (kF := [1, 13]) (kL := [1]) (fr' := [(1, .one (.ptr 1 0)), (13, aI a0)]) (L' := [(1, .cells [.dat tI a0])]) (obs := []) rfl (by kernel_rfl) allP0 ?_
  obtain ⟨r1, h2, h⟩ := bind_of h
  refine WO_call0 (us := [none]) (d := 14) (p := True) (j := 2) rfl ⟨by kernel_rfl, by kernel_rfl, by kernel_rfl⟩ trivial (cell_wrong_ok h2) (by kernel_rfl) ?_
  refine WO_fin [1, 14] [1] (fr' := [(1, .one (.ptr 1 0)), (14, aB r1)]) (L' := [(1, .cells [.dat tI a0])]) (by kernel_rfl) (by kernel_rfl) ?_
  refine seqQ_norm ?_
  refine W_cond (o := .tmp 14) (b := r1) (by kernel_rfl) (by kernel_rfl) (fun h3 => ?_) (fun h3 => ?_)
  · replace h := ofT h3 h
    refine W_seq (by kernel_rfl) ?_
    refine W_run 2 [] [2, 3] [] (fr' := [(2, aB false), (3, aI (4 : Int))]) (L' := []) (obs := []) (by kernel_rfl) (by kernel_rfl) (by kernel_rfl) allP0 ?_
    refine seqQ_norm ?_
    obtain rfl := Option.some.inj h
    refine W_ret [2, 3] [] (fr' := [(2, aB false), (3, aI (4 : Int))]) (L' := []) (by kernel_rfl) (by kernel_rfl) ?_
    refine seqQ_ret ?_
    exact retQ_mk (by kernel_rfl) (by kernel_rfl) (by kernel_rfl)
  · replace h := ofF h3 h
    refine W_skip [1] [1] (fr' := [(1, .one (.ptr 1 0))]) (L' := [(1, .cells [.dat tI a0])]) (by kernel_rfl) (by kernel_rfl) ?_
    refine seqQ_norm ?_
    refine W_seq (by kernel_rfl) ?_
    refine W_run 1 [] [1, 4] [1] (fr' := [(1, .one (.ptr 1 0)), (4, aD (.int .u32) (65535 : Int))]) (L' := [(1, .cells [.dat tI a0])]) (obs := []) (by kernel_rfl) (by kernel_rfl) (by kernel_rfl) allP0 ?_
    refine seqQ_norm ?_
    refine W_seq (by kernel_rfl) ?_
    refine W_run 2 [] [4, 5] [1] (fr' := [(4, aD (.int .u32) (65535 : Int)), (5, .one (.fn 52 [(1, 0)]))]) (L' := [(1, .cells [.dat tI a0])]) (obs := []) (by kernel_rfl) (by kernel_rfl) (by kernel_rfl) allP0 ?_
    refine seqQ_norm ?_
    refine W_seq (by kernel_rfl) ?_
    refine W_seq (by kernel_rfl) ?_
    refine W_run 1 [] [4, 5, 6] [1] (fr' := [(4, aD (.int .u32) (65535 : Int)), (5, .one (.fn 52 [(1, 0)])), (6, aB true)]) (L' := [(1, .cells [.dat tI a0])]) (obs := []) (by kernel_rfl) (by kernel_rfl) (by kernel_rfl) allP0 ?_
    refine seqQ_norm ?_
    refine W_block (id := 0) (by kernel_rfl) ?_
    obtain ⟨v2028, h2029, h⟩ := bind_of h
    refine W_weaken [4, 5, 6] [1] (fr' := ((cell_Single_s245 a0) ((65535 : Int), true)).1) (L' := ((cell_Single_s245 a0) ((65535 : Int), true)).2) (by kernel_rfl) ?_
    refine W_cutK (W_loop (S := (cell_Single_s245 a0)) (J := (exQ (.exit 0) cell_Single_s246)) (by kernel_rfl) ?_ fuel _ v2028 h2029) ?_
    · rintro x679 s h
      refine W_seq (by kernel_rfl) ?_
      refine W_seq (by kernel_rfl) ?_
      refine W_run 1 [] [4, 5, 16] [1] (fr' := [(4, aD (.int .u32) x679.1), (5, .one (.fn 52 [(1, 0)])), (16, aB x679.2)]) (L' := [(1, .cells [.dat tI a0])]) (obs := []) (by kernel_rfl) (by kernel_rfl) (by kernel_rfl) allP0 ?_
      refine seqQ_norm ?_
      refine W_cond (o := .tmp 16) (b := x679.2) (by kernel_rfl) (by kernel_rfl) (fun h1354 => ?_) (fun h1354 => ?_)
      · replace h := ofT h1354 h
        refine W_skip [4, 5] [1] (fr' := [(4, aD (.int .u32) x679.1), (5, .one (.fn 52 [(1, 0)]))]) (L' := [(1, .cells [.dat tI a0])]) (by kernel_rfl) (by kernel_rfl) ?_
        refine seqQ_norm ?_
        refine W_block (id := 1) (by kernel_rfl) ?_
        refine W_seq (by kernel_rfl) ?_
        refine W_run 2 [] [4, 5, 7] [1] (fr' := [(4, aD (.int .u32) x679.1), (5, .one (.fn 52 [(1, 0)])), (7, aD (.int .u32) x679.1)]) (L' := [(1, .cells [.dat tI a0])]) (obs := []) (by kernel_rfl) (by kernel_rfl) (by kernel_rfl) allP0 ?_
        refine seqQ_norm ?_
        refine W_seq (by kernel_rfl) ?_
        refine W_seq (by kernel_rfl) ?_
        refine W_run 1 [] [4, 5, 7, 18] [1] (fr' := [(4, aD (.int .u32) x679.1), (5, .one (.fn 52 [(1, 0)])), (7, aD (.int .u32) x679.1), (18, aI (0 : Int))]) (L' := [(1, .cells [.dat tI a0])]) (obs := []) (by kernel_rfl) (by kernel_rfl) (by kernel_rfl) allP0 ?_
        refine seqQ_norm ?_
        refine W_block (id := 2) (by kernel_rfl) ?_
        obtain ⟨v2024, h2025, h⟩ := bind_of h
        obtain ⟨h2026, h2027⟩ := forI_iter h2025
        refine W_weaken [4, 5, 7, 18] [1] (fr' := ((cell_Single_s242 a0 x679) ((0 : Int), x679.1)).1) (L' := ((cell_Single_s242 a0 x679) ((0 : Int), x679.1)).2) (by kernel_rfl) ?_
        refine W_cutK (W_loop (S := (cell_Single_s242 a0 x679)) (J := (exQ (.exit 2) (cell_Single_s243 a0 x679))) (by kernel_rfl) ?_ h2026 _ v2024 h2027) ?_
        · rintro ⟨i1798, x1799⟩ s h
          refine W_seq (by kernel_rfl) ?_
          refine W_run 1 [] [4, 5, 7, 18, 19] [1] (fr' := [(4, aD (.int .u32) x1799), (5, .one (.fn 52 [(1, 0)])), (7, aD (.int .u32) x679.1), (18, aI i1798), (19, aB (decide (i1798 < (16 : Int))))]) (L' := [(1, .cells [.dat tI a0])]) (obs := []) (by kernel_rfl) (by kernel_rfl) (by kernel_rfl) allP0 ?_
          refine seqQ_norm ?_
          refine W_seq (by kernel_rfl) ?_
          refine W_cond (o := .tmp 19) (b := decide (i1798 < (16 : Int))) (by kernel_rfl) (by kernel_rfl) (fun h1801 => ?_) (fun h1801 => ?_)
          · replace h := stepI_true h1801 h
            obtain ⟨_, h, rfl⟩ := h
            refine W_skip [4, 5, 7, 18] [1] (fr' := [(4, aD (.int .u32) x1799), (5, .one (.fn 52 [(1, 0)])), (7, aD (.int .u32) x679.1), (18, aI i1798)]) (L' := [(1, .cells [.dat tI a0])]) (by kernel_rfl) (by kernel_rfl) ?_
            refine seqQ_norm ?_
            refine W_seq (by kernel_rfl) ?_
            obtain ⟨v2021, h2022, h⟩ := bind_of h
            refine W_cutK (Q' := (exQ .normal (cell_Single_s240 a0 x679 i1798)) v2021) ?_ ?_
            · replace h := h2022
              refine W_block (id := 3) (by kernel_rfl) ?_
              refine W_seq (by kernel_rfl) ?_
              refine W_run 2 [] [4, 5, 7, 8, 18] [1] (fr' := [(4, aD (.int .u32) x1799), (5, .one (.fn 52 [(1, 0)])), (7, aD (.int .u32) x679.1), (8, aI i1798), (18, aI i1798)]) (L' := [(1, .cells [.dat tI a0])]) (obs := []) (by kernel_rfl) (by kernel_rfl) (by kernel_rfl) allP0 ?_
              refine seqQ_norm ?_
              refine W_seq (by kernel_rfl) ?_
              refine W_run 2 [] [4, 5, 7, 8, 9, 10, 18] [1] (fr' := [(4, aD (.int .u32) x1799), (5, .one (.fn 52 [(1, 0)])), (7, aD (.int .u32) x679.1), (8, aI i1798), (9, aB false), (10, aB false), (18, aI i1798)]) (L' := [(1, .cells [.dat tI a0])]) (obs := []) (by kernel_rfl) (by kernel_rfl) (by kernel_rfl) allP0 ?_
              refine seqQ_norm ?_
              refine W_seq (by kernel_rfl) ?_
              refine W_seq (by kernel_rfl) ?_
              refine W_run 1 [] [4, 5, 7, 8, 9, 10, 18, 21] [1] (fr' := [(4, aD (.int .u32) x1799), (5, .one (.fn 52 [(1, 0)])), (7, aD (.int .u32) x679.1), (8, aI i1798), (9, aB false), (10, aB false), (18, aI i1798), (21, aI (0 : Int))]) (L' := [(1, .cells [.dat tI a0])]) (obs := []) (by kernel_rfl) (by kernel_rfl) (by kernel_rfl) allP0 ?_
              refine seqQ_norm ?_
              refine W_block (id := 4) (by kernel_rfl) ?_
              obtain ⟨v2015, h2016, h⟩ := bind_of h
              obtain ⟨h2017, h2018⟩ := forI_iter h2016
              refine W_weaken [4, 5, 7, 8, 9, 10, 18, 21] [1] (fr' := ((cell_Single_s237 a0 x679 i1798 x1799) ((0 : Int), (false, false))).1) (L' := ((cell_Single_s237 a0 x679 i1798 x1799) ((0 : Int), (false, false))).2) (by kernel_rfl) ?_
              refine W_cutK (W_loop (S := (cell_Single_s237 a0 x679 i1798 x1799)) (J := (exQ (.exit 4) (cell_Single_s238 a0 x679 i1798 x1799))) (by kernel_rfl) ?_ h2017 _ v2015 h2018) ?_
              · rintro ⟨i1988, x1989⟩ s h
                refine W_seq (by kernel_rfl) ?_
                refine W_run 1 [] [4, 5, 7, 8, 9, 10, 18, 21, 22] [1] (fr' := [(4, aD (.int .u32) x1799), (5, .one (.fn 52 [(1, 0)])), (7, aD (.int .u32) x679.1), (8, aI i1798), (9, aB x1989.1), (10, aB x1989.2), (18, aI i1798), (21, aI i1988), (22, aB (decide (i1988 < (16 : Int))))]) (L' := [(1, .cells [.dat tI a0])]) (obs := []) (by kernel_rfl) (by kernel_rfl) (by kernel_rfl) allP0 ?_
                refine seqQ_norm ?_
                refine W_seq (by kernel_rfl) ?_
                refine W_cond (o := .tmp 22) (b := decide (i1988 < (16 : Int))) (by kernel_rfl) (by kernel_rfl) (fun h1991 => ?_) (fun h1991 => ?_)
                · replace h := stepI_true h1991 h
                  obtain ⟨_, h, rfl⟩ := h
                  refine W_skip [4, 5, 7, 8, 9, 10, 18, 21] [1] (fr' := [(4, aD (.int .u32) x1799), (5, .one (.fn 52 [(1, 0)])), (7, aD (.int .u32) x679.1), (8, aI i1798), (9, aB x1989.1), (10, aB x1989.2), (18, aI i1798), (21, aI i1988)]) (L' := [(1, .cells [.dat tI a0])]) (by kernel_rfl) (by kernel_rfl) ?_
                  refine seqQ_norm ?_
                  refine W_seq (by kernel_rfl) ?_
                  refine W_block (id := 5) (by kernel_rfl) ?_
                  refine W_seq (by kernel_rfl) ?_
                  refine W_run 2 [] [4, 5, 7, 8, 9, 10, 11, 18, 21] [1] (fr' := [(4, aD (.int .u32) x1799), (5, .one (.fn 52 [(1, 0)])), (7, aD (.int .u32) x679.1), (8, aI i1798), (9, aB x1989.1), (10, aB x1989.2), (11, aI i1988), (18, aI i1798), (21, aI i1988)]) (L' := [(1, .cells [.dat tI a0])]) (obs := []) (by kernel_rfl) (by kernel_rfl) (by kernel_rfl) allP0 ?_
                  refine seqQ_norm ?_
                  refine W_seq (by kernel_rfl) ?_
                  obtain ⟨v2007, h2008, h⟩ := bind_of h
                  refine W_cutK (Q' := (exQ .normal (cell_Single_s235 a0 x679 i1798 x1799 i1988 x1989)) v2007) ?_ ?_
                  · replace h := h2008
                    refine W_region (by kernel_rfl) ?_
                    refine WO_run (j := 2) (k := 2) (orcs := []) (kF := [4, 5, 7, 8, 9, 10, 11, 18, 21, 25]) (kL := [1]) (fr' := [(4, aD (.int .u32) x1799), (5, .one (.fn 52 [(1, 0)])), (7, aD (.int .u32) x679.1), (8, aI i1798), (9, aB x1989.1), (10, aB x1989.2), (11, aI i1988), (18, aI i1798), (21, aI i1988), (25, aB x1989.1)]) (L' := [(1, .cells [.dat tI a0])]) (obs := []) rfl (by kernel_rfl) allP0 ?_
                    rcases Bool.eq_false_or_eq_true (x1989.1) with h2002 | h2002
                    · replace h := ofT h2002 h
                      refine WO_run (j := 15) (k := 13) (orcs := [(4, .known true), (6, .known true), (8, .known true), (10, .known true), (12, .known true), (14, .known true), (16, .known true), (18, .known true), (20, .known true), (22, .known true), (24, .known true), (27, .val (.dat .bool true))]) (kF := [4, 5, 7, 8, 9, 10, 11, 18, 21]) (kL := [1]) (fr' := [(4, aD (.int .u32) x1799), (5, .one (.fn 52 [(1, 0)])), (7, aD (.int .u32) x679.1), (8, aI i1798), (9, aB true), (10, aB x1989.2), (11, aI i1988), (18, aI i1798), (21, aI i1988)]) (L' := [(1, .cells [.dat tI a0])]) (obs := [(x1989.1 = true), (x1989.1 = true), (x1989.1 = true), (x1989.1 = true), (x1989.1 = true), (x1989.1 = true), (x1989.1 = true), (x1989.1 = true)]) rfl (by kernel_rfl) (allP2 h2002 (allP2 h2002 (allP2 h2002 (allP2 h2002 (allP2 h2002 (allP2 h2002 (allP2 h2002 (allP1 h2002)))))))) ?_
                      obtain rfl := Option.some.inj h
                      refine WO_fin [4, 5, 7, 8, 9, 10, 11, 18, 21] [1] (fr' := [(4, aD (.int .u32) x1799), (5, .one (.fn 52 [(1, 0)])), (7, aD (.int .u32) x679.1), (8, aI i1798), (9, aB true), (10, aB x1989.2), (11, aI i1988), (18, aI i1798), (21, aI i1988)]) (L' := [(1, .cells [.dat tI a0])]) (by kernel_rfl) (by kernel_rfl) ?_
                      exact exQ_mk (by kernel_rfl) (by kernel_rfl)
                    · replace h := ofF h2002 h
                      obtain ⟨_, h2003, h⟩ := bind_of h
                      replace h2003 := ck_some h2003
                      refine WO_run (j := 8) (k := 6) (orcs := [(4, .known false), (6, .known false), (8, .known false), (10, .known false), (12, .known false), (14, .known false)]) (kF := [4, 5, 7, 8, 9, 10, 11, 18, 21, 25, 31]) (kL := [1]) (fr' := [(4, aD (.int .u32) x1799), (5, .one (.fn 52 [(1, 0)])), (7, aD (.int .u32) x679.1), (8, aI i1798), (9, aB x1989.1), (10, aB x1989.2), (11, aI i1988), (18, aI i1798), (21, aI i1988), (25, aB x1989.1), (31, aB ((bAnd .u32 (bShr .u32 x1799 i1988) (1 : Int)) == (1 : Int)))]) (L' := [(1, .cells [.dat tI a0])]) (obs := [(x1989.1 = false), (x1989.1 = false), (x1989.1 = false), (0 ≤ i1988), (x1989.1 = false), (x1989.1 = false), (x1989.1 = false)]) rfl (by kernel_rfl) (allP2 h2002 (allP2 h2002 (allP2 h2002 (allP2 h2003 (allP2 h2002 (allP2 h2002 (allP1 h2002))))))) ?_
                      rcases Bool.eq_false_or_eq_true ((bAnd .u32 (bShr .u32 x1799 i1988) (1 : Int)) == (1 : Int)) with h2004 | h2004
                      · replace h := ofT h2004 h
                        refine WO_run (j := 11) (k := 3) (orcs := [(16, .known true), (18, .known true), (20, .known true)]) (kF := [4, 5, 7, 8, 9, 10, 11, 18, 21, 25, 31, 32, 33, 34]) (kL := [1]) (fr' := [(4, aD (.int .u32) x1799), (5, .one (.fn 52 [(1, 0)])), (7, aD (.int .u32) x679.1), (8, aI i1798), (9, aB x1989.1), (10, aB x1989.2), (11, aI i1988), (18, aI i1798), (21, aI i1988), (25, aB x1989.1), (31, aB ((bAnd .u32 (bShr .u32 x1799 i1988) (1 : Int)) == (1 : Int))), (32, .one (.fn 52 [(1, 0)])), (33, aI i1988), (34, aI i1798)]) (L' := [(1, .cells [.dat tI a0])]) (obs := [(((bAnd .u32 (bShr .u32 x1799 i1988) (1 : Int)) == (1 : Int)) = true), (((bAnd .u32 (bShr .u32 x1799 i1988) (1 : Int)) == (1 : Int)) = true), (((bAnd .u32 (bShr .u32 x1799 i1988) (1 : Int)) == (1 : Int)) = true)]) rfl (by kernel_rfl) (allP2 h2004 (allP2 h2004 (allP1 h2004))) ?_
                        obtain ⟨r2005, h2006, h⟩ := bind_of h
                        refine WO_lend [(1000, 1)] (us := [none, none, none]) (d := 35) (p := (((bAnd .u32 (bShr .u32 x1799 i1988) (1 : Int)) == (1 : Int)) = true)) (j := 12) rfl ⟨by kernel_rfl, by kernel_rfl, by kernel_rfl⟩ h2004 (cell_Single_1_ok h2006) (by kernel_rfl) (by kernel_rfl) ?_
                        refine WO_run (j := 15) (k := 3) (orcs := [(24, .known false), (25, .val (.dat .bool true)), (27, .val (.dat .bool false))]) (kF := [4, 5, 7, 8, 9, 10, 11, 18, 21]) (kL := [1]) (fr' := [(4, aD (.int .u32) x1799), (5, .one (.fn 52 [(1, 0)])), (7, aD (.int .u32) x679.1), (8, aI i1798), (9, aB r2005), (10, aB x1989.2), (11, aI i1988), (18, aI i1798), (21, aI i1988)]) (L' := [(1, .cells [.dat tI a0])]) (obs := [(x1989.1 = false), (((bAnd .u32 (bShr .u32 x1799 i1988) (1 : Int)) == (1 : Int)) = true), (x1989.1 = false)]) rfl (by kernel_rfl) (allP2 h2002 (allP2 h2004 (allP1 h2002))) ?_
                        obtain rfl := Option.some.inj h
                        refine WO_fin [4, 5, 7, 8, 9, 10, 11, 18, 21] [1] (fr' := [(4, aD (.int .u32) x1799), (5, .one (.fn 52 [(1, 0)])), (7, aD (.int .u32) x679.1), (8, aI i1798), (9, aB r2005), (10, aB x1989.2), (11, aI i1988), (18, aI i1798), (21, aI i1988)]) (L' := [(1, .cells [.dat tI a0])]) (by kernel_rfl) (by kernel_rfl) ?_
                        exact exQ_mk (by kernel_rfl) (by kernel_rfl)
                      · replace h := ofF h2004 h
                        refine WO_run (j := 15) (k := 7) (orcs := [(16, .known false), (18, .known false), (20, .known false), (22, .known false), (24, .known false), (25, .val (.dat .bool false)), (27, .val (.dat .bool false))]) (kF := [4, 5, 7, 8, 9, 10, 11, 18, 21]) (kL := [1]) (fr' := [(4, aD (.int .u32) x1799), (5, .one (.fn 52 [(1, 0)])), (7, aD (.int .u32) x679.1), (8, aI i1798), (9, aB false), (10, aB x1989.2), (11, aI i1988), (18, aI i1798), (21, aI i1988)]) (L' := [(1, .cells [.dat tI a0])]) (obs := [(((bAnd .u32 (bShr .u32 x1799 i1988) (1 : Int)) == (1 : Int)) = false), (((bAnd .u32 (bShr .u32 x1799 i1988) (1 : Int)) == (1 : Int)) = false), (((bAnd .u32 (bShr .u32 x1799 i1988) (1 : Int)) == (1 : Int)) = false), (((bAnd .u32 (bShr .u32 x1799 i1988) (1 : Int)) == (1 : Int)) = false), (x1989.1 = false), (((bAnd .u32 (bShr .u32 x1799 i1988) (1 : Int)) == (1 : Int)) = false), (x1989.1 = false)]) rfl (by kernel_rfl) (allP2 h2004 (allP2 h2004 (allP2 h2004 (allP2 h2004 (allP2 h2002 (allP2 h2004 (allP1 h2002))))))) ?_
                        obtain rfl := Option.some.inj h
                        refine WO_fin [4, 5, 7, 8, 9, 10, 11, 18, 21] [1] (fr' := [(4, aD (.int .u32) x1799), (5, .one (.fn 52 [(1, 0)])), (7, aD (.int .u32) x679.1), (8, aI i1798), (9, aB false), (10, aB x1989.2), (11, aI i1988), (18, aI i1798), (21, aI i1988)]) (L' := [(1, .cells [.dat tI a0])]) (by kernel_rfl) (by kernel_rfl) ?_
                        exact exQ_mk (by kernel_rfl) (by kernel_rfl)
                  · intro e fr L hJ
                    obtain ⟨rfl, rfl, rfl⟩ := hJ
                    refine LT_keep [4, 5, 7, 8, 9, 10, 11, 18, 21] [1] (fr' := [(4, aD (.int .u32) x1799), (5, .one (.fn 52 [(1, 0)])), (7, aD (.int .u32) x679.1), (8, aI i1798), (9, aB v2007), (10, aB x1989.2), (11, aI i1988), (18, aI i1798), (21, aI i1988)]) (L' := [(1, .cells [.dat tI a0])]) (by kernel_rfl) ?_
                    refine seqQ_norm ?_
                    refine W_region (by kernel_rfl) ?_
                    refine WO_run (j := 2) (k := 2) (orcs := []) (kF := [4, 5, 7, 8, 9, 10, 11, 18, 21, 39]) (kL := [1]) (fr' := [(4, aD (.int .u32) x1799), (5, .one (.fn 52 [(1, 0)])), (7, aD (.int .u32) x679.1), (8, aI i1798), (9, aB v2007), (10, aB x1989.2), (11, aI i1988), (18, aI i1798), (21, aI i1988), (39, aB x1989.2)]) (L' := [(1, .cells [.dat tI a0])]) (obs := []) rfl (by kernel_rfl) allP0 ?_
                    rcases Bool.eq_false_or_eq_true (x1989.2) with h2009 | h2009
                    · replace h := ofT h2009 h
                      refine WO_run (j := 15) (k := 13) (orcs := [(4, .known true), (6, .known true), (8, .known true), (10, .known true), (12, .known true), (14, .known true), (16, .known true), (18, .known true), (20, .known true), (22, .known true), (24, .known true), (27, .val (.dat .bool true))]) (kF := [4, 5, 7, 8, 9, 10, 18, 21]) (kL := [1]) (fr' := [(4, aD (.int .u32) x1799), (5, .one (.fn 52 [(1, 0)])), (7, aD (.int .u32) x679.1), (8, aI i1798), (9, aB v2007), (10, aB true), (18, aI i1798), (21, aI i1988)]) (L' := [(1, .cells [.dat tI a0])]) (obs := [(x1989.2 = true), (x1989.2 = true), (x1989.2 = true), (x1989.2 = true), (x1989.2 = true), (x1989.2 = true), (x1989.2 = true), (x1989.2 = true)]) rfl (by kernel_rfl) (allP2 h2009 (allP2 h2009 (allP2 h2009 (allP2 h2009 (allP2 h2009 (allP2 h2009 (allP2 h2009 (allP1 h2009)))))))) ?_
                      refine WO_fin [4, 5, 7, 8, 9, 10, 18, 21] [1] (fr' := [(4, aD (.int .u32) x1799), (5, .one (.fn 52 [(1, 0)])), (7, aD (.int .u32) x679.1), (8, aI i1798), (9, aB v2007), (10, aB true), (18, aI i1798), (21, aI i1988)]) (L' := [(1, .cells [.dat tI a0])]) (by kernel_rfl) (by kernel_rfl) ?_
                      refine blockQ_norm ?_
                      refine seqQ_norm ?_
                      obtain rfl := Option.some.inj h
                      refine W_run 2 [] [4, 5, 7, 8, 9, 10, 18, 21] [1] (fr' := [(4, aD (.int .u32) x1799), (5, .one (.fn 52 [(1, 0)])), (7, aD (.int .u32) x679.1), (8, aI i1798), (9, aB v2007), (10, aB true), (18, aI i1798), (21, aI (w64 (i1988 + (1 : Int))))]) (L' := [(1, .cells [.dat tI a0])]) (obs := []) (by kernel_rfl) (by kernel_rfl) (by kernel_rfl) allP0 ?_
                      exact round_next' (by kernel_rfl) (by kernel_rfl)
                    · replace h := ofF h2009 h
                      obtain ⟨_, h2010, h⟩ := bind_of h
                      replace h2010 := ck_some h2010
                      refine WO_run (j := 8) (k := 6) (orcs := [(4, .known false), (6, .known false), (8, .known false), (10, .known false), (12, .known false), (14, .known false)]) (kF := [4, 5, 7, 8, 9, 10, 11, 18, 21, 39, 45]) (kL := [1]) (fr' := [(4, aD (.int .u32) x1799), (5, .one (.fn 52 [(1, 0)])), (7, aD (.int .u32) x679.1), (8, aI i1798), (9, aB v2007), (10, aB x1989.2), (11, aI i1988), (18, aI i1798), (21, aI i1988), (39, aB x1989.2), (45, aB ((bAnd .u32 (bShr .u32 x1799 i1988) (1 : Int)) == (1 : Int)))]) (L' := [(1, .cells [.dat tI a0])]) (obs := [(x1989.2 = false), (x1989.2 = false), (x1989.2 = false), (0 ≤ i1988), (x1989.2 = false), (x1989.2 = false), (x1989.2 = false)]) rfl (by kernel_rfl) (allP2 h2009 (allP2 h2009 (allP2 h2009 (allP2 h2010 (allP2 h2009 (allP2 h2009 (allP1 h2009))))))) ?_
                      rcases Bool.eq_false_or_eq_true ((bAnd .u32 (bShr .u32 x1799 i1988) (1 : Int)) == (1 : Int)) with h2011 | h2011
                      · replace h := ofT h2011 h
                        refine WO_run (j := 11) (k := 3) (orcs := [(16, .known true), (18, .known true), (20, .known true)]) (kF := [4, 5, 7, 8, 9, 10, 18, 21, 39, 45, 46, 47, 48]) (kL := [1]) (fr' := [(4, aD (.int .u32) x1799), (5, .one (.fn 52 [(1, 0)])), (7, aD (.int .u32) x679.1), (8, aI i1798), (9, aB v2007), (10, aB x1989.2), (18, aI i1798), (21, aI i1988), (39, aB x1989.2), (45, aB ((bAnd .u32 (bShr .u32 x1799 i1988) (1 : Int)) == (1 : Int))), (46, .one (.fn 52 [(1, 0)])), (47, aI i1798), (48, aI i1988)]) (L' := [(1, .cells [.dat tI a0])]) (obs := [(((bAnd .u32 (bShr .u32 x1799 i1988) (1 : Int)) == (1 : Int)) = true), (((bAnd .u32 (bShr .u32 x1799 i1988) (1 : Int)) == (1 : Int)) = true), (((bAnd .u32 (bShr .u32 x1799 i1988) (1 : Int)) == (1 : Int)) = true)]) rfl (by kernel_rfl) (allP2 h2011 (allP2 h2011 (allP1 h2011))) ?_
                        obtain ⟨r2012, h2013, h⟩ := bind_of h
                        refine WO_lend [(1000, 1)] (us := [none, none, none]) (d := 49) (p := (((bAnd .u32 (bShr .u32 x1799 i1988) (1 : Int)) == (1 : Int)) = true)) (j := 12) rfl ⟨by kernel_rfl, by kernel_rfl, by kernel_rfl⟩ h2011 (cell_Single_1_ok h2013) (by kernel_rfl) (by kernel_rfl) ?_
                        refine WO_run (j := 15) (k := 3) (orcs := [(24, .known false), (25, .val (.dat .bool true)), (27, .val (.dat .bool false))]) (kF := [4, 5, 7, 8, 9, 10, 18, 21]) (kL := [1]) (fr' := [(4, aD (.int .u32) x1799), (5, .one (.fn 52 [(1, 0)])), (7, aD (.int .u32) x679.1), (8, aI i1798), (9, aB v2007), (10, aB r2012), (18, aI i1798), (21, aI i1988)]) (L' := [(1, .cells [.dat tI a0])]) (obs := [(x1989.2 = false), (((bAnd .u32 (bShr .u32 x1799 i1988) (1 : Int)) == (1 : Int)) = true), (x1989.2 = false)]) rfl (by kernel_rfl) (allP2 h2009 (allP2 h2011 (allP1 h2009))) ?_
                        refine WO_fin [4, 5, 7, 8, 9, 10, 18, 21] [1] (fr' := [(4, aD (.int .u32) x1799), (5, .one (.fn 52 [(1, 0)])), (7, aD (.int .u32) x679.1), (8, aI i1798), (9, aB v2007), (10, aB r2012), (18, aI i1798), (21, aI i1988)]) (L' := [(1, .cells [.dat tI a0])]) (by kernel_rfl) (by kernel_rfl) ?_
                        refine blockQ_norm ?_
                        refine seqQ_norm ?_
                        obtain rfl := Option.some.inj h
                        refine W_run 2 [] [4, 5, 7, 8, 9, 10, 18, 21] [1] (fr' := [(4, aD (.int .u32) x1799), (5, .one (.fn 52 [(1, 0)])), (7, aD (.int .u32) x679.1), (8, aI i1798), (9, aB v2007), (10, aB r2012), (18, aI i1798), (21, aI (w64 (i1988 + (1 : Int))))]) (L' := [(1, .cells [.dat tI a0])]) (obs := []) (by kernel_rfl) (by kernel_rfl) (by kernel_rfl) allP0 ?_
                        exact round_next' (by kernel_rfl) (by kernel_rfl)
                      · replace h := ofF h2011 h
                        refine WO_run (j := 15) (k := 7) (orcs := [(16, .known false), (18, .known false), (20, .known false), (22, .known false), (24, .known false), (25, .val (.dat .bool false)), (27, .val (.dat .bool false))]) (kF := [4, 5, 7, 8, 9, 10, 18, 21]) (kL := [1]) (fr' := [(4, aD (.int .u32) x1799), (5, .one (.fn 52 [(1, 0)])), (7, aD (.int .u32) x679.1), (8, aI i1798), (9, aB v2007), (10, aB false), (18, aI i1798), (21, aI i1988)]) (L' := [(1, .cells [.dat tI a0])]) (obs := [(((bAnd .u32 (bShr .u32 x1799 i1988) (1 : Int)) == (1 : Int)) = false), (((bAnd .u32 (bShr .u32 x1799 i1988) (1 : Int)) == (1 : Int)) = false), (((bAnd .u32 (bShr .u32 x1799 i1988) (1 : Int)) == (1 : Int)) = false), (((bAnd .u32 (bShr .u32 x1799 i1988) (1 : Int)) == (1 : Int)) = false), (x1989.2 = false), (((bAnd .u32 (bShr .u32 x1799 i1988) (1 : Int)) == (1 : Int)) = false), (x1989.2 = false)]) rfl (by kernel_rfl) (allP2 h2011 (allP2 h2011 (allP2 h2011 (allP2 h2011 (allP2 h2009 (allP2 h2011 (allP1 h2009))))))) ?_
                        refine WO_fin [4, 5, 7, 8, 9, 10, 18, 21] [1] (fr' := [(4, aD (.int .u32) x1799), (5, .one (.fn 52 [(1, 0)])), (7, aD (.int .u32) x679.1), (8, aI i1798), (9, aB v2007), (10, aB false), (18, aI i1798), (21, aI i1988)]) (L' := [(1, .cells [.dat tI a0])]) (by kernel_rfl) (by kernel_rfl) ?_
                        refine blockQ_norm ?_
                        refine seqQ_norm ?_
                        obtain rfl := Option.some.inj h
                        refine W_run 2 [] [4, 5, 7, 8, 9, 10, 18, 21] [1] (fr' := [(4, aD (.int .u32) x1799), (5, .one (.fn 52 [(1, 0)])), (7, aD (.int .u32) x679.1), (8, aI i1798), (9, aB v2007), (10, aB false), (18, aI i1798), (21, aI (w64 (i1988 + (1 : Int))))]) (L' := [(1, .cells [.dat tI a0])]) (obs := []) (by kernel_rfl) (by kernel_rfl) (by kernel_rfl) allP0 ?_
                        exact round_next' (by kernel_rfl) (by kernel_rfl)
                · obtain rfl := stepI_false h1991 h
                  refine W_exit (id := 4) [4, 5, 7, 8, 9, 10, 18] [1] (fr' := [(4, aD (.int .u32) x1799), (5, .one (.fn 52 [(1, 0)])), (7, aD (.int .u32) x679.1), (8, aI i1798), (9, aB x1989.1), (10, aB x1989.2), (18, aI i1798)]) (L' := [(1, .cells [.dat tI a0])]) (by kernel_rfl) (by kernel_rfl) ?_
                  refine seqQ_exit ?_
                  refine round_exit ?_
                  exact exQ_mk (by kernel_rfl) (by kernel_rfl)
              · intro e fr L hJ
                obtain ⟨rfl, rfl, rfl⟩ := hJ
                refine LT_keep [4, 5, 7, 8, 9, 10, 18] [1] (fr' := [(4, aD (.int .u32) x1799), (5, .one (.fn 52 [(1, 0)])), (7, aD (.int .u32) x679.1), (8, aI i1798), (9, aB v2015.1), (10, aB v2015.2), (18, aI i1798)]) (L' := [(1, .cells [.dat tI a0])]) (by kernel_rfl) ?_
                refine blockQ_hit ?_
                refine seqQ_norm ?_
                refine W_seq (by kernel_rfl) ?_
                refine W_run 6 [] [4, 5, 7, 8, 18, 58] [1] (fr' := [(4, aD (.int .u32) x1799), (5, .one (.fn 52 [(1, 0)])), (7, aD (.int .u32) x679.1), (8, aI i1798), (18, aI i1798), (58, aB ((!v2015.1) || (!v2015.2)))]) (L' := [(1, .cells [.dat tI a0])]) (obs := []) (by kernel_rfl) (by kernel_rfl) (by kernel_rfl) allP0 ?_
                refine seqQ_norm ?_
                refine W_cond (o := .tmp 58) (b := (!v2015.1) || (!v2015.2)) (by kernel_rfl) (by kernel_rfl) (fun h2019 => ?_) (fun h2019 => ?_)
                · replace h := ofT h2019 h
                  obtain ⟨_, h2020, h⟩ := bind_of h
                  replace h2020 := ck_some h2020
                  obtain rfl := Option.some.inj h
                  refine W_run 5 [] [4, 5, 7, 18] [1] (fr' := [(4, aD (.int .u32) (bClr .u32 x1799 (bShl .u32 (1 : Int) i1798))), (5, .one (.fn 52 [(1, 0)])), (7, aD (.int .u32) x679.1), (18, aI i1798)]) (L' := [(1, .cells [.dat tI a0])]) (obs := [(0 ≤ i1798)]) (by kernel_rfl) (by kernel_rfl) (by kernel_rfl) (allP1 h2020) ?_
                  refine blockQ_norm ?_
                  exact exQ_mk (by kernel_rfl) (by kernel_rfl)
                · replace h := ofF h2019 h
                  obtain rfl := Option.some.inj h
                  refine W_skip [4, 5, 7, 18] [1] (fr' := [(4, aD (.int .u32) x1799), (5, .one (.fn 52 [(1, 0)])), (7, aD (.int .u32) x679.1), (18, aI i1798)]) (L' := [(1, .cells [.dat tI a0])]) (by kernel_rfl) (by kernel_rfl) ?_
                  refine blockQ_norm ?_
                  exact exQ_mk (by kernel_rfl) (by kernel_rfl)
            · intro e fr L hJ
              obtain ⟨rfl, rfl, rfl⟩ := hJ
              refine LT_keep [4, 5, 7, 18] [1] (fr' := [(4, aD (.int .u32) v2021), (5, .one (.fn 52 [(1, 0)])), (7, aD (.int .u32) x679.1), (18, aI i1798)]) (L' := [(1, .cells [.dat tI a0])]) (by kernel_rfl) ?_
              refine seqQ_norm ?_
              obtain rfl := Option.some.inj h
              refine W_run 2 [] [4, 5, 7, 18] [1] (fr' := [(4, aD (.int .u32) v2021), (5, .one (.fn 52 [(1, 0)])), (7, aD (.int .u32) x679.1), (18, aI (w64 (i1798 + (1 : Int))))]) (L' := [(1, .cells [.dat tI a0])]) (obs := []) (by kernel_rfl) (by kernel_rfl) (by kernel_rfl) allP0 ?_
              exact round_next' (by kernel_rfl) (by kernel_rfl)
          · obtain rfl := stepI_false h1801 h
            refine W_exit (id := 2) [4, 5, 7] [1] (fr' := [(4, aD (.int .u32) x1799), (5, .one (.fn 52 [(1, 0)])), (7, aD (.int .u32) x679.1)]) (L' := [(1, .cells [.dat tI a0])]) (by kernel_rfl) (by kernel_rfl) ?_
            refine seqQ_exit ?_
            refine round_exit ?_
            exact exQ_mk (by kernel_rfl) (by kernel_rfl)
        · intro e fr L hJ
          obtain ⟨rfl, rfl, rfl⟩ := hJ
          refine LT_keep [4, 5, 7] [1] (fr' := [(4, aD (.int .u32) v2024), (5, .one (.fn 52 [(1, 0)])), (7, aD (.int .u32) x679.1)]) (L' := [(1, .cells [.dat tI a0])]) (by kernel_rfl) ?_
          refine blockQ_hit ?_
          refine seqQ_norm ?_
          obtain rfl := Option.some.inj h
          refine W_run 4 [] [4, 5, 6] [1] (fr' := [(4, aD (.int .u32) v2024), (5, .one (.fn 52 [(1, 0)])), (6, aB (v2024 != x679.1))]) (L' := [(1, .cells [.dat tI a0])]) (obs := []) (by kernel_rfl) (by kernel_rfl) (by kernel_rfl) allP0 ?_
          refine blockQ_norm ?_
          exact round_next' (by kernel_rfl) (by kernel_rfl)
      · replace h := ofF h1354 h
        obtain rfl := Option.some.inj h
        refine W_exit (id := 0) [4] [] (fr' := [(4, aD (.int .u32) x679.1)]) (L' := []) (by kernel_rfl) (by kernel_rfl) ?_
        refine seqQ_exit ?_
        refine round_exit ?_
        exact exQ_mk (by kernel_rfl) (by kernel_rfl)
    · intro e fr L hJ
      obtain ⟨rfl, rfl, rfl⟩ := hJ
      refine LT_keep [4] [] (fr' := [(4, aD (.int .u32) v2028)]) (L' := []) (by kernel_rfl) ?_
      refine blockQ_hit ?_
      refine seqQ_norm ?_
      refine W_seq (by kernel_rfl) ?_
      refine W_seq (by kernel_rfl) ?_
      refine W_run 1 [] [4, 67] [] (fr' := [(4, aD (.int .u32) v2028), (67, aI (0 : Int))]) (L' := []) (obs := []) (by kernel_rfl) (by kernel_rfl) (by kernel_rfl) allP0 ?_
      refine seqQ_norm ?_
      refine W_block (id := 6) (by kernel_rfl) ?_
      obtain ⟨v2046, h2047, h⟩ := bind_of h
      obtain ⟨h2048, h2049⟩ := forI_iter h2047
      refine W_weaken [4, 67] [] (fr' := ((cell_Single_s248 v2028) ((0 : Int), ())).1) (L' := ((cell_Single_s248 v2028) ((0 : Int), ())).2) (by kernel_rfl) ?_
      refine W_cutK (W_loop (S := (cell_Single_s248 v2028)) (J := (escQ (exQ .ret cell_Single_s249) (exQ (.exit 6) cell_Single_s250))) (by kernel_rfl) ?_ h2048 _ v2046 h2049) ?_
      · rintro ⟨i2039, x2040⟩ s h
        refine W_seq (by kernel_rfl) ?_
        refine W_run 1 [] [4, 67, 68] [] (fr' := [(4, aD (.int .u32) v2028), (67, aI i2039), (68, aB (decide (i2039 < (16 : Int))))]) (L' := []) (obs := []) (by kernel_rfl) (by kernel_rfl) (by kernel_rfl) allP0 ?_
        refine seqQ_norm ?_
        refine W_seq (by kernel_rfl) ?_
        refine W_cond (o := .tmp 68) (b := decide (i2039 < (16 : Int))) (by kernel_rfl) (by kernel_rfl) (fun h2042 => ?_) (fun h2042 => ?_)
        · replace h := stepI_true h2042 h
          obtain ⟨_, h, rfl⟩ := h
          refine W_skip [4, 67] [] (fr' := [(4, aD (.int .u32) v2028), (67, aI i2039)]) (L' := []) (by kernel_rfl) (by kernel_rfl) ?_
          refine seqQ_norm ?_
          refine W_seq (by kernel_rfl) ?_
          refine W_block (id := 7) (by kernel_rfl) ?_
          refine W_seq (by kernel_rfl) ?_
          refine W_run 2 [] [4, 12, 67] [] (fr' := [(4, aD (.int .u32) v2028), (12, aI i2039), (67, aI i2039)]) (L' := []) (obs := []) (by kernel_rfl) (by kernel_rfl) (by kernel_rfl) allP0 ?_
          refine seqQ_norm ?_
          refine W_seq (by kernel_rfl) ?_
          obtain ⟨_, h2043, h⟩ := bind_of h
          replace h2043 := ck_some h2043
          refine W_run 12 [] [4, 67, 81] [] (fr' := [(4, aD (.int .u32) v2028), (67, aI i2039), (81, aB (((bAnd .u32 (bShr .u32 v2028 i2039) (1 : Int)) == (1 : Int)) && ((bShr .i64 i2039 (2 : Int)) != (bAnd .i64 i2039 (3 : Int)))))]) (L' := []) (obs := [(0 ≤ i2039), (0 ≤ (2 : Int))]) (by kernel_rfl) (by kernel_rfl) (by kernel_rfl) (allP2 h2043 (allP1 (by decide))) ?_
          refine seqQ_norm ?_
          refine W_cond (o := .tmp 81) (b := ((bAnd .u32 (bShr .u32 v2028 i2039) (1 : Int)) == (1 : Int)) && ((bShr .i64 i2039 (2 : Int)) != (bAnd .i64 i2039 (3 : Int)))) (by kernel_rfl) (by kernel_rfl) (fun h2044 => ?_) (fun h2044 => ?_)
          · replace h := ofT h2044 h
            refine W_seq (by kernel_rfl) ?_
            refine W_run 2 [] [2, 3] [] (fr' := [(2, aB false), (3, aI (0 : Int))]) (L' := []) (obs := []) (by kernel_rfl) (by kernel_rfl) (by kernel_rfl) allP0 ?_
            refine seqQ_norm ?_
            obtain rfl := Option.some.inj h
            refine W_ret [2, 3] [] (fr' := [(2, aB false), (3, aI (0 : Int))]) (L' := []) (by kernel_rfl) (by kernel_rfl) ?_
            refine blockQ_ret ?_
            refine seqQ_ret ?_
            refine round_ret ?_
            refine escQ_ret ?_
            exact exQ_mk (by kernel_rfl) (by kernel_rfl)
          · replace h := ofF h2044 h
            refine W_skip [4, 67] [] (fr' := [(4, aD (.int .u32) v2028), (67, aI i2039)]) (L' := []) (by kernel_rfl) (by kernel_rfl) ?_
            refine blockQ_norm ?_
            refine seqQ_norm ?_
            obtain rfl := Option.some.inj h
            refine W_run 2 [] [4, 67] [] (fr' := [(4, aD (.int .u32) v2028), (67, aI (w64 (i2039 + (1 : Int))))]) (L' := []) (obs := []) (by kernel_rfl) (by kernel_rfl) (by kernel_rfl) allP0 ?_
            exact round_next' (by kernel_rfl) (by kernel_rfl)
        · obtain rfl := stepI_false h2042 h
          refine W_exit (id := 6) [] [] (fr' := []) (L' := []) (by kernel_rfl) (by kernel_rfl) ?_
          refine seqQ_exit ?_
          refine round_exit ?_
          refine escQ_brk ?_
          exact exQ_mk (by kernel_rfl) (by kernel_rfl)
      · intro e fr L hJ
        rcases v2046 with v2050 | v2051
        · obtain ⟨rfl, rfl, rfl⟩ := hJ
          obtain rfl := Option.some.inj h
          refine LT_keep [2, 3] [] (fr' := [(2, aB v2050.1), (3, aI v2050.2)]) (L' := []) (by kernel_rfl) ?_
          refine blockQ_ret ?_
          refine seqQ_ret ?_
          exact retQ_mk (by kernel_rfl) (by kernel_rfl) (by kernel_rfl)
        · obtain ⟨rfl, rfl, rfl⟩ := hJ
          refine LT_keep [] [] (fr' := []) (L' := []) (by kernel_rfl) ?_
          refine blockQ_hit ?_
          refine seqQ_norm ?_
          refine W_seq (by kernel_rfl) ?_
          refine W_run 2 [] [2, 3] [] (fr' := [(2, aB true), (3, aI (0 : Int))]) (L' := []) (obs := []) (by kernel_rfl) (by kernel_rfl) (by kernel_rfl) allP0 ?_
          refine seqQ_norm ?_
          obtain rfl := Option.some.inj h
          refine W_ret [2, 3] [] (fr' := [(2, aB true), (3, aI (0 : Int))]) (L' := []) (by kernel_rfl) (by kernel_rfl) ?_
          exact retQ_mk (by kernel_rfl) (by kernel_rfl) (by kernel_rfl)

def ref_Within (a0 : Int) (a1 : Int) (a2 : Int) : Option Bool :=
some ((decide (a0 ≤ a1)) && (decide (a1 ≤ a2)))
theorem ref_Within_ok {a0 : Int} {a1 : Int} {a2 : Int} {r : Bool} (h : ref_Within a0 a1 a2 = some r) : FnC Try.prog 37 [aI a0, aI a1, aI a2] [] (aB r) [] := by
  refine fnC_of_W (B := bodyOf Try.f37) (n := 15) Try.func37 (by kernel_rfl) (by kernel_rfl) (by kernel_rfl) (by kernel_rfl) (by kernel_rfl) ?_
  intro K
  refine W_seq (by kernel_rfl) ?_
  refine W_run 1 [] [0, 1, 2] [] (fr' := [(0, aI a0), (1, aI a1), (2, aI a2)]) (L' := []) (obs := []) (by kernel_rfl) (by kernel_rfl) (by kernel_rfl) allP0 ?_
  refine seqQ_norm ?_
  refine W_seq (by kernel_rfl) ?_
  refine W_run 9 [] [6] [] (fr' := [(6, aB ((decide (a0 ≤ a1)) && (decide (a1 ≤ a2))))]) (L' := []) (obs := []) (by kernel_rfl) (by kernel_rfl) (by kernel_rfl) allP0 ?_
  refine seqQ_norm ?_
  obtain rfl := Option.some.inj h
  refine W_ret [6] [] (fr' := [(6, aB ((decide (a0 ≤ a1)) && (decide (a1 ≤ a2))))]) (L' := []) (by kernel_rfl) (by kernel_rfl) ?_
  exact retQ_mk (by kernel_rfl) (by kernel_rfl) (by kernel_rfl)

def law_ruleCode (a0 : Int) : Option Int :=
(ref_Within (0 : Int) a0 (255 : Int)).bind fun r1 =>
bif !r1 then
(some (4 : Int))
else
(some (0 : Int))
theorem law_ruleCode_ok {a0 : Int} {r : Int} (h : law_ruleCode a0 = some r) : FnC Try.prog 16 [aI a0] [] (aI r) [] := by
  refine fnC_of_W (B := bodyOf Try.f16) (n := 6) Try.func16 (by kernel_rfl) (by kernel_rfl) (by kernel_rfl) (by kernel_rfl) (by kernel_rfl) ?_
  intro K
  refine W_seq (by kernel_rfl) ?_
  refine W_run 1 [] [0] [] (fr' := [(0, aI a0)]) (L' := []) (obs := []) (by kernel_rfl) (by kernel_rfl) (by kernel_rfl) allP0 ?_
  refine seqQ_norm ?_
  refine W_seq (by kernel_rfl) ?_
  refine W_seq (by kernel_rfl) ?_
  refine W_region (by kernel_rfl) ?_
  refine WO_run (j := 1) (k := 1) (orcs := []) (kF := [3]) (kL := []) (fr' := [(3, aI a0)]) (L' := []) (obs := []) rfl (by kernel_rfl) allP0 ?_
  obtain ⟨r1, h2, h⟩ := bind_of h
  refine WO_call0 (us := [none, none, none]) (d := 4) (p := True) (j := 2) rfl ⟨by kernel_rfl, by kernel_rfl, by kernel_rfl⟩ trivial (ref_Within_ok h2) (by kernel_rfl) ?_
  refine WO_run (j := 3) (k := 1) (orcs := []) (kF := [5]) (kL := []) (fr' := [(5, aB (!r1))]) (L' := []) (obs := []) rfl (by kernel_rfl) allP0 ?_
  refine WO_fin [5] [] (fr' := [(5, aB (!r1))]) (L' := []) (by kernel_rfl) (by kernel_rfl) ?_
  refine seqQ_norm ?_
  refine W_cond (o := .tmp 5) (b := !r1) (by kernel_rfl) (by kernel_rfl) (fun h3 => ?_) (fun h3 => ?_)
  · replace h := ofT h3 h
    refine W_seq (by kernel_rfl) ?_
    refine W_run 1 [] [2] [] (fr' := [(2, aI (4 : Int))]) (L' := []) (obs := []) (by kernel_rfl) (by kernel_rfl) (by kernel_rfl) allP0 ?_
    refine seqQ_norm ?_
    obtain rfl := Option.some.inj h
    refine W_ret [2] [] (fr' := [(2, aI (4 : Int))]) (L' := []) (by kernel_rfl) (by kernel_rfl) ?_
    refine seqQ_ret ?_
    exact retQ_mk (by kernel_rfl) (by kernel_rfl) (by kernel_rfl)
  · replace h := ofF h3 h
    refine W_skip [] [] (fr' := []) (L' := []) (by kernel_rfl) (by kernel_rfl) ?_
    refine seqQ_norm ?_
    refine W_seq (by kernel_rfl) ?_
    refine W_run 1 [] [2] [] (fr' := [(2, aI (0 : Int))]) (L' := []) (obs := []) (by kernel_rfl) (by kernel_rfl) (by kernel_rfl) allP0 ?_
    refine seqQ_norm ?_
    obtain rfl := Option.some.inj h
    refine W_ret [2] [] (fr' := [(2, aI (0 : Int))]) (L' := []) (by kernel_rfl) (by kernel_rfl) ?_
    exact retQ_mk (by kernel_rfl) (by kernel_rfl) (by kernel_rfl)

def ref_Bit (a0 : Int) (a1 : Int) : Option Bool :=
bif (decide (a1 ≥ (0 : Int))) && (decide (a1 < (63 : Int))) then
((ck (0 ≤ IntKind.wrap .u64 (a1))).bind fun _ =>
some ((bAnd .i64 a0 (bShl .i64 (1 : Int) (IntKind.wrap .u64 (a1)))) != (0 : Int)))
else
(some false)
theorem ref_Bit_ok {a0 : Int} {a1 : Int} {r : Bool} (h : ref_Bit a0 a1 = some r) : FnC Try.prog 51 [aI a0, aI a1] [] (aB r) [] := by
  refine fnC_of_W (B := bodyOf Try.f51) (n := 19) Try.func51 (by kernel_rfl) (by kernel_rfl) (by kernel_rfl) (by kernel_rfl) (by kernel_rfl) ?_
  intro K
  refine W_seq (by kernel_rfl) ?_
  refine W_run 1 [] [0, 1] [] (fr' := [(0, aI a0), (1, aI a1)]) (L' := []) (obs := []) (by kernel_rfl) (by kernel_rfl) (by kernel_rfl) allP0 ?_
  refine seqQ_norm ?_
  refine W_seq (by kernel_rfl) ?_
  refine W_region (by kernel_rfl) ?_
  refine WO_run (j := 7) (k := 7) (orcs := []) (kF := [0, 1, 11]) (kL := []) (fr' := [(0, aI a0), (1, aI a1), (11, aB ((decide (a1 ≥ (0 : Int))) && (decide (a1 < (63 : Int)))))]) (L' := []) (obs := []) rfl (by kernel_rfl) allP0 ?_
  rcases Bool.eq_false_or_eq_true ((decide (a1 ≥ (0 : Int))) && (decide (a1 < (63 : Int)))) with h1 | h1
  · replace h := ofT h1 h
    obtain ⟨_, h2, h⟩ := bind_of h
    replace h2 := ck_some h2
    refine WO_run (j := 15) (k := 8) (orcs := [(14, .known true), (16, .known true), (18, .known true), (20, .known true), (22, .known true), (24, .known true), (27, .val (.dat .bool true))]) (kF := [4]) (kL := []) (fr' := [(4, aB ((bAnd .i64 a0 (bShl .i64 (1 : Int) (IntKind.wrap .u64 (a1)))) != (0 : Int)))]) (L' := []) (obs := [(((decide (a1 ≥ (0 : Int))) && (decide (a1 < (63 : Int)))) = true), (((decide (a1 ≥ (0 : Int))) && (decide (a1 < (63 : Int)))) = true), (((decide (a1 ≥ (0 : Int))) && (decide (a1 < (63 : Int)))) = true), (((decide (a1 ≥ (0 : Int))) && (decide (a1 < (63 : Int)))) = true), (0 ≤ IntKind.wrap .u64 (a1)), (((decide (a1 ≥ (0 : Int))) && (decide (a1 < (63 : Int)))) = true), (((decide (a1 ≥ (0 : Int))) && (decide (a1 < (63 : Int)))) = true), (((decide (a1 ≥ (0 : Int))) && (decide (a1 < (63 : Int)))) = true)]) rfl (by kernel_rfl) (allP2 h1 (allP2 h1 (allP2 h1 (allP2 h1 (allP2 h2 (allP2 h1 (allP2 h1 (allP1 h1)))))))) ?_
    refine WO_fin [4] [] (fr' := [(4, aB ((bAnd .i64 a0 (bShl .i64 (1 : Int) (IntKind.wrap .u64 (a1)))) != (0 : Int)))]) (L' := []) (by kernel_rfl) (by kernel_rfl) ?_
    refine seqQ_norm ?_
    obtain rfl := Option.some.inj h
    refine W_ret [4] [] (fr' := [(4, aB ((bAnd .i64 a0 (bShl .i64 (1 : Int) (IntKind.wrap .u64 (a1)))) != (0 : Int)))]) (L' := []) (by kernel_rfl) (by kernel_rfl) ?_
    exact retQ_mk (by kernel_rfl) (by kernel_rfl) (by kernel_rfl)
  · replace h := ofF h1 h
    refine WO_run (j := 15) (k := 8) (orcs := [(14, .known false), (16, .known false), (18, .known false), (20, .known false), (22, .known false), (24, .known false), (27, .val (.dat .bool false))]) (kF := [4]) (kL := []) (fr' := [(4, aB false)]) (L' := []) (obs := [(((decide (a1 ≥ (0 : Int))) && (decide (a1 < (63 : Int)))) = false), (((decide (a1 ≥ (0 : Int))) && (decide (a1 < (63 : Int)))) = false), (((decide (a1 ≥ (0 : Int))) && (decide (a1 < (63 : Int)))) = false), (((decide (a1 ≥ (0 : Int))) && (decide (a1 < (63 : Int)))) = false), (((decide (a1 ≥ (0 : Int))) && (decide (a1 < (63 : Int)))) = false), (((decide (a1 ≥ (0 : Int))) && (decide (a1 < (63 : Int)))) = false), (((decide (a1 ≥ (0 : Int))) && (decide (a1 < (63 : Int)))) = false)]) rfl (by kernel_rfl) (allP2 h1 (allP2 h1 (allP2 h1 (allP2 h1 (allP2 h1 (allP2 h1 (allP1 h1))))))) ?_
    refine WO_fin [4] [] (fr' := [(4, aB false)]) (L' := []) (by kernel_rfl) (by kernel_rfl) ?_
    refine seqQ_norm ?_
    obtain rfl := Option.some.inj h
    refine W_ret [4] [] (fr' := [(4, aB false)]) (L' := []) (by kernel_rfl) (by kernel_rfl) ?_
    exact retQ_mk (by kernel_rfl) (by kernel_rfl) (by kernel_rfl)

@[reducible] def ref_Truth_s1 (a0 : Int) (v : Int) : Fr × LL := ([(0, aI a0), (9, aI v)], [])
@[reducible] def ref_Truth_s2 (a0 : Int) (a3 : Bool) (v : Int) : Fr × LL := ([(0, aI a0), (3, aB a3), (9, aI v)], [])
@[reducible] def ref_Truth_s3 (a0 : Int) (a2 : Bool) (a3 : Bool) (v : Int) : Fr × LL := ([(0, aI a0), (2, aB a2), (3, aB a3), (9, aI v)], [])
def ref_Truth (a0 : Int) (a1 : Bool) (a2 : Bool) (a3 : Bool) : Option Bool :=
(bif a1 then
(some (4 : Int))
else
(some (0 : Int))).bind fun v4 =>
(bif a2 then
(some (w64 (v4 + (2 : Int))))
else
(some v4)).bind fun v9 =>
(bif a3 then
(some (w64 (v9 + (1 : Int))))
else
(some v9)).bind fun v14 =>
(ref_Bit a0 v14).bind fun r16 =>
some r16
theorem ref_Truth_ok {a0 : Int} {a1 : Bool} {a2 : Bool} {a3 : Bool} {r : Bool} (h : ref_Truth a0 a1 a2 a3 = some r) : FnC Try.prog 50 [aI a0, aB a1, aB a2, aB a3] [] (aB r) [] := by
  refine fnC_of_W (B := bodyOf Try.f50) (n := 22) Try.func50 (by kernel_rfl) (by kernel_rfl) (by kernel_rfl) (by kernel_rfl) (by kernel_rfl) ?_
  intro K
  refine W_seq (by kernel_rfl) ?_
  refine W_run 1 [] [0, 1, 2, 3] [] (fr' := [(0, aI a0), (1, aB a1), (2, aB a2), (3, aB a3)]) (L' := []) (obs := []) (by kernel_rfl) (by kernel_rfl) (by kernel_rfl) allP0 ?_
  refine seqQ_norm ?_
  refine W_seq (by kernel_rfl) ?_
  refine W_run 1 [] [0, 1, 2, 3, 9] [] (fr' := [(0, aI a0), (1, aB a1), (2, aB a2), (3, aB a3), (9, aI (0 : Int))]) (L' := []) (obs := []) (by kernel_rfl) (by kernel_rfl) (by kernel_rfl) allP0 ?_
  refine seqQ_norm ?_
  refine W_seq (by kernel_rfl) ?_
  obtain ⟨v4, h5, h⟩ := bind_of h
  refine W_cutK (Q' := (exQ .normal (ref_Truth_s3 a0 a2 a3)) v4) ?_ ?_
  · replace h := h5
    refine W_seq (by kernel_rfl) ?_
    refine W_run 1 [] [0, 2, 3, 9, 10] [] (fr' := [(0, aI a0), (2, aB a2), (3, aB a3), (9, aI (0 : Int)), (10, aB a1)]) (L' := []) (obs := []) (by kernel_rfl) (by kernel_rfl) (by kernel_rfl) allP0 ?_
    refine seqQ_norm ?_
    refine W_cond (o := .tmp 10) (b := a1) (by kernel_rfl) (by kernel_rfl) (fun h3 => ?_) (fun h3 => ?_)
    · replace h := ofT h3 h
      obtain rfl := Option.some.inj h
      refine W_run 3 [] [0, 2, 3, 9] [] (fr' := [(0, aI a0), (2, aB a2), (3, aB a3), (9, aI (4 : Int))]) (L' := []) (obs := []) (by kernel_rfl) (by kernel_rfl) (by kernel_rfl) allP0 ?_
      exact exQ_mk (by kernel_rfl) (by kernel_rfl)
    · replace h := ofF h3 h
      obtain rfl := Option.some.inj h
      refine W_skip [0, 2, 3, 9] [] (fr' := [(0, aI a0), (2, aB a2), (3, aB a3), (9, aI (0 : Int))]) (L' := []) (by kernel_rfl) (by kernel_rfl) ?_
      exact exQ_mk (by kernel_rfl) (by kernel_rfl)
  · intro e fr L hJ
    obtain ⟨rfl, rfl, rfl⟩ := hJ
    refine LT_keep [0, 2, 3, 9] [] (fr' := [(0, aI a0), (2, aB a2), (3, aB a3), (9, aI v4)]) (L' := []) (by kernel_rfl) ?_
    refine seqQ_norm ?_
    refine W_seq (by kernel_rfl) ?_
    obtain ⟨v9, h10, h⟩ := bind_of h
    refine W_cutK (Q' := (exQ .normal (ref_Truth_s2 a0 a3)) v9) ?_ ?_
    · replace h := h10
      refine W_seq (by kernel_rfl) ?_
      refine W_run 1 [] [0, 3, 9, 13] [] (fr' := [(0, aI a0), (3, aB a3), (9, aI v4), (13, aB a2)]) (L' := []) (obs := []) (by kernel_rfl) (by kernel_rfl) (by kernel_rfl) allP0 ?_
      refine seqQ_norm ?_
      refine W_cond (o := .tmp 13) (b := a2) (by kernel_rfl) (by kernel_rfl) (fun h8 => ?_) (fun h8 => ?_)
      · replace h := ofT h8 h
        obtain rfl := Option.some.inj h
        refine W_run 3 [] [0, 3, 9] [] (fr' := [(0, aI a0), (3, aB a3), (9, aI (w64 (v4 + (2 : Int))))]) (L' := []) (obs := []) (by kernel_rfl) (by kernel_rfl) (by kernel_rfl) allP0 ?_
        exact exQ_mk (by kernel_rfl) (by kernel_rfl)
      · replace h := ofF h8 h
        obtain rfl := Option.some.inj h
        refine W_skip [0, 3, 9] [] (fr' := [(0, aI a0), (3, aB a3), (9, aI v4)]) (L' := []) (by kernel_rfl) (by kernel_rfl) ?_
        exact exQ_mk (by kernel_rfl) (by kernel_rfl)
    · intro e fr L hJ
      obtain ⟨rfl, rfl, rfl⟩ := hJ
      refine LT_keep [0, 3, 9] [] (fr' := [(0, aI a0), (3, aB a3), (9, aI v9)]) (L' := []) (by kernel_rfl) ?_
      refine seqQ_norm ?_
      refine W_seq (by kernel_rfl) ?_
      obtain ⟨v14, h15, h⟩ := bind_of h
      refine W_cutK (Q' := (exQ .normal (ref_Truth_s1 a0)) v14) ?_ ?_
      · replace h := h15
        refine W_seq (by kernel_rfl) ?_
        refine W_run 1 [] [0, 9, 16] [] (fr' := [(0, aI a0), (9, aI v9), (16, aB a3)]) (L' := []) (obs := []) (by kernel_rfl) (by kernel_rfl) (by kernel_rfl) allP0 ?_
        refine seqQ_norm ?_
        refine W_cond (o := .tmp 16) (b := a3) (by kernel_rfl) (by kernel_rfl) (fun h13 => ?_) (fun h13 => ?_)
        · replace h := ofT h13 h
          obtain rfl := Option.some.inj h
          refine W_run 3 [] [0, 9] [] (fr' := [(0, aI a0), (9, aI (w64 (v9 + (1 : Int))))]) (L' := []) (obs := []) (by kernel_rfl) (by kernel_rfl) (by kernel_rfl) allP0 ?_
          exact exQ_mk (by kernel_rfl) (by kernel_rfl)
        · replace h := ofF h13 h
          obtain rfl := Option.some.inj h
          refine W_skip [0, 9] [] (fr' := [(0, aI a0), (9, aI v9)]) (L' := []) (by kernel_rfl) (by kernel_rfl) ?_
          exact exQ_mk (by kernel_rfl) (by kernel_rfl)
      · intro e fr L hJ
        obtain ⟨rfl, rfl, rfl⟩ := hJ
        refine LT_keep [0, 9] [] (fr' := [(0, aI a0), (9, aI v14)]) (L' := []) (by kernel_rfl) ?_
        refine seqQ_norm ?_
        refine W_seq (by kernel_rfl) ?_
        refine W_region (by kernel_rfl) ?_
        refine WO_run (j := 2) (k := 2) (orcs := []) (kF := [19, 20]) (kL := []) (fr' := [(19, aI a0), (20, aI v14)]) (L' := []) (obs := []) rfl (by kernel_rfl) allP0 ?_
        obtain ⟨r16, h17, h⟩ := bind_of h
        refine WO_call0 (us := [none, none]) (d := 21) (p := True) (j := 3) rfl ⟨by kernel_rfl, by kernel_rfl, by kernel_rfl⟩ trivial (ref_Bit_ok h17) (by kernel_rfl) ?_
        refine WO_run (j := 4) (k := 1) (orcs := []) (kF := [8]) (kL := []) (fr' := [(8, aB r16)]) (L' := []) (obs := []) rfl (by kernel_rfl) allP0 ?_
        refine WO_fin [8] [] (fr' := [(8, aB r16)]) (L' := []) (by kernel_rfl) (by kernel_rfl) ?_
        refine seqQ_norm ?_
        obtain rfl := Option.some.inj h
        refine W_ret [8] [] (fr' := [(8, aB r16)]) (L' := []) (by kernel_rfl) (by kernel_rfl) ?_
        exact retQ_mk (by kernel_rfl) (by kernel_rfl) (by kernel_rfl)

def ref_pairsOn_b1 (i9 : Int) (x10 : (List Bool)) : Option (Flow (List Bool) (List Bool)) :=
(idx x10 i9).bind fun v13 =>
some (.next (List.set x10 (Int.toNat i9) true))
@[reducible] def ref_pairsOn_s2 (a0 : Int) (a1 : Bool) (v : Int × (List Bool)) : Fr × LL := ([(0, aI a0), (1, aB a1), (5, .one (.slc 15)), (6, aI v.1)], [(15, .seq .bool v.2)])
@[reducible] def ref_pairsOn_s3 (a0 : Int) (a1 : Bool) (v : (List Bool)) : Fr × LL := ([(0, aI a0), (1, aB a1), (5, .one (.slc 15))], [(15, .seq .bool v)])
def ref_pairsOn_g2454 (a1 : Bool) (x10677 : (List Bool)) (i14226 : Int) (i15406 : Int) (i15796 : Int) : Option Bool :=
bif a1 then
((idx x10677 (w64 ((w64 ((w64 ((w64 ((w64 ((Int.tmod (w64 (Int.tdiv i14226 (4 : Int))) (2 : Int)) * (2 : Int))) + i15406)) * (4 : Int))) + (w64 ((Int.tmod (Int.tmod i14226 (4 : Int)) (2 : Int)) * (2 : Int))))) + i15796))).bind fun v15966 =>
some v15966)
else
(some false)
@[reducible] def ref_pairsOn_s2455 (a0 : Int) (a1 : Bool) (i10676 : Int) (x10677 : (List Bool)) (i14226 : Int) (i15406 : Int) (i15796 : Int) (x15797 : (List Bool)) (v : Bool) : Fr × LL := ([(0, aI a0), (1, aB a1), (5, .one (.slc 15)), (7, aI i10676), (8, .one (.slc 27)), (9, aI i14226), (10, aI i15406), (11, aI i15796), (14, aI (w64 ((w64 ((w64 ((w64 ((w64 ((Int.tmod (w64 (Int.tdiv i14226 (4 : Int))) (2 : Int)) * (2 : Int))) + i15406)) * (4 : Int))) + (w64 ((Int.tmod (Int.tmod i14226 (4 : Int)) (2 : Int)) * (2 : Int))))) + i15796))), (81, aB v)], [(15, .seq .bool x10677), (27, .seq .bool x15797)])
def ref_pairsOn_g2456 (a1 : Bool) (x10677 : (List Bool)) (i14226 : Int) (i15406 : Int) (i15796 : Int) (x15797 : (List Bool)) : Option (List Bool) :=
(ref_pairsOn_g2454 a1 x10677 i14226 i15406 i15796).bind fun v15968 =>
bif v15968 then
((idx x15797 i14226).bind fun v15971 =>
some (List.set x15797 (Int.toNat i14226) true))
else
(some x15797)
@[reducible] def ref_pairsOn_s2457 (a0 : Int) (a1 : Bool) (i10676 : Int) (x10677 : (List Bool)) (i14226 : Int) (i15406 : Int) (i15796 : Int) (v15973 : (List Bool)) (v : Bool) : Fr × LL := ([(0, aI a0), (1, aB a1), (5, .one (.slc 15)), (7, aI i10676), (8, .one (.slc 27)), (9, aI i14226), (10, aI i15406), (11, aI i15796), (14, aI (w64 ((w64 ((w64 ((w64 ((w64 ((Int.tmod (w64 (Int.tdiv i14226 (4 : Int))) (2 : Int)) * (2 : Int))) + i15406)) * (4 : Int))) + (w64 ((Int.tmod (Int.tmod i14226 (4 : Int)) (2 : Int)) * (2 : Int))))) + i15796))), (92, aB v)], [(15, .seq .bool x10677), (27, .seq .bool v15973)])
@[reducible] def ref_pairsOn_s2458 (a0 : Int) (a1 : Bool) (i10676 : Int) (x10677 : (List Bool)) (i14226 : Int) (i15406 : Int) (i15796 : Int) (v : (List Bool)) : Fr × LL := ([(0, aI a0), (1, aB a1), (5, .one (.slc 15)), (7, aI i10676), (8, .one (.slc 27)), (9, aI i14226), (10, aI i15406), (11, aI i15796), (14, aI (w64 ((w64 ((w64 ((w64 ((w64 ((Int.tmod (w64 (Int.tdiv i14226 (4 : Int))) (2 : Int)) * (2 : Int))) + i15406)) * (4 : Int))) + (w64 ((Int.tmod (Int.tmod i14226 (4 : Int)) (2 : Int)) * (2 : Int))))) + i15796)))], [(15, .seq .bool x10677), (27, .seq .bool v)])
def ref_pairsOn_g2459 (a0 : Int) (a1 : Bool) (x10677 : (List Bool)) (i14226 : Int) (i15406 : Int) (i15796 : Int) (x15797 : (List Bool)) : Option (List Bool) :=
(ref_Truth a0 (decide ((w64 (Int.tdiv i14226 (4 : Int))) ≥ (2 : Int))) ((Int.tmod (w64 (Int.tdiv i14226 (4 : Int))) (2 : Int)) == (1 : Int)) (i15406 == (1 : Int))).bind fun r15926 =>
(ref_Truth a0 (decide ((Int.tmod i14226 (4 : Int)) ≥ (2 : Int))) ((Int.tmod (Int.tmod i14226 (4 : Int)) (2 : Int)) == (1 : Int)) (i15796 == (1 : Int))).bind fun r15928 =>
bif !(r15926 == r15928) then
(some x15797)
else
((ref_pairsOn_g2456 a1 x10677 i14226 i15406 i15796 x15797).bind fun v15973 =>
(bif !a1 then
((idx x10677 i14226).bind fun v15982 =>
some v15982)
else
(some false)).bind fun v15984 =>
bif v15984 then
((idx v15973 (w64 ((w64 ((w64 ((w64 ((w64 ((Int.tmod (w64 (Int.tdiv i14226 (4 : Int))) (2 : Int)) * (2 : Int))) + i15406)) * (4 : Int))) + (w64 ((Int.tmod (Int.tmod i14226 (4 : Int)) (2 : Int)) * (2 : Int))))) + i15796))).bind fun v15987 =>
some (List.set v15973 (Int.toNat (w64 ((w64 ((w64 ((w64 ((w64 ((Int.tmod (w64 (Int.tdiv i14226 (4 : Int))) (2 : Int)) * (2 : Int))) + i15406)) * (4 : Int))) + (w64 ((Int.tmod (Int.tmod i14226 (4 : Int)) (2 : Int)) * (2 : Int))))) + i15796))) true))
else
(some v15973))
@[reducible] def ref_pairsOn_s2460 (a0 : Int) (a1 : Bool) (i10676 : Int) (x10677 : (List Bool)) (i14226 : Int) (i15406 : Int) (i15796 : Int) (v : (List Bool)) : Fr × LL := ([(0, aI a0), (1, aB a1), (5, .one (.slc 15)), (7, aI i10676), (8, .one (.slc 27)), (9, aI i14226), (10, aI i15406), (11, aI i15796)], [(15, .seq .bool x10677), (27, .seq .bool v)])
def ref_pairsOn_b2461 (a0 : Int) (a1 : Bool) (x10677 : (List Bool)) (i14226 : Int) (i15406 : Int) (i15796 : Int) (x15797 : (List Bool)) : Option (Flow (List Bool) (List Bool)) :=
(ref_pairsOn_g2459 a0 a1 x10677 i14226 i15406 i15796 x15797).bind fun v15989 =>
some (.next v15989)
@[reducible] def ref_pairsOn_s2462 (a0 : Int) (a1 : Bool) (i10676 : Int) (x10677 : (List Bool)) (i14226 : Int) (i15406 : Int) (v : Int × (List Bool)) : Fr × LL := ([(0, aI a0), (1, aB a1), (5, .one (.slc 15)), (7, aI i10676), (8, .one (.slc 27)), (9, aI i14226), (10, aI i15406), (11, aI v.1)], [(15, .seq .bool x10677), (27, .seq .bool v.2)])
@[reducible] def ref_pairsOn_s2463 (a0 : Int) (a1 : Bool) (i10676 : Int) (x10677 : (List Bool)) (i14226 : Int) (i15406 : Int) (v : (List Bool)) : Fr × LL := ([(0, aI a0), (1, aB a1), (5, .one (.slc 15)), (7, aI i10676), (8, .one (.slc 27)), (9, aI i14226), (10, aI i15406)], [(15, .seq .bool x10677), (27, .seq .bool v)])
def ref_pairsOn_b2464 (a0 : Int) (a1 : Bool) (x10677 : (List Bool)) (i14226 : Int) (i15406 : Int) (x15407 : (List Bool)) : Option (Flow (List Bool) (List Bool)) :=
(forI (0 : Int) (2 : Int) (ref_pairsOn_b2461 a0 a1 x10677 i14226 i15406) (fun x15797 => x15797) x15407).bind fun v15992 =>
some (.next v15992)
@[reducible] def ref_pairsOn_s2465 (a0 : Int) (a1 : Bool) (i10676 : Int) (x10677 : (List Bool)) (i14226 : Int) (v : Int × (List Bool)) : Fr × LL := ([(0, aI a0), (1, aB a1), (5, .one (.slc 15)), (7, aI i10676), (8, .one (.slc 27)), (9, aI i14226), (10, aI v.1)], [(15, .seq .bool x10677), (27, .seq .bool v.2)])
@[reducible] def ref_pairsOn_s2466 (a0 : Int) (a1 : Bool) (i10676 : Int) (x10677 : (List Bool)) (i14226 : Int) (v : (List Bool)) : Fr × LL := ([(0, aI a0), (1, aB a1), (5, .one (.slc 15)), (7, aI i10676), (8, .one (.slc 27)), (9, aI i14226)], [(15, .seq .bool x10677), (27, .seq .bool v)])
def ref_pairsOn_b2467 (a0 : Int) (a1 : Bool) (x10677 : (List Bool)) (i14226 : Int) (x14227 : (List Bool)) : Option (Flow (List Bool) (List Bool)) :=
(forI (0 : Int) (2 : Int) (ref_pairsOn_b2464 a0 a1 x10677 i14226) (fun x15407 => x15407) x14227).bind fun v15997 =>
some (.next v15997)
@[reducible] def ref_pairsOn_s2468 (a0 : Int) (a1 : Bool) (i10676 : Int) (x10677 : (List Bool)) (v : Int × (List Bool)) : Fr × LL := ([(0, aI a0), (1, aB a1), (5, .one (.slc 15)), (7, aI i10676), (8, .one (.slc 27)), (9, aI v.1)], [(15, .seq .bool x10677), (27, .seq .bool v.2)])
@[reducible] def ref_pairsOn_s2469 (a0 : Int) (a1 : Bool) (i10676 : Int) (v : (List Bool)) : Fr × LL := ([(0, aI a0), (1, aB a1), (7, aI i10676), (8, .one (.slc 27))], [(27, .seq .bool v)])
def ref_pairsOn_b2470 (a0 : Int) (a1 : Bool) (i10676 : Int) (x10677 : (List Bool)) : Option (Flow (List Bool) (List Bool)) :=
(forI (0 : Int) (16 : Int) (ref_pairsOn_b2467 a0 a1 x10677) (fun x14227 => x14227) (List.replicate (Int.toNat (16 : Int)) false)).bind fun v16002 =>
some (.next v16002)
@[reducible] def ref_pairsOn_s2471 (a0 : Int) (a1 : Bool) (v : Int × (List Bool)) : Fr × LL := ([(0, aI a0), (1, aB a1), (5, .one (.slc 15)), (7, aI v.1)], [(15, .seq .bool v.2)])
@[reducible] def ref_pairsOn_s2472 (v : (List Bool)) : Fr × LL := ([(5, .one (.slc 15))], [(15, .seq .bool v)])
def ref_pairsOn (a0 : Int) (a1 : Bool) : Option (List Bool) :=
(forI (0 : Int) (16 : Int) ref_pairsOn_b1 (fun x10 => x10) (List.replicate (Int.toNat (16 : Int)) false)).bind fun v16 =>
(forI (0 : Int) (17 : Int) (ref_pairsOn_b2470 a0 a1) (fun x10677 => x10677) v16).bind fun v16007 =>
some v16007
theorem ref_pairsOn_ok {a0 : Int} {a1 : Bool} {r : (List Bool)} (h : ref_pairsOn a0 a1 = some r) : FnC Try.prog 53 [aI a0, aB a1] [] (aD (.slice .bool) r) [] := by
  refine fnC_of_W (B := bodyOf Try.f53) (n := 98) Try.func53 (by kernel_rfl) (by kernel_rfl) (by kernel_rfl) (by kernel_rfl) (by kernel_rfl) ?_
  intro K
  refine W_seq (by kernel_rfl) ?_
  refine W_run 1 [] [0, 1] [] (fr' := [(0, aI a0), (1, aB a1)]) (L' := []) (obs := []) (by kernel_rfl) (by kernel_rfl) (by kernel_rfl) allP0 ?_
  refine seqQ_norm ?_
  refine W_seq (by kernel_rfl) ?_
  refine W_run 2 [] [0, 1, 5] [15] (fr' := [(0, aI a0), (1, aB a1), (5, .one (.slc 15))]) (L' := [(15, .seq .bool (List.replicate (Int.toNat (16 : Int)) false))]) (obs := [0 ≤ (16 : Int) ∧ (16 : Int) = (16 : Int) ∧ SmallLen (16 : Int)]) (by kernel_rfl) (by kernel_rfl) (by kernel_rfl) (allP1 (by unfold SmallLen; decide)) ?_
  refine seqQ_norm ?_
  refine W_seq (by kernel_rfl) ?_
  refine W_seq (by kernel_rfl) ?_
  refine W_run 1 [] [0, 1, 5, 6] [15] (fr' := [(0, aI a0), (1, aB a1), (5, .one (.slc 15)), (6, aI (0 : Int))]) (L' := [(15, .seq .bool (List.replicate (Int.toNat (16 : Int)) false))]) (obs := []) (by kernel_rfl) (by kernel_rfl) (by kernel_rfl) allP0 ?_
  refine seqQ_norm ?_
  refine W_block (id := 0) (by kernel_rfl) ?_
  obtain ⟨v16, h17, h⟩ := bind_of h
  obtain ⟨h18, h19⟩ := forI_iter h17
  refine W_weaken [0, 1, 5, 6] [15] (fr' := ((ref_pairsOn_s2 a0 a1) ((0 : Int), List.replicate (Int.toNat (16 : Int)) false)).1) (L' := ((ref_pairsOn_s2 a0 a1) ((0 : Int), List.replicate (Int.toNat (16 : Int)) false)).2) (by kernel_rfl) ?_
  refine W_cutK (W_loop (S := (ref_pairsOn_s2 a0 a1)) (J := (exQ (.exit 0) (ref_pairsOn_s3 a0 a1))) (by kernel_rfl) ?_ h18 _ v16 h19) ?_
  · rintro ⟨i9, x10⟩ s h
    refine W_seq (by kernel_rfl) ?_
    refine W_seq (by kernel_rfl) ?_
    refine W_run 2 [] [0, 1, 5, 6, 17] [15] (fr' := [(0, aI a0), (1, aB a1), (5, .one (.slc 15)), (6, aI i9), (17, aB (decide (i9 < (16 : Int))))]) (L' := [(15, .seq .bool x10)]) (obs := []) (by kernel_rfl) (by kernel_rfl) (by kernel_rfl) allP0 ?_
    refine seqQ_norm ?_
    refine W_cond (o := .tmp 17) (b := decide (i9 < (16 : Int))) (by kernel_rfl) (by kernel_rfl) (fun h12 => ?_) (fun h12 => ?_)
    · replace h := stepI_true h12 h
      obtain ⟨_, h, rfl⟩ := h
      refine W_skip [0, 1, 5, 6] [15] (fr' := [(0, aI a0), (1, aB a1), (5, .one (.slc 15)), (6, aI i9)]) (L' := [(15, .seq .bool x10)]) (by kernel_rfl) (by kernel_rfl) ?_
      refine seqQ_norm ?_
      refine W_seq (by kernel_rfl) ?_
      refine W_block (id := 1) (by kernel_rfl) ?_
      obtain ⟨v13, h14, h⟩ := bind_of h
      refine W_run 4 [] [0, 1, 5, 6] [15] (fr' := [(0, aI a0), (1, aB a1), (5, .one (.slc 15)), (6, aI i9)]) (L' := [(15, .seq .bool (List.set x10 (Int.toNat i9) true))]) (obs := [InR i9 (List.length x10), InR i9 (List.length x10)]) (by kernel_rfl) (by kernel_rfl) (by kernel_rfl) (allP2 (InR.of h14) (allP1 (InR.of h14))) ?_
      refine blockQ_norm ?_
      refine seqQ_norm ?_
      obtain rfl := Option.some.inj h
      refine W_run 3 [] [0, 1, 5, 6] [15] (fr' := [(0, aI a0), (1, aB a1), (5, .one (.slc 15)), (6, aI (w64 (i9 + (1 : Int))))]) (L' := [(15, .seq .bool (List.set x10 (Int.toNat i9) true))]) (obs := []) (by kernel_rfl) (by kernel_rfl) (by kernel_rfl) allP0 ?_
      exact round_next' (by kernel_rfl) (by kernel_rfl)
    · obtain rfl := stepI_false h12 h
      refine W_exit (id := 0) [0, 1, 5] [15] (fr' := [(0, aI a0), (1, aB a1), (5, .one (.slc 15))]) (L' := [(15, .seq .bool x10)]) (by kernel_rfl) (by kernel_rfl) ?_
      refine seqQ_exit ?_
      refine round_exit ?_
      exact exQ_mk (by kernel_rfl) (by kernel_rfl)
  · intro e fr L hJ
    obtain ⟨rfl, rfl, rfl⟩ := hJ
    refine LT_keep [0, 1, 5] [15] (fr' := [(0, aI a0), (1, aB a1), (5, .one (.slc 15))]) (L' := [(15, .seq .bool v16)]) (by kernel_rfl) ?_
    refine blockQ_hit ?_
    refine seqQ_norm ?_
    refine W_seq (by kernel_rfl) ?_
    refine W_seq (by kernel_rfl) ?_
    refine W_run 1 [] [0, 1, 5, 7] [15] (fr' := [(0, aI a0), (1, aB a1), (5, .one (.slc 15)), (7, aI (0 : Int))]) (L' := [(15, .seq .bool v16)]) (obs := []) (by kernel_rfl) (by kernel_rfl) (by kernel_rfl) allP0 ?_
    refine seqQ_norm ?_
    refine W_block (id := 2) (by kernel_rfl) ?_
    obtain ⟨v16007, h16008, h⟩ := bind_of h
    obtain ⟨h16009, h16010⟩ := forI_iter h16008
    refine W_weaken [0, 1, 5, 7] [15] (fr' := ((ref_pairsOn_s2471 a0 a1) ((0 : Int), v16)).1) (L' := ((ref_pairsOn_s2471 a0 a1) ((0 : Int), v16)).2) (by kernel_rfl) ?_
    refine W_cutK (W_loop (S := (ref_pairsOn_s2471 a0 a1)) (J := (exQ (.exit 2) ref_pairsOn_s2472)) (by kernel_rfl) ?_ h16009 _ v16007 h16010) ?_
    · rintro ⟨i10676, x10677⟩ s h
      refine W_seq (by kernel_rfl) ?_
      refine W_seq (by kernel_rfl) ?_
      refine W_run 2 [] [0, 1, 5, 7, 24] [15] (fr' := [(0, aI a0), (1, aB a1), (5, .one (.slc 15)), (7, aI i10676), (24, aB (decide (i10676 < (17 : Int))))]) (L' := [(15, .seq .bool x10677)]) (obs := []) (by kernel_rfl) (by kernel_rfl) (by kernel_rfl) allP0 ?_
      refine seqQ_norm ?_
      refine W_cond (o := .tmp 24) (b := decide (i10676 < (17 : Int))) (by kernel_rfl) (by kernel_rfl) (fun h10679 => ?_) (fun h10679 => ?_)
      · replace h := stepI_true h10679 h
        obtain ⟨_, h, rfl⟩ := h
        refine W_skip [0, 1, 5, 7] [15] (fr' := [(0, aI a0), (1, aB a1), (5, .one (.slc 15)), (7, aI i10676)]) (L' := [(15, .seq .bool x10677)]) (by kernel_rfl) (by kernel_rfl) ?_
        refine seqQ_norm ?_
        refine W_seq (by kernel_rfl) ?_
        refine W_block (id := 3) (by kernel_rfl) ?_
        refine W_seq (by kernel_rfl) ?_
        refine W_run 2 [] [0, 1, 5, 7, 8] [15, 27] (fr' := [(0, aI a0), (1, aB a1), (5, .one (.slc 15)), (7, aI i10676), (8, .one (.slc 27))]) (L' := [(15, .seq .bool x10677), (27, .seq .bool (List.replicate (Int.toNat (16 : Int)) false))]) (obs := [0 ≤ (16 : Int) ∧ (16 : Int) = (16 : Int) ∧ SmallLen (16 : Int)]) (by kernel_rfl) (by kernel_rfl) (by kernel_rfl) (allP1 (by unfold SmallLen; decide)) ?_
        refine seqQ_norm ?_
        refine W_seq (by kernel_rfl) ?_
        refine W_seq (by kernel_rfl) ?_
        refine W_run 1 [] [0, 1, 5, 7, 8, 9] [15, 27] (fr' := [(0, aI a0), (1, aB a1), (5, .one (.slc 15)), (7, aI i10676), (8, .one (.slc 27)), (9, aI (0 : Int))]) (L' := [(15, .seq .bool x10677), (27, .seq .bool (List.replicate (Int.toNat (16 : Int)) false))]) (obs := []) (by kernel_rfl) (by kernel_rfl) (by kernel_rfl) allP0 ?_
        refine seqQ_norm ?_
        refine W_block (id := 4) (by kernel_rfl) ?_
        obtain ⟨v16002, h16003, h⟩ := bind_of h
        obtain ⟨h16004, h16005⟩ := forI_iter h16003
        refine W_weaken [0, 1, 5, 7, 8, 9] [15, 27] (fr' := ((ref_pairsOn_s2468 a0 a1 i10676 x10677) ((0 : Int), List.replicate (Int.toNat (16 : Int)) false)).1) (L' := ((ref_pairsOn_s2468 a0 a1 i10676 x10677) ((0 : Int), List.replicate (Int.toNat (16 : Int)) false)).2) (by kernel_rfl) ?_
        refine W_cutK (W_loop (S := (ref_pairsOn_s2468 a0 a1 i10676 x10677)) (J := (exQ (.exit 4) (ref_pairsOn_s2469 a0 a1 i10676))) (by kernel_rfl) ?_ h16004 _ v16002 h16005) ?_
        · rintro ⟨i14226, x14227⟩ s h
          refine W_seq (by kernel_rfl) ?_
          refine W_seq (by kernel_rfl) ?_
          refine W_run 2 [] [0, 1, 5, 7, 8, 9, 29] [15, 27] (fr' := [(0, aI a0), (1, aB a1), (5, .one (.slc 15)), (7, aI i10676), (8, .one (.slc 27)), (9, aI i14226), (29, aB (decide (i14226 < (16 : Int))))]) (L' := [(15, .seq .bool x10677), (27, .seq .bool x14227)]) (obs := []) (by kernel_rfl) (by kernel_rfl) (by kernel_rfl) allP0 ?_
          refine seqQ_norm ?_
          refine W_cond (o := .tmp 29) (b := decide (i14226 < (16 : Int))) (by kernel_rfl) (by kernel_rfl) (fun h14229 => ?_) (fun h14229 => ?_)
          · replace h := stepI_true h14229 h
            obtain ⟨_, h, rfl⟩ := h
            refine W_skip [0, 1, 5, 7, 8, 9] [15, 27] (fr' := [(0, aI a0), (1, aB a1), (5, .one (.slc 15)), (7, aI i10676), (8, .one (.slc 27)), (9, aI i14226)]) (L' := [(15, .seq .bool x10677), (27, .seq .bool x14227)]) (by kernel_rfl) (by kernel_rfl) ?_
            refine seqQ_norm ?_
            refine W_seq (by kernel_rfl) ?_
            refine W_block (id := 5) (by kernel_rfl) ?_
            refine W_seq (by kernel_rfl) ?_
            refine W_run 1 [] [0, 1, 5, 7, 8, 9, 10] [15, 27] (fr' := [(0, aI a0), (1, aB a1), (5, .one (.slc 15)), (7, aI i10676), (8, .one (.slc 27)), (9, aI i14226), (10, aI (0 : Int))]) (L' := [(15, .seq .bool x10677), (27, .seq .bool x14227)]) (obs := []) (by kernel_rfl) (by kernel_rfl) (by kernel_rfl) allP0 ?_
            refine seqQ_norm ?_
            refine W_block (id := 6) (by kernel_rfl) ?_
            obtain ⟨v15997, h15998, h⟩ := bind_of h
            obtain ⟨h15999, h16000⟩ := forI_iter h15998
            refine W_weaken [0, 1, 5, 7, 8, 9, 10] [15, 27] (fr' := ((ref_pairsOn_s2465 a0 a1 i10676 x10677 i14226) ((0 : Int), x14227)).1) (L' := ((ref_pairsOn_s2465 a0 a1 i10676 x10677 i14226) ((0 : Int), x14227)).2) (by kernel_rfl) ?_
            refine W_cutK (W_loop (S := (ref_pairsOn_s2465 a0 a1 i10676 x10677 i14226)) (J := (exQ (.exit 6) (ref_pairsOn_s2466 a0 a1 i10676 x10677 i14226))) (by kernel_rfl) ?_ h15999 _ v15997 h16000) ?_
            · rintro ⟨i15406, x15407⟩ s h
              refine W_seq (by kernel_rfl) ?_
              refine W_seq (by kernel_rfl) ?_
              refine W_run 2 [] [0, 1, 5, 7, 8, 9, 10, 33] [15, 27] (fr' := [(0, aI a0), (1, aB a1), (5, .one (.slc 15)), (7, aI i10676), (8, .one (.slc 27)), (9, aI i14226), (10, aI i15406), (33, aB (decide (i15406 < (2 : Int))))]) (L' := [(15, .seq .bool x10677), (27, .seq .bool x15407)]) (obs := []) (by kernel_rfl) (by kernel_rfl) (by kernel_rfl) allP0 ?_
              refine seqQ_norm ?_
              refine W_cond (o := .tmp 33) (b := decide (i15406 < (2 : Int))) (by kernel_rfl) (by kernel_rfl) (fun h15409 => ?_) (fun h15409 => ?_)
              · replace h := stepI_true h15409 h
                obtain ⟨_, h, rfl⟩ := h
                refine W_skip [0, 1, 5, 7, 8, 9, 10] [15, 27] (fr' := [(0, aI a0), (1, aB a1), (5, .one (.slc 15)), (7, aI i10676), (8, .one (.slc 27)), (9, aI i14226), (10, aI i15406)]) (L' := [(15, .seq .bool x10677), (27, .seq .bool x15407)]) (by kernel_rfl) (by kernel_rfl) ?_
                refine seqQ_norm ?_
                refine W_seq (by kernel_rfl) ?_
                refine W_block (id := 7) (by kernel_rfl) ?_
                refine W_seq (by kernel_rfl) ?_
                refine W_run 1 [] [0, 1, 5, 7, 8, 9, 10, 11] [15, 27] (fr' := [(0, aI a0), (1, aB a1), (5, .one (.slc 15)), (7, aI i10676), (8, .one (.slc 27)), (9, aI i14226), (10, aI i15406), (11, aI (0 : Int))]) (L' := [(15, .seq .bool x10677), (27, .seq .bool x15407)]) (obs := []) (by kernel_rfl) (by kernel_rfl) (by kernel_rfl) allP0 ?_
                refine seqQ_norm ?_
                refine W_block (id := 8) (by kernel_rfl) ?_
                obtain ⟨v15992, h15993, h⟩ := bind_of h
                obtain ⟨h15994, h15995⟩ := forI_iter h15993
                refine W_weaken [0, 1, 5, 7, 8, 9, 10, 11] [15, 27] (fr' := ((ref_pairsOn_s2462 a0 a1 i10676 x10677 i14226 i15406) ((0 : Int), x15407)).1) (L' := ((ref_pairsOn_s2462 a0 a1 i10676 x10677 i14226 i15406) ((0 : Int), x15407)).2) (by kernel_rfl) ?_
                refine W_cutK (W_loop (S := (ref_pairsOn_s2462 a0 a1 i10676 x10677 i14226 i15406)) (J := (exQ (.exit 8) (ref_pairsOn_s2463 a0 a1 i10676 x10677 i14226 i15406))) (by kernel_rfl) ?_ h15994 _ v15992 h15995) ?_
                · rintro ⟨i15796, x15797⟩ s h
                  refine W_seq (by kernel_rfl) ?_
                  refine W_seq (by kernel_rfl) ?_
                  refine W_run 2 [] [0, 1, 5, 7, 8, 9, 10, 11, 37] [15, 27] (fr' := [(0, aI a0), (1, aB a1), (5, .one (.slc 15)), (7, aI i10676), (8, .one (.slc 27)), (9, aI i14226), (10, aI i15406), (11, aI i15796), (37, aB (decide (i15796 < (2 : Int))))]) (L' := [(15, .seq .bool x10677), (27, .seq .bool x15797)]) (obs := []) (by kernel_rfl) (by kernel_rfl) (by kernel_rfl) allP0 ?_
                  refine seqQ_norm ?_
                  refine W_cond (o := .tmp 37) (b := decide (i15796 < (2 : Int))) (by kernel_rfl) (by kernel_rfl) (fun h15799 => ?_) (fun h15799 => ?_)
                  · replace h := stepI_true h15799 h
                    obtain ⟨_, h, rfl⟩ := h
                    refine W_skip [0, 1, 5, 7, 8, 9, 10, 11] [15, 27] (fr' := [(0, aI a0), (1, aB a1), (5, .one (.slc 15)), (7, aI i10676), (8, .one (.slc 27)), (9, aI i14226), (10, aI i15406), (11, aI i15796)]) (L' := [(15, .seq .bool x10677), (27, .seq .bool x15797)]) (by kernel_rfl) (by kernel_rfl) ?_
                    refine seqQ_norm ?_
                    refine W_seq (by kernel_rfl) ?_
                    obtain ⟨v15989, h15990, h⟩ := bind_of h
                    refine W_cutK (Q' := (exQ .normal (ref_pairsOn_s2460 a0 a1 i10676 x10677 i14226 i15406 i15796)) v15989) ?_ ?_
                    · replace h := h15990
                      refine W_block (id := 9) (by kernel_rfl) ?_
                      refine W_seq (by kernel_rfl) ?_
                      refine W_run 3 [] [0, 1, 5, 7, 8, 9, 10, 11, 12] [15, 27] (fr' := [(0, aI a0), (1, aB a1), (5, .one (.slc 15)), (7, aI i10676), (8, .one (.slc 27)), (9, aI i14226), (10, aI i15406), (11, aI i15796), (12, aI (w64 (Int.tdiv i14226 (4 : Int))))]) (L' := [(15, .seq .bool x10677), (27, .seq .bool x15797)]) (obs := [((4 : Int) ≠ 0)]) (by kernel_rfl) (by kernel_rfl) (by kernel_rfl) (allP1 (by decide)) ?_
                      refine seqQ_norm ?_
                      refine W_seq (by kernel_rfl) ?_
                      refine W_run 3 [] [0, 1, 5, 7, 8, 9, 10, 11, 12, 13] [15, 27] (fr' := [(0, aI a0), (1, aB a1), (5, .one (.slc 15)), (7, aI i10676), (8, .one (.slc 27)), (9, aI i14226), (10, aI i15406), (11, aI i15796), (12, aI (w64 (Int.tdiv i14226 (4 : Int)))), (13, aI (Int.tmod i14226 (4 : Int)))]) (L' := [(15, .seq .bool x10677), (27, .seq .bool x15797)]) (obs := [((4 : Int) ≠ 0)]) (by kernel_rfl) (by kernel_rfl) (by kernel_rfl) (allP1 (by decide)) ?_
                      refine seqQ_norm ?_
                      refine W_seq (by kernel_rfl) ?_
                      refine W_seq (by kernel_rfl) ?_
                      refine W_region (by kernel_rfl) ?_
                      refine WO_run (j := 8) (k := 8) (orcs := []) (kF := [0, 1, 5, 7, 8, 9, 10, 11, 12, 13, 44, 46, 49, 51]) (kL := [15, 27]) (fr' := [(0, aI a0), (1, aB a1), (5, .one (.slc 15)), (7, aI i10676), (8, .one (.slc 27)), (9, aI i14226), (10, aI i15406), (11, aI i15796), (12, aI (w64 (Int.tdiv i14226 (4 : Int)))), (13, aI (Int.tmod i14226 (4 : Int))), (44, aI a0), (46, aB (decide ((w64 (Int.tdiv i14226 (4 : Int))) ≥ (2 : Int)))), (49, aB ((Int.tmod (w64 (Int.tdiv i14226 (4 : Int))) (2 : Int)) == (1 : Int))), (51, aB (i15406 == (1 : Int)))]) (L' := [(15, .seq .bool x10677), (27, .seq .bool x15797)]) (obs := [((2 : Int) ≠ 0)]) rfl (by kernel_rfl) (allP1 (by decide)) ?_
                      obtain ⟨r15926, h15927, h⟩ := bind_of h
                      refine WO_call0 (us := [none, none, none, none]) (d := 52) (p := True) (j := 9) rfl ⟨by kernel_rfl, by kernel_rfl, by kernel_rfl⟩ trivial (ref_Truth_ok h15927) (by kernel_rfl) ?_
                      refine WO_run (j := 17) (k := 8) (orcs := []) (kF := [0, 1, 5, 7, 8, 9, 10, 11, 12, 13, 52, 53, 55, 58, 60]) (kL := [15, 27]) (fr' := [(0, aI a0), (1, aB a1), (5, .one (.slc 15)), (7, aI i10676), (8, .one (.slc 27)), (9, aI i14226), (10, aI i15406), (11, aI i15796), (12, aI (w64 (Int.tdiv i14226 (4 : Int)))), (13, aI (Int.tmod i14226 (4 : Int))), (52, aB r15926), (53, aI a0), (55, aB (decide ((Int.tmod i14226 (4 : Int)) ≥ (2 : Int)))), (58, aB ((Int.tmod (Int.tmod i14226 (4 : Int)) (2 : Int)) == (1 : Int))), (60, aB (i15796 == (1 : Int)))]) (L' := [(15, .seq .bool x10677), (27, .seq .bool x15797)]) (obs := [((2 : Int) ≠ 0)]) rfl (by kernel_rfl) (allP1 (by decide)) ?_
                      obtain ⟨r15928, h15929, h⟩ := bind_of h
                      refine WO_call0 (us := [none, none, none, none]) (d := 61) (p := True) (j := 18) rfl ⟨by kernel_rfl, by kernel_rfl, by kernel_rfl⟩ trivial (ref_Truth_ok h15929) (by kernel_rfl) ?_
                      refine WO_run (j := 19) (k := 1) (orcs := []) (kF := [0, 1, 5, 7, 8, 9, 10, 11, 12, 13, 62]) (kL := [15, 27]) (fr' := [(0, aI a0), (1, aB a1), (5, .one (.slc 15)), (7, aI i10676), (8, .one (.slc 27)), (9, aI i14226), (10, aI i15406), (11, aI i15796), (12, aI (w64 (Int.tdiv i14226 (4 : Int)))), (13, aI (Int.tmod i14226 (4 : Int))), (62, aB (!(r15926 == r15928)))]) (L' := [(15, .seq .bool x10677), (27, .seq .bool x15797)]) (obs := []) rfl (by kernel_rfl) allP0 ?_
                      refine WO_fin [0, 1, 5, 7, 8, 9, 10, 11, 12, 13, 62] [15, 27] (fr' := [(0, aI a0), (1, aB a1), (5, .one (.slc 15)), (7, aI i10676), (8, .one (.slc 27)), (9, aI i14226), (10, aI i15406), (11, aI i15796), (12, aI (w64 (Int.tdiv i14226 (4 : Int)))), (13, aI (Int.tmod i14226 (4 : Int))), (62, aB (!(r15926 == r15928)))]) (L' := [(15, .seq .bool x10677), (27, .seq .bool x15797)]) (by kernel_rfl) (by kernel_rfl) ?_
                      refine seqQ_norm ?_
                      refine W_cond (o := .tmp 62) (b := !(r15926 == r15928)) (by kernel_rfl) (by kernel_rfl) (fun h15930 => ?_) (fun h15930 => ?_)
                      · replace h := ofT h15930 h
                        obtain rfl := Option.some.inj h
                        refine W_exit (id := 9) [0, 1, 5, 7, 8, 9, 10, 11] [15, 27] (fr' := [(0, aI a0), (1, aB a1), (5, .one (.slc 15)), (7, aI i10676), (8, .one (.slc 27)), (9, aI i14226), (10, aI i15406), (11, aI i15796)]) (L' := [(15, .seq .bool x10677), (27, .seq .bool x15797)]) (by kernel_rfl) (by kernel_rfl) ?_
                        refine seqQ_exit ?_
                        refine blockQ_hit ?_
                        exact exQ_mk (by kernel_rfl) (by kernel_rfl)
                      · replace h := ofF h15930 h
                        refine W_skip [0, 1, 5, 7, 8, 9, 10, 11, 12, 13] [15, 27] (fr' := [(0, aI a0), (1, aB a1), (5, .one (.slc 15)), (7, aI i10676), (8, .one (.slc 27)), (9, aI i14226), (10, aI i15406), (11, aI i15796), (12, aI (w64 (Int.tdiv i14226 (4 : Int)))), (13, aI (Int.tmod i14226 (4 : Int)))]) (L' := [(15, .seq .bool x10677), (27, .seq .bool x15797)]) (by kernel_rfl) (by kernel_rfl) ?_
                        refine seqQ_norm ?_
                        refine W_seq (by kernel_rfl) ?_
                        refine W_run 13 [] [0, 1, 5, 7, 8, 9, 10, 11, 14] [15, 27] (fr' := [(0, aI a0), (1, aB a1), (5, .one (.slc 15)), (7, aI i10676), (8, .one (.slc 27)), (9, aI i14226), (10, aI i15406), (11, aI i15796), (14, aI (w64 ((w64 ((w64 ((w64 ((w64 ((Int.tmod (w64 (Int.tdiv i14226 (4 : Int))) (2 : Int)) * (2 : Int))) + i15406)) * (4 : Int))) + (w64 ((Int.tmod (Int.tmod i14226 (4 : Int)) (2 : Int)) * (2 : Int))))) + i15796)))]) (L' := [(15, .seq .bool x10677), (27, .seq .bool x15797)]) (obs := [((2 : Int) ≠ 0), ((2 : Int) ≠ 0)]) (by kernel_rfl) (by kernel_rfl) (by kernel_rfl) (allP2 (by decide) (allP1 (by decide))) ?_
                        refine seqQ_norm ?_
                        refine W_seq (by kernel_rfl) ?_
                        obtain ⟨v15973, h15974, h⟩ := bind_of h
                        refine W_cutK (Q' := (exQ .normal (ref_pairsOn_s2458 a0 a1 i10676 x10677 i14226 i15406 i15796)) v15973) ?_ ?_
                        · replace h := h15974
                          refine W_seq (by kernel_rfl) ?_
                          obtain ⟨v15968, h15969, h⟩ := bind_of h
                          refine W_cutK (Q' := (exQ .normal (ref_pairsOn_s2455 a0 a1 i10676 x10677 i14226 i15406 i15796 x15797)) v15968) ?_ ?_
                          · replace h := h15969
                            refine W_region (by kernel_rfl) ?_
                            refine WO_run (j := 2) (k := 2) (orcs := []) (kF := [0, 1, 5, 7, 8, 9, 10, 11, 14, 76]) (kL := [15, 27]) (fr' := [(0, aI a0), (1, aB a1), (5, .one (.slc 15)), (7, aI i10676), (8, .one (.slc 27)), (9, aI i14226), (10, aI i15406), (11, aI i15796), (14, aI (w64 ((w64 ((w64 ((w64 ((w64 ((Int.tmod (w64 (Int.tdiv i14226 (4 : Int))) (2 : Int)) * (2 : Int))) + i15406)) * (4 : Int))) + (w64 ((Int.tmod (Int.tmod i14226 (4 : Int)) (2 : Int)) * (2 : Int))))) + i15796))), (76, aB a1)]) (L' := [(15, .seq .bool x10677), (27, .seq .bool x15797)]) (obs := []) rfl (by kernel_rfl) allP0 ?_
                            rcases Bool.eq_false_or_eq_true (a1) with h15965 | h15965
                            · replace h := ofT h15965 h
                              obtain ⟨v15966, h15967, h⟩ := bind_of h
                              refine WO_run (j := 7) (k := 5) (orcs := [(4, .known true), (6, .known true), (8, .known true), (10, .known true), (11, .val (.dat .bool v15966)), (13, .val (.dat .bool true))]) (kF := [0, 1, 5, 7, 8, 9, 10, 11, 14, 81]) (kL := [15, 27]) (fr' := [(0, aI a0), (1, aB a1), (5, .one (.slc 15)), (7, aI i10676), (8, .one (.slc 27)), (9, aI i14226), (10, aI i15406), (11, aI i15796), (14, aI (w64 ((w64 ((w64 ((w64 ((w64 ((Int.tmod (w64 (Int.tdiv i14226 (4 : Int))) (2 : Int)) * (2 : Int))) + i15406)) * (4 : Int))) + (w64 ((Int.tmod (Int.tmod i14226 (4 : Int)) (2 : Int)) * (2 : Int))))) + i15796))), (81, aB v15966)]) (L' := [(15, .seq .bool x10677), (27, .seq .bool x15797)]) (obs := [(a1 = true), (a1 = true), (a1 = true), InR (w64 ((w64 ((w64 ((w64 ((w64 ((Int.tmod (w64 (Int.tdiv i14226 (4 : Int))) (2 : Int)) * (2 : Int))) + i15406)) * (4 : Int))) + (w64 ((Int.tmod (Int.tmod i14226 (4 : Int)) (2 : Int)) * (2 : Int))))) + i15796)) (List.length x10677), (a1 = true), Idx x10677 (w64 ((w64 ((w64 ((w64 ((w64 ((Int.tmod (w64 (Int.tdiv i14226 (4 : Int))) (2 : Int)) * (2 : Int))) + i15406)) * (4 : Int))) + (w64 ((Int.tmod (Int.tmod i14226 (4 : Int)) (2 : Int)) * (2 : Int))))) + i15796)) v15966, (a1 = true)]) rfl (by kernel_rfl) (allP2 h15965 (allP2 h15965 (allP2 h15965 (allP2 (InR.of h15967) (allP2 h15965 (allP2 (Idx.of h15967) (allP1 h15965))))))) ?_
                              obtain rfl := Option.some.inj h
                              refine WO_fin [0, 1, 5, 7, 8, 9, 10, 11, 14, 81] [15, 27] (fr' := [(0, aI a0), (1, aB a1), (5, .one (.slc 15)), (7, aI i10676), (8, .one (.slc 27)), (9, aI i14226), (10, aI i15406), (11, aI i15796), (14, aI (w64 ((w64 ((w64 ((w64 ((w64 ((Int.tmod (w64 (Int.tdiv i14226 (4 : Int))) (2 : Int)) * (2 : Int))) + i15406)) * (4 : Int))) + (w64 ((Int.tmod (Int.tmod i14226 (4 : Int)) (2 : Int)) * (2 : Int))))) + i15796))), (81, aB v15966)]) (L' := [(15, .seq .bool x10677), (27, .seq .bool x15797)]) (by kernel_rfl) (by kernel_rfl) ?_
                              exact exQ_mk (by kernel_rfl) (by kernel_rfl)
                            · replace h := ofF h15965 h
                              refine WO_run (j := 7) (k := 5) (orcs := [(4, .known false), (6, .known false), (8, .known false), (10, .known false), (13, .val (.dat .bool false))]) (kF := [0, 1, 5, 7, 8, 9, 10, 11, 14, 81]) (kL := [15, 27]) (fr' := [(0, aI a0), (1, aB a1), (5, .one (.slc 15)), (7, aI i10676), (8, .one (.slc 27)), (9, aI i14226), (10, aI i15406), (11, aI i15796), (14, aI (w64 ((w64 ((w64 ((w64 ((w64 ((Int.tmod (w64 (Int.tdiv i14226 (4 : Int))) (2 : Int)) * (2 : Int))) + i15406)) * (4 : Int))) + (w64 ((Int.tmod (Int.tmod i14226 (4 : Int)) (2 : Int)) * (2 : Int))))) + i15796))), (81, aB false)]) (L' := [(15, .seq .bool x10677), (27, .seq .bool x15797)]) (obs := [(a1 = false), (a1 = false), (a1 = false), (a1 = false), (a1 = false)]) rfl (by kernel_rfl) (allP2 h15965 (allP2 h15965 (allP2 h15965 (allP2 h15965 (allP1 h15965))))) ?_
                              obtain rfl := Option.some.inj h
                              refine WO_fin [0, 1, 5, 7, 8, 9, 10, 11, 14, 81] [15, 27] (fr' := [(0, aI a0), (1, aB a1), (5, .one (.slc 15)), (7, aI i10676), (8, .one (.slc 27)), (9, aI i14226), (10, aI i15406), (11, aI i15796), (14, aI (w64 ((w64 ((w64 ((w64 ((w64 ((Int.tmod (w64 (Int.tdiv i14226 (4 : Int))) (2 : Int)) * (2 : Int))) + i15406)) * (4 : Int))) + (w64 ((Int.tmod (Int.tmod i14226 (4 : Int)) (2 : Int)) * (2 : Int))))) + i15796))), (81, aB false)]) (L' := [(15, .seq .bool x10677), (27, .seq .bool x15797)]) (by kernel_rfl) (by kernel_rfl) ?_
                              exact exQ_mk (by kernel_rfl) (by kernel_rfl)
                          · intro e fr L hJ
                            obtain ⟨rfl, rfl, rfl⟩ := hJ
                            refine LT_keep [0, 1, 5, 7, 8, 9, 10, 11, 14, 81] [15, 27] (fr' := [(0, aI a0), (1, aB a1), (5, .one (.slc 15)), (7, aI i10676), (8, .one (.slc 27)), (9, aI i14226), (10, aI i15406), (11, aI i15796), (14, aI (w64 ((w64 ((w64 ((w64 ((w64 ((Int.tmod (w64 (Int.tdiv i14226 (4 : Int))) (2 : Int)) * (2 : Int))) + i15406)) * (4 : Int))) + (w64 ((Int.tmod (Int.tmod i14226 (4 : Int)) (2 : Int)) * (2 : Int))))) + i15796))), (81, aB v15968)]) (L' := [(15, .seq .bool x10677), (27, .seq .bool x15797)]) (by kernel_rfl) ?_
                            refine seqQ_norm ?_
                            refine W_cond (o := .tmp 81) (b := v15968) (by kernel_rfl) (by kernel_rfl) (fun h15970 => ?_) (fun h15970 => ?_)
                            · replace h := ofT h15970 h
                              obtain ⟨v15971, h15972, h⟩ := bind_of h
                              obtain rfl := Option.some.inj h
                              refine W_run 4 [] [0, 1, 5, 7, 8, 9, 10, 11, 14] [15, 27] (fr' := [(0, aI a0), (1, aB a1), (5, .one (.slc 15)), (7, aI i10676), (8, .one (.slc 27)), (9, aI i14226), (10, aI i15406), (11, aI i15796), (14, aI (w64 ((w64 ((w64 ((w64 ((w64 ((Int.tmod (w64 (Int.tdiv i14226 (4 : Int))) (2 : Int)) * (2 : Int))) + i15406)) * (4 : Int))) + (w64 ((Int.tmod (Int.tmod i14226 (4 : Int)) (2 : Int)) * (2 : Int))))) + i15796)))]) (L' := [(15, .seq .bool x10677), (27, .seq .bool (List.set x15797 (Int.toNat i14226) true))]) (obs := [InR i14226 (List.length x15797), InR i14226 (List.length x15797)]) (by kernel_rfl) (by kernel_rfl) (by kernel_rfl) (allP2 (InR.of h15972) (allP1 (InR.of h15972))) ?_
                              exact exQ_mk (by kernel_rfl) (by kernel_rfl)
                            · replace h := ofF h15970 h
                              obtain rfl := Option.some.inj h
                              refine W_skip [0, 1, 5, 7, 8, 9, 10, 11, 14] [15, 27] (fr' := [(0, aI a0), (1, aB a1), (5, .one (.slc 15)), (7, aI i10676), (8, .one (.slc 27)), (9, aI i14226), (10, aI i15406), (11, aI i15796), (14, aI (w64 ((w64 ((w64 ((w64 ((w64 ((Int.tmod (w64 (Int.tdiv i14226 (4 : Int))) (2 : Int)) * (2 : Int))) + i15406)) * (4 : Int))) + (w64 ((Int.tmod (Int.tmod i14226 (4 : Int)) (2 : Int)) * (2 : Int))))) + i15796)))]) (L' := [(15, .seq .bool x10677), (27, .seq .bool x15797)]) (by kernel_rfl) (by kernel_rfl) ?_
                              exact exQ_mk (by kernel_rfl) (by kernel_rfl)
                        · intro e fr L hJ
                          obtain ⟨rfl, rfl, rfl⟩ := hJ
                          refine LT_keep [0, 1, 5, 7, 8, 9, 10, 11, 14] [15, 27] (fr' := [(0, aI a0), (1, aB a1), (5, .one (.slc 15)), (7, aI i10676), (8, .one (.slc 27)), (9, aI i14226), (10, aI i15406), (11, aI i15796), (14, aI (w64 ((w64 ((w64 ((w64 ((w64 ((Int.tmod (w64 (Int.tdiv i14226 (4 : Int))) (2 : Int)) * (2 : Int))) + i15406)) * (4 : Int))) + (w64 ((Int.tmod (Int.tmod i14226 (4 : Int)) (2 : Int)) * (2 : Int))))) + i15796)))]) (L' := [(15, .seq .bool x10677), (27, .seq .bool v15973)]) (by kernel_rfl) ?_
                          refine seqQ_norm ?_
                          refine W_seq (by kernel_rfl) ?_
                          obtain ⟨v15984, h15985, h⟩ := bind_of h
                          refine W_cutK (Q' := (exQ .normal (ref_pairsOn_s2457 a0 a1 i10676 x10677 i14226 i15406 i15796 v15973)) v15984) ?_ ?_
                          · replace h := h15985
                            refine W_region (by kernel_rfl) ?_
                            refine WO_run (j := 3) (k := 3) (orcs := []) (kF := [0, 1, 5, 7, 8, 9, 10, 11, 14, 87]) (kL := [15, 27]) (fr' := [(0, aI a0), (1, aB a1), (5, .one (.slc 15)), (7, aI i10676), (8, .one (.slc 27)), (9, aI i14226), (10, aI i15406), (11, aI i15796), (14, aI (w64 ((w64 ((w64 ((w64 ((w64 ((Int.tmod (w64 (Int.tdiv i14226 (4 : Int))) (2 : Int)) * (2 : Int))) + i15406)) * (4 : Int))) + (w64 ((Int.tmod (Int.tmod i14226 (4 : Int)) (2 : Int)) * (2 : Int))))) + i15796))), (87, aB (!a1))]) (L' := [(15, .seq .bool x10677), (27, .seq .bool v15973)]) (obs := []) rfl (by kernel_rfl) allP0 ?_
                            rcases Bool.eq_false_or_eq_true (!a1) with h15981 | h15981
                            · replace h := ofT h15981 h
                              obtain ⟨v15982, h15983, h⟩ := bind_of h
                              refine WO_run (j := 8) (k := 5) (orcs := [(6, .known true), (8, .known true), (10, .known true), (12, .known true), (13, .val (.dat .bool v15982)), (15, .val (.dat .bool true))]) (kF := [0, 1, 5, 7, 8, 9, 10, 11, 14, 92]) (kL := [15, 27]) (fr' := [(0, aI a0), (1, aB a1), (5, .one (.slc 15)), (7, aI i10676), (8, .one (.slc 27)), (9, aI i14226), (10, aI i15406), (11, aI i15796), (14, aI (w64 ((w64 ((w64 ((w64 ((w64 ((Int.tmod (w64 (Int.tdiv i14226 (4 : Int))) (2 : Int)) * (2 : Int))) + i15406)) * (4 : Int))) + (w64 ((Int.tmod (Int.tmod i14226 (4 : Int)) (2 : Int)) * (2 : Int))))) + i15796))), (92, aB v15982)]) (L' := [(15, .seq .bool x10677), (27, .seq .bool v15973)]) (obs := [((!a1) = true), ((!a1) = true), ((!a1) = true), InR i14226 (List.length x10677), ((!a1) = true), Idx x10677 i14226 v15982, ((!a1) = true)]) rfl (by kernel_rfl) (allP2 h15981 (allP2 h15981 (allP2 h15981 (allP2 (InR.of h15983) (allP2 h15981 (allP2 (Idx.of h15983) (allP1 h15981))))))) ?_
                              obtain rfl := Option.some.inj h
                              refine WO_fin [0, 1, 5, 7, 8, 9, 10, 11, 14, 92] [15, 27] (fr' := [(0, aI a0), (1, aB a1), (5, .one (.slc 15)), (7, aI i10676), (8, .one (.slc 27)), (9, aI i14226), (10, aI i15406), (11, aI i15796), (14, aI (w64 ((w64 ((w64 ((w64 ((w64 ((Int.tmod (w64 (Int.tdiv i14226 (4 : Int))) (2 : Int)) * (2 : Int))) + i15406)) * (4 : Int))) + (w64 ((Int.tmod (Int.tmod i14226 (4 : Int)) (2 : Int)) * (2 : Int))))) + i15796))), (92, aB v15982)]) (L' := [(15, .seq .bool x10677), (27, .seq .bool v15973)]) (by kernel_rfl) (by kernel_rfl) ?_
                              exact exQ_mk (by kernel_rfl) (by kernel_rfl)
                            · replace h := ofF h15981 h
                              refine WO_run (j := 8) (k := 5) (orcs := [(6, .known false), (8, .known false), (10, .known false), (12, .known false), (15, .val (.dat .bool false))]) (kF := [0, 1, 5, 7, 8, 9, 10, 11, 14, 92]) (kL := [15, 27]) (fr' := [(0, aI a0), (1, aB a1), (5, .one (.slc 15)), (7, aI i10676), (8, .one (.slc 27)), (9, aI i14226), (10, aI i15406), (11, aI i15796), (14, aI (w64 ((w64 ((w64 ((w64 ((w64 ((Int.tmod (w64 (Int.tdiv i14226 (4 : Int))) (2 : Int)) * (2 : Int))) + i15406)) * (4 : Int))) + (w64 ((Int.tmod (Int.tmod i14226 (4 : Int)) (2 : Int)) * (2 : Int))))) + i15796))), (92, aB false)]) (L' := [(15, .seq .bool x10677), (27, .seq .bool v15973)]) (obs := [((!a1) = false), ((!a1) = false), ((!a1) = false), ((!a1) = false), ((!a1) = false)]) rfl (by kernel_rfl) (allP2 h15981 (allP2 h15981 (allP2 h15981 (allP2 h15981 (allP1 h15981))))) ?_
                              obtain rfl := Option.some.inj h
                              refine WO_fin [0, 1, 5, 7, 8, 9, 10, 11, 14, 92] [15, 27] (fr' := [(0, aI a0), (1, aB a1), (5, .one (.slc 15)), (7, aI i10676), (8, .one (.slc 27)), (9, aI i14226), (10, aI i15406), (11, aI i15796), (14, aI (w64 ((w64 ((w64 ((w64 ((w64 ((Int.tmod (w64 (Int.tdiv i14226 (4 : Int))) (2 : Int)) * (2 : Int))) + i15406)) * (4 : Int))) + (w64 ((Int.tmod (Int.tmod i14226 (4 : Int)) (2 : Int)) * (2 : Int))))) + i15796))), (92, aB false)]) (L' := [(15, .seq .bool x10677), (27, .seq .bool v15973)]) (by kernel_rfl) (by kernel_rfl) ?_
                              exact exQ_mk (by kernel_rfl) (by kernel_rfl)
                          · intro e fr L hJ
                            obtain ⟨rfl, rfl, rfl⟩ := hJ
                            refine LT_keep [0, 1, 5, 7, 8, 9, 10, 11, 14, 92] [15, 27] (fr' := [(0, aI a0), (1, aB a1), (5, .one (.slc 15)), (7, aI i10676), (8, .one (.slc 27)), (9, aI i14226), (10, aI i15406), (11, aI i15796), (14, aI (w64 ((w64 ((w64 ((w64 ((w64 ((Int.tmod (w64 (Int.tdiv i14226 (4 : Int))) (2 : Int)) * (2 : Int))) + i15406)) * (4 : Int))) + (w64 ((Int.tmod (Int.tmod i14226 (4 : Int)) (2 : Int)) * (2 : Int))))) + i15796))), (92, aB v15984)]) (L' := [(15, .seq .bool x10677), (27, .seq .bool v15973)]) (by kernel_rfl) ?_
                            refine seqQ_norm ?_
                            refine W_cond (o := .tmp 92) (b := v15984) (by kernel_rfl) (by kernel_rfl) (fun h15986 => ?_) (fun h15986 => ?_)
                            · replace h := ofT h15986 h
                              obtain ⟨v15987, h15988, h⟩ := bind_of h
                              obtain rfl := Option.some.inj h
                              refine W_run 4 [] [0, 1, 5, 7, 8, 9, 10, 11] [15, 27] (fr' := [(0, aI a0), (1, aB a1), (5, .one (.slc 15)), (7, aI i10676), (8, .one (.slc 27)), (9, aI i14226), (10, aI i15406), (11, aI i15796)]) (L' := [(15, .seq .bool x10677), (27, .seq .bool (List.set v15973 (Int.toNat (w64 ((w64 ((w64 ((w64 ((w64 ((Int.tmod (w64 (Int.tdiv i14226 (4 : Int))) (2 : Int)) * (2 : Int))) + i15406)) * (4 : Int))) + (w64 ((Int.tmod (Int.tmod i14226 (4 : Int)) (2 : Int)) * (2 : Int))))) + i15796))) true))]) (obs := [InR (w64 ((w64 ((w64 ((w64 ((w64 ((Int.tmod (w64 (Int.tdiv i14226 (4 : Int))) (2 : Int)) * (2 : Int))) + i15406)) * (4 : Int))) + (w64 ((Int.tmod (Int.tmod i14226 (4 : Int)) (2 : Int)) * (2 : Int))))) + i15796)) (List.length v15973), InR (w64 ((w64 ((w64 ((w64 ((w64 ((Int.tmod (w64 (Int.tdiv i14226 (4 : Int))) (2 : Int)) * (2 : Int))) + i15406)) * (4 : Int))) + (w64 ((Int.tmod (Int.tmod i14226 (4 : Int)) (2 : Int)) * (2 : Int))))) + i15796)) (List.length v15973)]) (by kernel_rfl) (by kernel_rfl) (by kernel_rfl) (allP2 (InR.of h15988) (allP1 (InR.of h15988))) ?_
                              refine blockQ_norm ?_
                              exact exQ_mk (by kernel_rfl) (by kernel_rfl)
                            · replace h := ofF h15986 h
                              obtain rfl := Option.some.inj h
                              refine W_skip [0, 1, 5, 7, 8, 9, 10, 11] [15, 27] (fr' := [(0, aI a0), (1, aB a1), (5, .one (.slc 15)), (7, aI i10676), (8, .one (.slc 27)), (9, aI i14226), (10, aI i15406), (11, aI i15796)]) (L' := [(15, .seq .bool x10677), (27, .seq .bool v15973)]) (by kernel_rfl) (by kernel_rfl) ?_
                              refine blockQ_norm ?_
                              exact exQ_mk (by kernel_rfl) (by kernel_rfl)
                    · intro e fr L hJ
                      obtain ⟨rfl, rfl, rfl⟩ := hJ
                      refine LT_keep [0, 1, 5, 7, 8, 9, 10, 11] [15, 27] (fr' := [(0, aI a0), (1, aB a1), (5, .one (.slc 15)), (7, aI i10676), (8, .one (.slc 27)), (9, aI i14226), (10, aI i15406), (11, aI i15796)]) (L' := [(15, .seq .bool x10677), (27, .seq .bool v15989)]) (by kernel_rfl) ?_
                      refine seqQ_norm ?_
                      obtain rfl := Option.some.inj h
                      refine W_run 3 [] [0, 1, 5, 7, 8, 9, 10, 11] [15, 27] (fr' := [(0, aI a0), (1, aB a1), (5, .one (.slc 15)), (7, aI i10676), (8, .one (.slc 27)), (9, aI i14226), (10, aI i15406), (11, aI (w64 (i15796 + (1 : Int))))]) (L' := [(15, .seq .bool x10677), (27, .seq .bool v15989)]) (obs := []) (by kernel_rfl) (by kernel_rfl) (by kernel_rfl) allP0 ?_
                      exact round_next' (by kernel_rfl) (by kernel_rfl)
                  · obtain rfl := stepI_false h15799 h
                    refine W_exit (id := 8) [0, 1, 5, 7, 8, 9, 10] [15, 27] (fr' := [(0, aI a0), (1, aB a1), (5, .one (.slc 15)), (7, aI i10676), (8, .one (.slc 27)), (9, aI i14226), (10, aI i15406)]) (L' := [(15, .seq .bool x10677), (27, .seq .bool x15797)]) (by kernel_rfl) (by kernel_rfl) ?_
                    refine seqQ_exit ?_
                    refine round_exit ?_
                    exact exQ_mk (by kernel_rfl) (by kernel_rfl)
                · intro e fr L hJ
                  obtain ⟨rfl, rfl, rfl⟩ := hJ
                  refine LT_keep [0, 1, 5, 7, 8, 9, 10] [15, 27] (fr' := [(0, aI a0), (1, aB a1), (5, .one (.slc 15)), (7, aI i10676), (8, .one (.slc 27)), (9, aI i14226), (10, aI i15406)]) (L' := [(15, .seq .bool x10677), (27, .seq .bool v15992)]) (by kernel_rfl) ?_
                  refine blockQ_hit ?_
                  refine blockQ_norm ?_
                  refine seqQ_norm ?_
                  obtain rfl := Option.some.inj h
                  refine W_run 3 [] [0, 1, 5, 7, 8, 9, 10] [15, 27] (fr' := [(0, aI a0), (1, aB a1), (5, .one (.slc 15)), (7, aI i10676), (8, .one (.slc 27)), (9, aI i14226), (10, aI (w64 (i15406 + (1 : Int))))]) (L' := [(15, .seq .bool x10677), (27, .seq .bool v15992)]) (obs := []) (by kernel_rfl) (by kernel_rfl) (by kernel_rfl) allP0 ?_
                  exact round_next' (by kernel_rfl) (by kernel_rfl)
              · obtain rfl := stepI_false h15409 h
                refine W_exit (id := 6) [0, 1, 5, 7, 8, 9] [15, 27] (fr' := [(0, aI a0), (1, aB a1), (5, .one (.slc 15)), (7, aI i10676), (8, .one (.slc 27)), (9, aI i14226)]) (L' := [(15, .seq .bool x10677), (27, .seq .bool x15407)]) (by kernel_rfl) (by kernel_rfl) ?_
                refine seqQ_exit ?_
                refine round_exit ?_
                exact exQ_mk (by kernel_rfl) (by kernel_rfl)
            · intro e fr L hJ
              obtain ⟨rfl, rfl, rfl⟩ := hJ
              refine LT_keep [0, 1, 5, 7, 8, 9] [15, 27] (fr' := [(0, aI a0), (1, aB a1), (5, .one (.slc 15)), (7, aI i10676), (8, .one (.slc 27)), (9, aI i14226)]) (L' := [(15, .seq .bool x10677), (27, .seq .bool v15997)]) (by kernel_rfl) ?_
              refine blockQ_hit ?_
              refine blockQ_norm ?_
              refine seqQ_norm ?_
              obtain rfl := Option.some.inj h
              refine W_run 3 [] [0, 1, 5, 7, 8, 9] [15, 27] (fr' := [(0, aI a0), (1, aB a1), (5, .one (.slc 15)), (7, aI i10676), (8, .one (.slc 27)), (9, aI (w64 (i14226 + (1 : Int))))]) (L' := [(15, .seq .bool x10677), (27, .seq .bool v15997)]) (obs := []) (by kernel_rfl) (by kernel_rfl) (by kernel_rfl) allP0 ?_
              exact round_next' (by kernel_rfl) (by kernel_rfl)
          · obtain rfl := stepI_false h14229 h
            refine W_exit (id := 4) [0, 1, 7, 8] [27] (fr' := [(0, aI a0), (1, aB a1), (7, aI i10676), (8, .one (.slc 27))]) (L' := [(27, .seq .bool x14227)]) (by kernel_rfl) (by kernel_rfl) ?_
            refine seqQ_exit ?_
            refine round_exit ?_
            exact exQ_mk (by kernel_rfl) (by kernel_rfl)
        · intro e fr L hJ
          obtain ⟨rfl, rfl, rfl⟩ := hJ
          refine LT_keep [0, 1, 7, 8] [27] (fr' := [(0, aI a0), (1, aB a1), (7, aI i10676), (8, .one (.slc 27))]) (L' := [(27, .seq .bool v16002)]) (by kernel_rfl) ?_
          refine blockQ_hit ?_
          refine seqQ_norm ?_
          refine W_run 2 [] [0, 1, 5, 7] [27] (fr' := [(0, aI a0), (1, aB a1), (5, .one (.slc 27)), (7, aI i10676)]) (L' := [(27, .seq .bool v16002)]) (obs := []) (by kernel_rfl) (by kernel_rfl) (by kernel_rfl) allP0 ?_
          refine blockQ_norm ?_
          refine seqQ_norm ?_
          refine W_region (by kernel_rfl) ?_
          refine WO_run (j := 3) (k := 3) (orcs := []) (kF := [0, 1, 5, 7]) (kL := [27]) (fr' := [(0, aI a0), (1, aB a1), (5, .one (.slc 27)), (7, aI (w64 (i10676 + (1 : Int))))]) (L' := [(27, .seq .bool v16002)]) (obs := []) rfl (by kernel_rfl) allP0 ?_
          obtain rfl := Option.some.inj h
          refine WO_ren 27 15 (by kernel_rfl) ?_
          refine WO_fin [0, 1, 5, 7] [15] (fr' := [(0, aI a0), (1, aB a1), (5, .one (.slc 15)), (7, aI (w64 (i10676 + (1 : Int))))]) (L' := [(15, .seq .bool v16002)]) (by kernel_rfl) (by kernel_rfl) ?_
          exact round_next' (by kernel_rfl) (by kernel_rfl)
      · obtain rfl := stepI_false h10679 h
        refine W_exit (id := 2) [5] [15] (fr' := [(5, .one (.slc 15))]) (L' := [(15, .seq .bool x10677)]) (by kernel_rfl) (by kernel_rfl) ?_
        refine seqQ_exit ?_
        refine round_exit ?_
        exact exQ_mk (by kernel_rfl) (by kernel_rfl)
    · intro e fr L hJ
      obtain ⟨rfl, rfl, rfl⟩ := hJ
      refine LT_keep [5] [15] (fr' := [(5, .one (.slc 15))]) (L' := [(15, .seq .bool v16007)]) (by kernel_rfl) ?_
      refine blockQ_hit ?_
      refine seqQ_norm ?_
      refine W_seq (by kernel_rfl) ?_
      refine W_run 2 [] [4] [15] (fr' := [(4, .one (.slc 15))]) (L' := [(15, .seq .bool v16007)]) (obs := []) (by kernel_rfl) (by kernel_rfl) (by kernel_rfl) allP0 ?_
      refine seqQ_norm ?_
      obtain rfl := Option.some.inj h
      refine W_frz 15 (by kernel_rfl) ?_
      refine W_ret [4] [] (fr' := [(4, aD (.slice .bool) v16007)]) (L' := []) (by kernel_rfl) (by kernel_rfl) ?_
      exact retQ_mk (by kernel_rfl) (by kernel_rfl) (by kernel_rfl)

def ref_Single_g5 (r1 : (List Bool)) (r3 : (List Bool)) (i45 : Int) : Option Bool :=
(idx r1 i45).bind fun v59 =>
bif v59 then
((idx r3 i45).bind fun v62 =>
some (v62 && ((w64 (Int.tdiv i45 (4 : Int))) != (Int.tmod i45 (4 : Int)))))
else
(some false)
@[reducible] def ref_Single_s6 (r1 : (List Bool)) (r3 : (List Bool)) (i45 : Int) (v : Bool) : Fr × LL := ([(3, aD (.slice .bool) r1), (4, aD (.slice .bool) r3), (5, aI i45), (30, aB v)], [])
def ref_Single_b7 (r1 : (List Bool)) (r3 : (List Bool)) (i45 : Int) (x46 : Unit) : Option (Flow Unit (Esc Bool Unit)) :=
(ref_Single_g5 r1 r3 i45).bind fun v64 =>
bif v64 then
(some (.done (.ret false)))
else
(some (.next ()))
@[reducible] def ref_Single_s8 (r1 : (List Bool)) (r3 : (List Bool)) (v : Int × Unit) : Fr × LL := ([(3, aD (.slice .bool) r1), (4, aD (.slice .bool) r3), (5, aI v.1)], [])
@[reducible] def ref_Single_s9 (v : Bool) : Fr × LL := ([(2, aB v)], [])
@[reducible] def ref_Single_s10 (v : Unit) : Fr × LL := ([], [])
def ref_Single (a0 : Int) : Option Bool :=
(ref_pairsOn a0 true).bind fun r1 =>
(ref_pairsOn a0 false).bind fun r3 =>
(forI (0 : Int) (16 : Int) (ref_Single_b7 r1 r3) (fun x46 => (.brk ())) ()).bind fun v68 =>
match v68 with
| .ret v72 =>
(some v72)
| .brk v73 =>
(some true)
theorem ref_Single_ok {a0 : Int} {r : Bool} (h : ref_Single a0 = some r) : FnC Try.prog 19 [aI a0] [] (aB r) [] := by
  refine fnC_of_W (B := bodyOf Try.f19) (n := 31) Try.func19 (by kernel_rfl) (by kernel_rfl) (by kernel_rfl) (by kernel_rfl) (by kernel_rfl) ?_
  intro K
  refine W_seq (by kernel_rfl) ?_
  refine W_run 1 [] [0] [] (fr' := [(0, aI a0)]) (L' := []) (obs := []) (by kernel_rfl) (by kernel_rfl) (by kernel_rfl) allP0 ?_
  refine seqQ_norm ?_
  refine W_seq (by kernel_rfl) ?_
  refine W_region (by kernel_rfl) ?_
  refine WO_run (j := 1) (k := 1) (orcs := []) (kF := [0, 6]) (kL := []) (fr' := [(0, aI a0), (6, aI a0)]) (L' := []) (obs := []) rfl (by kernel_rfl) allP0 ?_
  obtain ⟨r1, h2, h⟩ := bind_of h
  refine WO_call0 (us := [none, none]) (d := 7) (p := True) (j := 2) rfl ⟨by kernel_rfl, by kernel_rfl, by kernel_rfl⟩ trivial (ref_pairsOn_ok h2) (by kernel_rfl) ?_
  refine WO_run (j := 3) (k := 1) (orcs := []) (kF := [0, 3]) (kL := []) (fr' := [(0, aI a0), (3, aD (.slice .bool) r1)]) (L' := []) (obs := []) rfl (by kernel_rfl) allP0 ?_
  refine WO_fin [0, 3] [] (fr' := [(0, aI a0), (3, aD (.slice .bool) r1)]) (L' := []) (by kernel_rfl) (by kernel_rfl) ?_
  refine seqQ_norm ?_
  refine W_seq (by kernel_rfl) ?_
  refine W_region (by kernel_rfl) ?_
  refine WO_run (j := 1) (k := 1) (orcs := []) (kF := [3, 8]) (kL := []) (fr' := [(3, aD (.slice .bool) r1), (8, aI a0)]) (L' := []) (obs := []) rfl (by kernel_rfl) allP0 ?_
  obtain ⟨r3, h4, h⟩ := bind_of h
  refine WO_call0 (us := [none, none]) (d := 9) (p := True) (j := 2) rfl ⟨by kernel_rfl, by kernel_rfl, by kernel_rfl⟩ trivial (ref_pairsOn_ok h4) (by kernel_rfl) ?_
  refine WO_run (j := 3) (k := 1) (orcs := []) (kF := [3, 4]) (kL := []) (fr' := [(3, aD (.slice .bool) r1), (4, aD (.slice .bool) r3)]) (L' := []) (obs := []) rfl (by kernel_rfl) allP0 ?_
  refine WO_fin [3, 4] [] (fr' := [(3, aD (.slice .bool) r1), (4, aD (.slice .bool) r3)]) (L' := []) (by kernel_rfl) (by kernel_rfl) ?_
  refine seqQ_norm ?_
  refine W_seq (by kernel_rfl) ?_
  refine W_seq (by kernel_rfl) ?_
  refine W_run 1 [] [3, 4, 5] [] (fr' := [(3, aD (.slice .bool) r1), (4, aD (.slice .bool) r3), (5, aI (0 : Int))]) (L' := []) (obs := []) (by kernel_rfl) (by kernel_rfl) (by kernel_rfl) allP0 ?_
  refine seqQ_norm ?_
  refine W_block (id := 0) (by kernel_rfl) ?_
  obtain ⟨v68, h69, h⟩ := bind_of h
  obtain ⟨h70, h71⟩ := forI_iter h69
  refine W_weaken [3, 4, 5] [] (fr' := ((ref_Single_s8 r1 r3) ((0 : Int), ())).1) (L' := ((ref_Single_s8 r1 r3) ((0 : Int), ())).2) (by kernel_rfl) ?_
  refine W_cutK (W_loop (S := (ref_Single_s8 r1 r3)) (J := (escQ (exQ .ret ref_Single_s9) (exQ (.exit 0) ref_Single_s10))) (by kernel_rfl) ?_ h70 _ v68 h71) ?_
  · rintro ⟨i45, x46⟩ s h
    refine W_seq (by kernel_rfl) ?_
    refine W_seq (by kernel_rfl) ?_
    refine W_run 2 [] [3, 4, 5, 11] [] (fr' := [(3, aD (.slice .bool) r1), (4, aD (.slice .bool) r3), (5, aI i45), (11, aB (decide (i45 < (16 : Int))))]) (L' := []) (obs := []) (by kernel_rfl) (by kernel_rfl) (by kernel_rfl) allP0 ?_
    refine seqQ_norm ?_
    refine W_cond (o := .tmp 11) (b := decide (i45 < (16 : Int))) (by kernel_rfl) (by kernel_rfl) (fun h48 => ?_) (fun h48 => ?_)
    · replace h := stepI_true h48 h
      obtain ⟨_, h, rfl⟩ := h
      refine W_skip [3, 4, 5] [] (fr' := [(3, aD (.slice .bool) r1), (4, aD (.slice .bool) r3), (5, aI i45)]) (L' := []) (by kernel_rfl) (by kernel_rfl) ?_
      refine seqQ_norm ?_
      refine W_seq (by kernel_rfl) ?_
      refine W_block (id := 1) (by kernel_rfl) ?_
      refine W_seq (by kernel_rfl) ?_
      obtain ⟨v64, h65, h⟩ := bind_of h
      refine W_cutK (Q' := (exQ .normal (ref_Single_s6 r1 r3 i45)) v64) ?_ ?_
      · replace h := h65
        obtain ⟨v59, h60, h⟩ := bind_of h
        refine W_region (by kernel_rfl) ?_
        refine WO_run (j := 5) (k := 5) (orcs := [(5, .val (.dat .bool v59))]) (kF := [3, 4, 5, 18]) (kL := []) (fr' := [(3, aD (.slice .bool) r1), (4, aD (.slice .bool) r3), (5, aI i45), (18, aB v59)]) (L' := []) (obs := [Idx r1 i45 v59]) rfl (by kernel_rfl) (allP1 (Idx.of h60)) ?_
        rcases Bool.eq_false_or_eq_true (v59) with h61 | h61
        · replace h := ofT h61 h
          obtain ⟨v62, h63, h⟩ := bind_of h
          refine WO_run (j := 17) (k := 12) (orcs := [(10, .known true), (12, .known true), (14, .known true), (15, .val (.dat .bool v62)), (16, .known true), (19, .val (.dat .bool true))]) (kF := [3, 4, 5, 30]) (kL := []) (fr' := [(3, aD (.slice .bool) r1), (4, aD (.slice .bool) r3), (5, aI i45), (30, aB (v62 && ((w64 (Int.tdiv i45 (4 : Int))) != (Int.tmod i45 (4 : Int)))))]) (L' := []) (obs := [(v59 = true), (v59 = true), (v59 = true), Idx r3 i45 v62, (v59 = true), (v59 = true), ((4 : Int) ≠ 0), ((4 : Int) ≠ 0)]) rfl (by kernel_rfl) (allP2 h61 (allP2 h61 (allP2 h61 (allP2 (Idx.of h63) (allP2 h61 (allP2 h61 (allP2 (by decide) (allP1 (by decide))))))))) ?_
          obtain rfl := Option.some.inj h
          refine WO_fin [3, 4, 5, 30] [] (fr' := [(3, aD (.slice .bool) r1), (4, aD (.slice .bool) r3), (5, aI i45), (30, aB (v62 && ((w64 (Int.tdiv i45 (4 : Int))) != (Int.tmod i45 (4 : Int)))))]) (L' := []) (by kernel_rfl) (by kernel_rfl) ?_
          exact exQ_mk (by kernel_rfl) (by kernel_rfl)
        · replace h := ofF h61 h
          refine WO_run (j := 17) (k := 12) (orcs := [(10, .known false), (12, .known false), (14, .known false), (16, .known false), (19, .val (.dat .bool false)), (22, .known false), (24, .known false), (26, .known false), (28, .known false), (30, .known false), (33, .val (.dat .bool false))]) (kF := [3, 4, 5, 30]) (kL := []) (fr' := [(3, aD (.slice .bool) r1), (4, aD (.slice .bool) r3), (5, aI i45), (30, aB false)]) (L' := []) (obs := [(v59 = false), (v59 = false), (v59 = false), (v59 = false), (v59 = false), (false = false), (false = false), (false = false), (false = false), (false = false), (false = false)]) rfl (by kernel_rfl) (allP2 h61 (allP2 h61 (allP2 h61 (allP2 h61 (allP2 h61 (allP2 rfl (allP2 rfl (allP2 rfl (allP2 rfl (allP2 rfl (allP1 rfl))))))))))) ?_
          obtain rfl := Option.some.inj h
          refine WO_fin [3, 4, 5, 30] [] (fr' := [(3, aD (.slice .bool) r1), (4, aD (.slice .bool) r3), (5, aI i45), (30, aB false)]) (L' := []) (by kernel_rfl) (by kernel_rfl) ?_
          exact exQ_mk (by kernel_rfl) (by kernel_rfl)
      · intro e fr L hJ
        obtain ⟨rfl, rfl, rfl⟩ := hJ
        refine LT_keep [3, 4, 5, 30] [] (fr' := [(3, aD (.slice .bool) r1), (4, aD (.slice .bool) r3), (5, aI i45), (30, aB v64)]) (L' := []) (by kernel_rfl) ?_
        refine seqQ_norm ?_
        refine W_cond (o := .tmp 30) (b := v64) (by kernel_rfl) (by kernel_rfl) (fun h66 => ?_) (fun h66 => ?_)
        · replace h := ofT h66 h
          refine W_seq (by kernel_rfl) ?_
          refine W_run 1 [] [2] [] (fr' := [(2, aB false)]) (L' := []) (obs := []) (by kernel_rfl) (by kernel_rfl) (by kernel_rfl) allP0 ?_
          refine seqQ_norm ?_
          obtain rfl := Option.some.inj h
          refine W_ret [2] [] (fr' := [(2, aB false)]) (L' := []) (by kernel_rfl) (by kernel_rfl) ?_
          refine blockQ_ret ?_
          refine seqQ_ret ?_
          refine round_ret ?_
          refine escQ_ret ?_
          exact exQ_mk (by kernel_rfl) (by kernel_rfl)
        · replace h := ofF h66 h
          refine W_skip [3, 4, 5] [] (fr' := [(3, aD (.slice .bool) r1), (4, aD (.slice .bool) r3), (5, aI i45)]) (L' := []) (by kernel_rfl) (by kernel_rfl) ?_
          refine blockQ_norm ?_
          refine seqQ_norm ?_
          obtain rfl := Option.some.inj h
          refine W_run 3 [] [3, 4, 5] [] (fr' := [(3, aD (.slice .bool) r1), (4, aD (.slice .bool) r3), (5, aI (w64 (i45 + (1 : Int))))]) (L' := []) (obs := []) (by kernel_rfl) (by kernel_rfl) (by kernel_rfl) allP0 ?_
          exact round_next' (by kernel_rfl) (by kernel_rfl)
    · obtain rfl := stepI_false h48 h
      refine W_exit (id := 0) [] [] (fr' := []) (L' := []) (by kernel_rfl) (by kernel_rfl) ?_
      refine seqQ_exit ?_
      refine round_exit ?_
      refine escQ_brk ?_
      exact exQ_mk (by kernel_rfl) (by kernel_rfl)
  · intro e fr L hJ
    rcases v68 with v72 | v73
    · obtain ⟨rfl, rfl, rfl⟩ := hJ
      obtain rfl := Option.some.inj h
      refine LT_keep [2] [] (fr' := [(2, aB v72)]) (L' := []) (by kernel_rfl) ?_
      refine blockQ_ret ?_
      refine seqQ_ret ?_
      exact retQ_mk (by kernel_rfl) (by kernel_rfl) (by kernel_rfl)
    · obtain ⟨rfl, rfl, rfl⟩ := hJ
      refine LT_keep [] [] (fr' := []) (L' := []) (by kernel_rfl) ?_
      refine blockQ_hit ?_
      refine seqQ_norm ?_
      refine W_seq (by kernel_rfl) ?_
      refine W_run 1 [] [2] [] (fr' := [(2, aB true)]) (L' := []) (obs := []) (by kernel_rfl) (by kernel_rfl) (by kernel_rfl) allP0 ?_
      refine seqQ_norm ?_
      obtain rfl := Option.some.inj h
      refine W_ret [2] [] (fr' := [(2, aB true)]) (L' := []) (by kernel_rfl) (by kernel_rfl) ?_
      exact retQ_mk (by kernel_rfl) (by kernel_rfl) (by kernel_rfl)

@[reducible] def law_CellSingles_s1 (v : Bool) : Fr × LL := ([(2, aB v)], [])
def law_CellSingles (fuel : Nat) (a0 : Int) : Option Bool :=
(cell_Single fuel a0).bind fun r1 =>
(law_ruleCode a0).bind fun r3 =>
bif r3 != (0 : Int) then
(some ((r1.2 == r3) && (!r1.1)))
else
((bif r1.2 == (0 : Int) then
((ref_Single a0).bind fun r13 =>
some (r1.1 == r13))
else
(some false)).bind fun v15 =>
some v15)
theorem law_CellSingles_ok {fuel : Nat} {a0 : Int} {r : Bool} (h : law_CellSingles fuel a0 = some r) : FnC Try.prog 4 [aI a0] [] (aB r) [] := by
  refine fnC_of_W (B := bodyOf Try.f4) (n := 30) Try.func4 (by kernel_rfl) (by kernel_rfl) (by kernel_rfl) (by kernel_rfl) (by kernel_rfl) ?_
  intro K
  refine W_seq (by kernel_rfl) ?_
  refine W_run 1 [] [0] [] (fr' := [(0, aI a0)]) (L' := []) (obs := []) (by kernel_rfl) (by kernel_rfl) (by kernel_rfl) allP0 ?_
  refine seqQ_norm ?_
  refine W_seq (by kernel_rfl) ?_
  refine W_region (by kernel_rfl) ?_
  refine WO_run (j := 1) (k := 1) (orcs := []) (kF := [0, 7]) (kL := []) (fr' := [(0, aI a0), (7, aI a0)]) (L' := []) (obs := []) rfl (by kernel_rfl) allP0 ?_
  obtain ⟨r1, h2, h⟩ := bind_of h
  refine WO_call0 (us := [none]) (d := 8) (p := True) (j := 2) rfl ⟨by kernel_rfl, by kernel_rfl, by kernel_rfl⟩ trivial (cell_Single_ok h2) (by kernel_rfl) ?_
  refine WO_run (j := 7) (k := 5) (orcs := []) (kF := [0, 3, 4]) (kL := []) (fr' := [(0, aI a0), (3, aB r1.1), (4, aI r1.2)]) (L' := []) (obs := []) rfl (by kernel_rfl) allP0 ?_
  refine WO_fin [0, 3, 4] [] (fr' := [(0, aI a0), (3, aB r1.1), (4, aI r1.2)]) (L' := []) (by kernel_rfl) (by kernel_rfl) ?_
  refine seqQ_norm ?_
  refine W_seq (by kernel_rfl) ?_
  refine W_region (by kernel_rfl) ?_
  refine WO_run (j := 1) (k := 1) (orcs := []) (kF := [0, 3, 4, 11]) (kL := []) (fr' := [(0, aI a0), (3, aB r1.1), (4, aI r1.2), (11, aI a0)]) (L' := []) (obs := []) rfl (by kernel_rfl) allP0 ?_
  obtain ⟨r3, h4, h⟩ := bind_of h
  refine WO_call0 (us := [none]) (d := 12) (p := True) (j := 2) rfl ⟨by kernel_rfl, by kernel_rfl, by kernel_rfl⟩ trivial (law_ruleCode_ok h4) (by kernel_rfl) ?_
  refine WO_run (j := 3) (k := 1) (orcs := []) (kF := [0, 3, 4, 5]) (kL := []) (fr' := [(0, aI a0), (3, aB r1.1), (4, aI r1.2), (5, aI r3)]) (L' := []) (obs := []) rfl (by kernel_rfl) allP0 ?_
  refine WO_fin [0, 3, 4, 5] [] (fr' := [(0, aI a0), (3, aB r1.1), (4, aI r1.2), (5, aI r3)]) (L' := []) (by kernel_rfl) (by kernel_rfl) ?_
  refine seqQ_norm ?_
  refine W_seq (by kernel_rfl) ?_
  refine W_seq (by kernel_rfl) ?_
  refine W_run 2 [] [0, 3, 4, 5, 14] [] (fr' := [(0, aI a0), (3, aB r1.1), (4, aI r1.2), (5, aI r3), (14, aB (r3 != (0 : Int)))]) (L' := []) (obs := []) (by kernel_rfl) (by kernel_rfl) (by kernel_rfl) allP0 ?_
  refine seqQ_norm ?_
  refine W_cond (o := .tmp 14) (b := r3 != (0 : Int)) (by kernel_rfl) (by kernel_rfl) (fun h5 => ?_) (fun h5 => ?_)
  · replace h := ofT h5 h
    refine W_seq (by kernel_rfl) ?_
    refine W_run 8 [] [2] [] (fr' := [(2, aB ((r1.2 == r3) && (!r1.1)))]) (L' := []) (obs := []) (by kernel_rfl) (by kernel_rfl) (by kernel_rfl) allP0 ?_
    refine seqQ_norm ?_
    obtain rfl := Option.some.inj h
    refine W_ret [2] [] (fr' := [(2, aB ((r1.2 == r3) && (!r1.1)))]) (L' := []) (by kernel_rfl) (by kernel_rfl) ?_
    refine seqQ_ret ?_
    exact retQ_mk (by kernel_rfl) (by kernel_rfl) (by kernel_rfl)
  · replace h := ofF h5 h
    refine W_skip [0, 3, 4] [] (fr' := [(0, aI a0), (3, aB r1.1), (4, aI r1.2)]) (L' := []) (by kernel_rfl) (by kernel_rfl) ?_
    refine seqQ_norm ?_
    refine W_seq (by kernel_rfl) ?_
    obtain ⟨v15, h16, h⟩ := bind_of h
    refine W_cutK (Q' := (exQ .normal law_CellSingles_s1) v15) ?_ ?_
    · replace h := h16
      refine W_region (by kernel_rfl) ?_
      refine WO_run (j := 3) (k := 3) (orcs := []) (kF := [0, 3, 24]) (kL := []) (fr' := [(0, aI a0), (3, aB r1.1), (24, aB (r1.2 == (0 : Int)))]) (L' := []) (obs := []) rfl (by kernel_rfl) allP0 ?_
      rcases Bool.eq_false_or_eq_true (r1.2 == (0 : Int)) with h12 | h12
      · replace h := ofT h12 h
        refine WO_run (j := 5) (k := 2) (orcs := [(6, .known true), (8, .known true)]) (kF := [24, 25, 26]) (kL := []) (fr' := [(24, aB (r1.2 == (0 : Int))), (25, aB r1.1), (26, aI a0)]) (L' := []) (obs := [((r1.2 == (0 : Int)) = true), ((r1.2 == (0 : Int)) = true)]) rfl (by kernel_rfl) (allP2 h12 (allP1 h12)) ?_
        obtain ⟨r13, h14, h⟩ := bind_of h
        refine WO_call0 (us := [none]) (d := 27) (p := ((r1.2 == (0 : Int)) = true)) (j := 6) rfl ⟨by kernel_rfl, by kernel_rfl, by kernel_rfl⟩ h12 (ref_Single_ok h14) (by kernel_rfl) ?_
        refine WO_run (j := 9) (k := 3) (orcs := [(12, .known true), (15, .val (.dat .bool true))]) (kF := [2]) (kL := []) (fr' := [(2, aB (r1.1 == r13))]) (L' := []) (obs := [((r1.2 == (0 : Int)) = true), ((r1.2 == (0 : Int)) = true)]) rfl (by kernel_rfl) (allP2 h12 (allP1 h12)) ?_
        obtain rfl := Option.some.inj h
        refine WO_fin [2] [] (fr' := [(2, aB (r1.1 == r13))]) (L' := []) (by kernel_rfl) (by kernel_rfl) ?_
        exact exQ_mk (by kernel_rfl) (by kernel_rfl)
      · replace h := ofF h12 h
        refine WO_run (j := 9) (k := 6) (orcs := [(6, .known false), (8, .known false), (10, .known false), (12, .known false), (15, .val (.dat .bool false))]) (kF := [2]) (kL := []) (fr' := [(2, aB false)]) (L' := []) (obs := [((r1.2 == (0 : Int)) = false), ((r1.2 == (0 : Int)) = false), ((r1.2 == (0 : Int)) = false), ((r1.2 == (0 : Int)) = false), ((r1.2 == (0 : Int)) = false)]) rfl (by kernel_rfl) (allP2 h12 (allP2 h12 (allP2 h12 (allP2 h12 (allP1 h12))))) ?_
        obtain rfl := Option.some.inj h
        refine WO_fin [2] [] (fr' := [(2, aB false)]) (L' := []) (by kernel_rfl) (by kernel_rfl) ?_
        exact exQ_mk (by kernel_rfl) (by kernel_rfl)
    · intro e fr L hJ
      obtain ⟨rfl, rfl, rfl⟩ := hJ
      refine LT_keep [2] [] (fr' := [(2, aB v15)]) (L' := []) (by kernel_rfl) ?_
      refine seqQ_norm ?_
      obtain rfl := Option.some.inj h
      refine W_ret [2] [] (fr' := [(2, aB v15)]) (L' := []) (by kernel_rfl) (by kernel_rfl) ?_
      exact retQ_mk (by kernel_rfl) (by kernel_rfl) (by kernel_rfl)
end Go.Proofs.Ytpkbglckacoccaa.cellSingles
