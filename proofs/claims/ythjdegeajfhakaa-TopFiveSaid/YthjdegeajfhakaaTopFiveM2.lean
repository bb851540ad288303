/- What the functions that TopFive calls compute, as models, and that they compute it: written by a program of mine. -/
import Derived.Test.YthjdegeajfhakaaProg
import Derived.Test.YthjdegeajfhakaaTopFiveM1
set_option linter.all false
set_option maxRecDepth 100000
namespace Go.Proofs.Ythjdegeajfhakaa.topFive
open Go Go.Sl
@[reducible] def wide_Run_s5 (a0 : Int) (a1 : (List (Int × ((List Int) × (List Int))))) (a2 : (List Bool)) (i58 : Int) (v : Bool) : Fr × LL := ([(0, aI a0), (1, aD (.slice (.pair tI (.pair (.arr 5 tI) (.arr 5 tI)))) a1), (2, aD (.slice .bool) a2), (6, .one (.ptr 6 0)), (25, aD (.slice (.pair tI (.pair (.arr 5 tI) (.arr 5 tI)))) a1), (26, aI (List.length a1 : Int)), (27, aI i58), (50, aB v)], [(6, .one (.arr 5 tI) [(0 : Int), (0 : Int), (0 : Int), (0 : Int), (0 : Int)])])
@[reducible] def wide_Run_s6 (a0 : Int) (a1 : (List (Int × ((List Int) × (List Int))))) (a2 : (List Bool)) (i58 : Int) (v61 : (Int × ((List Int) × (List Int)))) (v : Bool) : Fr × LL := ([(0, aI a0), (1, aD (.slice (.pair tI (.pair (.arr 5 tI) (.arr 5 tI)))) a1), (2, aD (.slice .bool) a2), (6, .one (.ptr 6 0)), (9, .one (.ptr 9 0)), (25, aD (.slice (.pair tI (.pair (.arr 5 tI) (.arr 5 tI)))) a1), (26, aI (List.length a1 : Int)), (27, aI i58), (39, aB v)], [(6, .one (.arr 5 tI) [(0 : Int), (0 : Int), (0 : Int), (0 : Int), (0 : Int)]), (9, .one (.pair tI (.pair (.arr 5 tI) (.arr 5 tI))) v61)])
def wide_Run_b7 (a0 : Int) (i58 : Int) (v61 : (Int × ((List Int) × (List Int)))) (x59 : Unit) : Option (Flow Unit (Esc ((List Int) × Int) Unit)) :=
(bif decide (v61.1 < (0 : Int)) then
(some true)
else
(some (decide (v61.1 ≥ a0)))).bind fun v67 =>
bif v67 then
(some (.done (.ret ([(0 : Int), (0 : Int), (0 : Int), (0 : Int), (0 : Int)], (4 : Int)))))
else
(((wide_is v61.2.1).bind fun r80 =>
bif !r80 then
(some true)
else
((wide_is v61.2.2).bind fun r83 =>
some (!r83))).bind fun v85 =>
bif v85 then
(some (.done (.ret ([(0 : Int), (0 : Int), (0 : Int), (0 : Int), (0 : Int)], (3 : Int)))))
else
(some (.next ())))
@[reducible] def wide_Run_s8 (a0 : Int) (a1 : (List (Int × ((List Int) × (List Int))))) (a2 : (List Bool)) (v : Int × Unit) : Fr × LL := ([(0, aI a0), (1, aD (.slice (.pair tI (.pair (.arr 5 tI) (.arr 5 tI)))) a1), (2, aD (.slice .bool) a2), (6, .one (.ptr 6 0)), (25, aD (.slice (.pair tI (.pair (.arr 5 tI) (.arr 5 tI)))) a1), (26, aI (List.length a1 : Int)), (27, aI v.1)], [(6, .one (.arr 5 tI) [(0 : Int), (0 : Int), (0 : Int), (0 : Int), (0 : Int)])])
@[reducible] def wide_Run_s9 (v : ((List Int) × Int)) : Fr × LL := ([(6, .one (.ptr 6 0)), (7, aI v.2)], [(6, .one (.arr 5 tI) v.1)])
@[reducible] def wide_Run_s10 (a0 : Int) (a1 : (List (Int × ((List Int) × (List Int))))) (a2 : (List Bool)) (v : Unit) : Fr × LL := ([(0, aI a0), (1, aD (.slice (.pair tI (.pair (.arr 5 tI) (.arr 5 tI)))) a1), (2, aD (.slice .bool) a2), (6, .one (.ptr 6 0))], [(6, .one (.arr 5 tI) [(0 : Int), (0 : Int), (0 : Int), (0 : Int), (0 : Int)])])
def wide_Run_g15 (a2 : (List Bool)) (x160 : (List Int)) (v162 : (Int × ((List Int) × (List Int)))) : Option (List Int) :=
(idx a2 v162.1).bind fun v179 =>
bif v179 then
((wide_then x160 v162.2.2).bind fun r182 =>
some r182)
else
((wide_then x160 v162.2.1).bind fun r184 =>
some r184)
@[reducible] def wide_Run_s16 (a1 : (List (Int × ((List Int) × (List Int))))) (a2 : (List Bool)) (i159 : Int) (v : (List Int)) : Fr × LL := ([(2, aD (.slice .bool) a2), (6, .one (.ptr 6 0)), (10, .one (.ptr 10 0)), (59, aD (.slice (.pair tI (.pair (.arr 5 tI) (.arr 5 tI)))) a1), (60, aI (List.length a1 : Int)), (61, aI i159)], [(6, .one (.arr 5 tI) [(0 : Int), (0 : Int), (0 : Int), (0 : Int), (0 : Int)]), (10, .one (.arr 5 tI) v)])
def wide_Run_b17 (a2 : (List Bool)) (i159 : Int) (v162 : (Int × ((List Int) × (List Int)))) (x160 : (List Int)) : Option (Flow (List Int) (List Int)) :=
(wide_Run_g15 a2 x160 v162).bind fun v186 =>
some (.next v186)
@[reducible] def wide_Run_s18 (a1 : (List (Int × ((List Int) × (List Int))))) (a2 : (List Bool)) (v : Int × (List Int)) : Fr × LL := ([(2, aD (.slice .bool) a2), (6, .one (.ptr 6 0)), (10, .one (.ptr 10 0)), (59, aD (.slice (.pair tI (.pair (.arr 5 tI) (.arr 5 tI)))) a1), (60, aI (List.length a1 : Int)), (61, aI v.1)], [(6, .one (.arr 5 tI) [(0 : Int), (0 : Int), (0 : Int), (0 : Int), (0 : Int)]), (10, .one (.arr 5 tI) v.2)])
@[reducible] def wide_Run_s19 (v : (List Int)) : Fr × LL := ([(6, .one (.ptr 6 0)), (10, .one (.ptr 10 0))], [(6, .one (.arr 5 tI) [(0 : Int), (0 : Int), (0 : Int), (0 : Int), (0 : Int)]), (10, .one (.arr 5 tI) v)])
def wide_Run (a0 : Int) (a1 : (List (Int × ((List Int) × (List Int))))) (a2 : (List Bool)) : Option ((List Int) × Int) :=
bif ((decide (a0 < (0 : Int))) || (decide (a0 > (5 : Int)))) || (decide ((List.length a1 : Int) > (300 : Int))) then
(some ([(0 : Int), (0 : Int), (0 : Int), (0 : Int), (0 : Int)], (1 : Int)))
else
((forL (wide_Run_b7 a0) (fun x59 => (.brk ())) a1 0 ()).bind fun v89 =>
match v89 with
| .ret v94 =>
(some (v94.1, v94.2))
| .brk v95 =>
(bif (List.length a2 : Int) != a0 then
(some ([(0 : Int), (0 : Int), (0 : Int), (0 : Int), (0 : Int)], (2 : Int)))
else
((forL (wide_Run_b17 a2) (fun x160 => x160) a1 0 [(0 : Int), (1 : Int), (2 : Int), (3 : Int), (4 : Int)]).bind fun v189 =>
some (v189, (0 : Int)))))
theorem wide_Run_ok {a0 : Int} {a1 : (List (Int × ((List Int) × (List Int))))} {a2 : (List Bool)} {r : ((List Int) × Int)} (h : wide_Run a0 a1 a2 = some r) : FnC Try.prog 19 [aI a0, aD (.slice (.pair tI (.pair (.arr 5 tI) (.arr 5 tI)))) a1, aD (.slice .bool) a2] [] (.tup [.dat (.arr 5 tI) r.1, .dat tI r.2]) [] := by
  refine fnC_of_W (B := bodyOf Try.f19) (n := 80) Try.func19 (by kernel_rfl) (by kernel_rfl) (by kernel_rfl) (by kernel_rfl) (by kernel_rfl) ?_
  intro K
  refine W_seq (by kernel_rfl) ?_
  refine W_run 2 [(1, .typed)] [0, 1, 2, 6] [6] (fr' := [(0, aI a0), (1, aD (.slice (.pair tI (.pair (.arr 5 tI) (.arr 5 tI)))) a1), (2, aD (.slice .bool) a2), (6, .one (.ptr 6 0))]) (L' := [(6, .one (.arr 5 tI) [(0 : Int), (0 : Int), (0 : Int), (0 : Int), (0 : Int)])]) (obs := []) (by kernel_rfl) (by kernel_rfl) (by kernel_rfl) allP0 ?_
  refine seqQ_norm ?_
  refine W_seq (by kernel_rfl) ?_
  refine W_seq (by kernel_rfl) ?_
  refine W_run 11 [] [0, 1, 2, 6, 23] [6] (fr' := [(0, aI a0), (1, aD (.slice (.pair tI (.pair (.arr 5 tI) (.arr 5 tI)))) a1), (2, aD (.slice .bool) a2), (6, .one (.ptr 6 0)), (23, aB (((decide (a0 < (0 : Int))) || (decide (a0 > (5 : Int)))) || (decide ((List.length a1 : Int) > (300 : Int)))))]) (L' := [(6, .one (.arr 5 tI) [(0 : Int), (0 : Int), (0 : Int), (0 : Int), (0 : Int)])]) (obs := []) (by kernel_rfl) (by kernel_rfl) (by kernel_rfl) allP0 ?_
  refine seqQ_norm ?_
  refine W_cond (o := .tmp 23) (b := ((decide (a0 < (0 : Int))) || (decide (a0 > (5 : Int)))) || (decide ((List.length a1 : Int) > (300 : Int)))) (by kernel_rfl) (by kernel_rfl) (fun h1 => ?_) (fun h1 => ?_)
  · replace h := ofT h1 h
    refine W_seq (by kernel_rfl) ?_
    refine W_run 3 [] [6, 7] [6] (fr' := [(6, .one (.ptr 6 0)), (7, aI (1 : Int))]) (L' := [(6, .one (.arr 5 tI) [(0 : Int), (0 : Int), (0 : Int), (0 : Int), (0 : Int)])]) (obs := [True]) (by kernel_rfl) (by kernel_rfl) (by kernel_rfl) (allP1 trivial) ?_
    refine seqQ_norm ?_
    obtain rfl := Option.some.inj h
    refine W_ret [6, 7] [6] (fr' := [(6, .one (.ptr 6 0)), (7, aI (1 : Int))]) (L' := [(6, .one (.arr 5 tI) [(0 : Int), (0 : Int), (0 : Int), (0 : Int), (0 : Int)])]) (by kernel_rfl) (by kernel_rfl) ?_
    refine seqQ_ret ?_
    exact retQ_mk (by kernel_rfl) (by kernel_rfl) (by kernel_rfl)
  · replace h := ofF h1 h
    refine W_skip [0, 1, 2, 6] [6] (fr' := [(0, aI a0), (1, aD (.slice (.pair tI (.pair (.arr 5 tI) (.arr 5 tI)))) a1), (2, aD (.slice .bool) a2), (6, .one (.ptr 6 0))]) (L' := [(6, .one (.arr 5 tI) [(0 : Int), (0 : Int), (0 : Int), (0 : Int), (0 : Int)])]) (by kernel_rfl) (by kernel_rfl) ?_
    refine seqQ_norm ?_
    refine W_seq (by kernel_rfl) ?_
    refine W_seq (by kernel_rfl) ?_
    refine W_run 3 [] [0, 1, 2, 6, 25, 26, 27] [6] (fr' := [(0, aI a0), (1, aD (.slice (.pair tI (.pair (.arr 5 tI) (.arr 5 tI)))) a1), (2, aD (.slice .bool) a2), (6, .one (.ptr 6 0)), (25, aD (.slice (.pair tI (.pair (.arr 5 tI) (.arr 5 tI)))) a1), (26, aI (List.length a1 : Int)), (27, aI (0 : Int))]) (L' := [(6, .one (.arr 5 tI) [(0 : Int), (0 : Int), (0 : Int), (0 : Int), (0 : Int)])]) (obs := []) (by kernel_rfl) (by kernel_rfl) (by kernel_rfl) allP0 ?_
    refine seqQ_norm ?_
    refine W_block (id := 0) (by kernel_rfl) ?_
    obtain ⟨v89, h90, h⟩ := bind_of h
    refine W_len (t := 25) (u := (.pair tI (.pair (.arr 5 tI) (.arr 5 tI)))) (xs := a1) (by kernel_rfl) (fun h93 => ?_)
    obtain ⟨h91, h92⟩ := forL_iter h93 h90
    refine W_weaken [0, 1, 2, 6, 25, 26, 27] [6] (fr' := ((wide_Run_s8 a0 a1 a2) ((0 : Int), ())).1) (L' := ((wide_Run_s8 a0 a1 a2) ((0 : Int), ())).2) (by kernel_rfl) ?_
    refine W_cutK (W_loop (S := (wide_Run_s8 a0 a1 a2)) (J := (escQ (exQ .ret wide_Run_s9) (exQ (.exit 0) (wide_Run_s10 a0 a1 a2)))) (by kernel_rfl) ?_ h91 _ v89 h92) ?_
    · rintro ⟨i58, x59⟩ s h
      refine W_seq (by kernel_rfl) ?_
      refine W_run 1 [] [0, 1, 2, 6, 25, 26, 27, 28] [6] (fr' := [(0, aI a0), (1, aD (.slice (.pair tI (.pair (.arr 5 tI) (.arr 5 tI)))) a1), (2, aD (.slice .bool) a2), (6, .one (.ptr 6 0)), (25, aD (.slice (.pair tI (.pair (.arr 5 tI) (.arr 5 tI)))) a1), (26, aI (List.length a1 : Int)), (27, aI i58), (28, aB (decide (i58 < (List.length a1 : Int))))]) (L' := [(6, .one (.arr 5 tI) [(0 : Int), (0 : Int), (0 : Int), (0 : Int), (0 : Int)])]) (obs := []) (by kernel_rfl) (by kernel_rfl) (by kernel_rfl) allP0 ?_
      refine seqQ_norm ?_
      refine W_seq (by kernel_rfl) ?_
      refine W_cond (o := .tmp 28) (b := decide (i58 < (List.length a1 : Int))) (by kernel_rfl) (by kernel_rfl) (fun h63 => ?_) (fun h63 => ?_)
      · replace h := stepL_true h63 h
        obtain ⟨v61, _, h62, h, rfl⟩ := h
        refine W_skip [0, 1, 2, 6, 25, 26, 27] [6] (fr' := [(0, aI a0), (1, aD (.slice (.pair tI (.pair (.arr 5 tI) (.arr 5 tI)))) a1), (2, aD (.slice .bool) a2), (6, .one (.ptr 6 0)), (25, aD (.slice (.pair tI (.pair (.arr 5 tI) (.arr 5 tI)))) a1), (26, aI (List.length a1 : Int)), (27, aI i58)]) (L' := [(6, .one (.arr 5 tI) [(0 : Int), (0 : Int), (0 : Int), (0 : Int), (0 : Int)])]) (by kernel_rfl) (by kernel_rfl) ?_
        refine seqQ_norm ?_
        refine W_seq (by kernel_rfl) ?_
        refine W_block (id := 1) (by kernel_rfl) ?_
        refine W_seq (by kernel_rfl) ?_
        refine W_run 4 [(1, .val (.dat (.pair tI (.pair (.arr 5 tI) (.arr 5 tI))) v61)), (5, .typed)] [0, 1, 2, 6, 9, 25, 26, 27] [6, 9] (fr' := [(0, aI a0), (1, aD (.slice (.pair tI (.pair (.arr 5 tI) (.arr 5 tI)))) a1), (2, aD (.slice .bool) a2), (6, .one (.ptr 6 0)), (9, .one (.ptr 9 0)), (25, aD (.slice (.pair tI (.pair (.arr 5 tI) (.arr 5 tI)))) a1), (26, aI (List.length a1 : Int)), (27, aI i58)]) (L' := [(6, .one (.arr 5 tI) [(0 : Int), (0 : Int), (0 : Int), (0 : Int), (0 : Int)]), (9, .one (.pair tI (.pair (.arr 5 tI) (.arr 5 tI))) v61)]) (obs := [Idx a1 i58 v61, True]) (by kernel_rfl) (by kernel_rfl) (by kernel_rfl) (allP2 (Idx.of h62) (allP1 trivial)) ?_
        refine seqQ_norm ?_
        refine W_seq (by kernel_rfl) ?_
        refine W_seq (by kernel_rfl) ?_
        obtain ⟨v67, h68, h⟩ := bind_of h
        refine W_cutK (Q' := (exQ .normal (wide_Run_s6 a0 a1 a2 i58 v61)) v67) ?_ ?_
        · replace h := h68
          refine W_region (by kernel_rfl) ?_
          refine WO_run (j := 4) (k := 4) (orcs := []) (kF := [0, 1, 2, 6, 9, 25, 26, 27, 34]) (kL := [6, 9]) (fr' := [(0, aI a0), (1, aD (.slice (.pair tI (.pair (.arr 5 tI) (.arr 5 tI)))) a1), (2, aD (.slice .bool) a2), (6, .one (.ptr 6 0)), (9, .one (.ptr 9 0)), (25, aD (.slice (.pair tI (.pair (.arr 5 tI) (.arr 5 tI)))) a1), (26, aI (List.length a1 : Int)), (27, aI i58), (34, aB (decide (v61.1 < (0 : Int))))]) (L' := [(6, .one (.arr 5 tI) [(0 : Int), (0 : Int), (0 : Int), (0 : Int), (0 : Int)]), (9, .one (.pair tI (.pair (.arr 5 tI) (.arr 5 tI))) v61)]) (obs := []) rfl (by kernel_rfl) allP0 ?_
          rcases Bool.eq_false_or_eq_true (decide (v61.1 < (0 : Int))) with h66 | h66
          · replace h := ofT h66 h
            refine WO_run (j := 9) (k := 5) (orcs := [(8, .known true), (10, .known true), (12, .known true), (14, .known true), (17, .val (.dat .bool true))]) (kF := [0, 1, 2, 6, 9, 25, 26, 27, 39]) (kL := [6, 9]) (fr' := [(0, aI a0), (1, aD (.slice (.pair tI (.pair (.arr 5 tI) (.arr 5 tI)))) a1), (2, aD (.slice .bool) a2), (6, .one (.ptr 6 0)), (9, .one (.ptr 9 0)), (25, aD (.slice (.pair tI (.pair (.arr 5 tI) (.arr 5 tI)))) a1), (26, aI (List.length a1 : Int)), (27, aI i58), (39, aB true)]) (L' := [(6, .one (.arr 5 tI) [(0 : Int), (0 : Int), (0 : Int), (0 : Int), (0 : Int)]), (9, .one (.pair tI (.pair (.arr 5 tI) (.arr 5 tI))) v61)]) (obs := [((decide (v61.1 < (0 : Int))) = true), ((decide (v61.1 < (0 : Int))) = true), ((decide (v61.1 < (0 : Int))) = true), ((decide (v61.1 < (0 : Int))) = true), ((decide (v61.1 < (0 : Int))) = true)]) rfl (by kernel_rfl) (allP2 h66 (allP2 h66 (allP2 h66 (allP2 h66 (allP1 h66))))) ?_
            obtain rfl := Option.some.inj h
            refine WO_fin [0, 1, 2, 6, 9, 25, 26, 27, 39] [6, 9] (fr' := [(0, aI a0), (1, aD (.slice (.pair tI (.pair (.arr 5 tI) (.arr 5 tI)))) a1), (2, aD (.slice .bool) a2), (6, .one (.ptr 6 0)), (9, .one (.ptr 9 0)), (25, aD (.slice (.pair tI (.pair (.arr 5 tI) (.arr 5 tI)))) a1), (26, aI (List.length a1 : Int)), (27, aI i58), (39, aB true)]) (L' := [(6, .one (.arr 5 tI) [(0 : Int), (0 : Int), (0 : Int), (0 : Int), (0 : Int)]), (9, .one (.pair tI (.pair (.arr 5 tI) (.arr 5 tI))) v61)]) (by kernel_rfl) (by kernel_rfl) ?_
            exact exQ_mk (by kernel_rfl) (by kernel_rfl)
          · replace h := ofF h66 h
            refine WO_run (j := 9) (k := 5) (orcs := [(8, .known false), (10, .known false), (12, .known false), (14, .known false), (17, .val (.dat .bool false))]) (kF := [0, 1, 2, 6, 9, 25, 26, 27, 39]) (kL := [6, 9]) (fr' := [(0, aI a0), (1, aD (.slice (.pair tI (.pair (.arr 5 tI) (.arr 5 tI)))) a1), (2, aD (.slice .bool) a2), (6, .one (.ptr 6 0)), (9, .one (.ptr 9 0)), (25, aD (.slice (.pair tI (.pair (.arr 5 tI) (.arr 5 tI)))) a1), (26, aI (List.length a1 : Int)), (27, aI i58), (39, aB (decide (v61.1 ≥ a0)))]) (L' := [(6, .one (.arr 5 tI) [(0 : Int), (0 : Int), (0 : Int), (0 : Int), (0 : Int)]), (9, .one (.pair tI (.pair (.arr 5 tI) (.arr 5 tI))) v61)]) (obs := [((decide (v61.1 < (0 : Int))) = false), ((decide (v61.1 < (0 : Int))) = false), ((decide (v61.1 < (0 : Int))) = false), ((decide (v61.1 < (0 : Int))) = false), ((decide (v61.1 < (0 : Int))) = false)]) rfl (by kernel_rfl) (allP2 h66 (allP2 h66 (allP2 h66 (allP2 h66 (allP1 h66))))) ?_
            obtain rfl := Option.some.inj h
            refine WO_fin [0, 1, 2, 6, 9, 25, 26, 27, 39] [6, 9] (fr' := [(0, aI a0), (1, aD (.slice (.pair tI (.pair (.arr 5 tI) (.arr 5 tI)))) a1), (2, aD (.slice .bool) a2), (6, .one (.ptr 6 0)), (9, .one (.ptr 9 0)), (25, aD (.slice (.pair tI (.pair (.arr 5 tI) (.arr 5 tI)))) a1), (26, aI (List.length a1 : Int)), (27, aI i58), (39, aB (decide (v61.1 ≥ a0)))]) (L' := [(6, .one (.arr 5 tI) [(0 : Int), (0 : Int), (0 : Int), (0 : Int), (0 : Int)]), (9, .one (.pair tI (.pair (.arr 5 tI) (.arr 5 tI))) v61)]) (by kernel_rfl) (by kernel_rfl) ?_
            exact exQ_mk (by kernel_rfl) (by kernel_rfl)
        · intro e fr L hJ
          obtain ⟨rfl, rfl, rfl⟩ := hJ
          refine LT_keep [0, 1, 2, 6, 9, 25, 26, 27, 39] [6, 9] (fr' := [(0, aI a0), (1, aD (.slice (.pair tI (.pair (.arr 5 tI) (.arr 5 tI)))) a1), (2, aD (.slice .bool) a2), (6, .one (.ptr 6 0)), (9, .one (.ptr 9 0)), (25, aD (.slice (.pair tI (.pair (.arr 5 tI) (.arr 5 tI)))) a1), (26, aI (List.length a1 : Int)), (27, aI i58), (39, aB v67)]) (L' := [(6, .one (.arr 5 tI) [(0 : Int), (0 : Int), (0 : Int), (0 : Int), (0 : Int)]), (9, .one (.pair tI (.pair (.arr 5 tI) (.arr 5 tI))) v61)]) (by kernel_rfl) ?_
          refine seqQ_norm ?_
          refine W_cond (o := .tmp 39) (b := v67) (by kernel_rfl) (by kernel_rfl) (fun h69 => ?_) (fun h69 => ?_)
          · replace h := ofT h69 h
            refine W_seq (by kernel_rfl) ?_
            refine W_run 3 [] [6, 7] [6] (fr' := [(6, .one (.ptr 6 0)), (7, aI (4 : Int))]) (L' := [(6, .one (.arr 5 tI) [(0 : Int), (0 : Int), (0 : Int), (0 : Int), (0 : Int)])]) (obs := [True]) (by kernel_rfl) (by kernel_rfl) (by kernel_rfl) (allP1 trivial) ?_
            refine seqQ_norm ?_
            obtain rfl := Option.some.inj h
            refine W_ret [6, 7] [6] (fr' := [(6, .one (.ptr 6 0)), (7, aI (4 : Int))]) (L' := [(6, .one (.arr 5 tI) [(0 : Int), (0 : Int), (0 : Int), (0 : Int), (0 : Int)])]) (by kernel_rfl) (by kernel_rfl) ?_
            refine seqQ_ret ?_
            refine blockQ_ret ?_
            refine seqQ_ret ?_
            refine round_ret ?_
            refine escQ_ret ?_
            exact exQ_mk (by kernel_rfl) (by kernel_rfl)
          · replace h := ofF h69 h
            refine W_skip [0, 1, 2, 6, 9, 25, 26, 27] [6, 9] (fr' := [(0, aI a0), (1, aD (.slice (.pair tI (.pair (.arr 5 tI) (.arr 5 tI)))) a1), (2, aD (.slice .bool) a2), (6, .one (.ptr 6 0)), (9, .one (.ptr 9 0)), (25, aD (.slice (.pair tI (.pair (.arr 5 tI) (.arr 5 tI)))) a1), (26, aI (List.length a1 : Int)), (27, aI i58)]) (L' := [(6, .one (.arr 5 tI) [(0 : Int), (0 : Int), (0 : Int), (0 : Int), (0 : Int)]), (9, .one (.pair tI (.pair (.arr 5 tI) (.arr 5 tI))) v61)]) (by kernel_rfl) (by kernel_rfl) ?_
            refine seqQ_norm ?_
            refine W_seq (by kernel_rfl) ?_
            obtain ⟨v85, h86, h⟩ := bind_of h
            refine W_cutK (Q' := (exQ .normal (wide_Run_s5 a0 a1 a2 i58)) v85) ?_ ?_
            · replace h := h86
              refine W_region (by kernel_rfl) ?_
              refine WO_run (j := 2) (k := 2) (orcs := []) (kF := [0, 1, 2, 6, 9, 25, 26, 27, 42]) (kL := [6, 9]) (fr' := [(0, aI a0), (1, aD (.slice (.pair tI (.pair (.arr 5 tI) (.arr 5 tI)))) a1), (2, aD (.slice .bool) a2), (6, .one (.ptr 6 0)), (9, .one (.ptr 9 0)), (25, aD (.slice (.pair tI (.pair (.arr 5 tI) (.arr 5 tI)))) a1), (26, aI (List.length a1 : Int)), (27, aI i58), (42, aD (.arr 5 tI) v61.2.1)]) (L' := [(6, .one (.arr 5 tI) [(0 : Int), (0 : Int), (0 : Int), (0 : Int), (0 : Int)]), (9, .one (.pair tI (.pair (.arr 5 tI) (.arr 5 tI))) v61)]) (obs := []) rfl (by kernel_rfl) allP0 ?_
              obtain ⟨r80, h81, h⟩ := bind_of h
              refine WO_call0 (us := [none]) (d := 43) (p := True) (j := 3) rfl ⟨by kernel_rfl, by kernel_rfl, by kernel_rfl⟩ trivial (wide_is_ok h81) (by kernel_rfl) ?_
              refine WO_run (j := 5) (k := 2) (orcs := []) (kF := [0, 1, 2, 6, 9, 25, 26, 27, 45]) (kL := [6, 9]) (fr' := [(0, aI a0), (1, aD (.slice (.pair tI (.pair (.arr 5 tI) (.arr 5 tI)))) a1), (2, aD (.slice .bool) a2), (6, .one (.ptr 6 0)), (9, .one (.ptr 9 0)), (25, aD (.slice (.pair tI (.pair (.arr 5 tI) (.arr 5 tI)))) a1), (26, aI (List.length a1 : Int)), (27, aI i58), (45, aB (!r80))]) (L' := [(6, .one (.arr 5 tI) [(0 : Int), (0 : Int), (0 : Int), (0 : Int), (0 : Int)]), (9, .one (.pair tI (.pair (.arr 5 tI) (.arr 5 tI))) v61)]) (obs := []) rfl (by kernel_rfl) allP0 ?_
              rcases Bool.eq_false_or_eq_true (!r80) with h82 | h82
              · replace h := ofT h82 h
                refine WO_run (j := 10) (k := 5) (orcs := [(10, .known true), (12, .known true), (14, .known true), (16, .known true), (19, .val (.dat .bool true))]) (kF := [0, 1, 2, 6, 25, 26, 27, 50]) (kL := [6, 9]) (fr' := [(0, aI a0), (1, aD (.slice (.pair tI (.pair (.arr 5 tI) (.arr 5 tI)))) a1), (2, aD (.slice .bool) a2), (6, .one (.ptr 6 0)), (25, aD (.slice (.pair tI (.pair (.arr 5 tI) (.arr 5 tI)))) a1), (26, aI (List.length a1 : Int)), (27, aI i58), (50, aB true)]) (L' := [(6, .one (.arr 5 tI) [(0 : Int), (0 : Int), (0 : Int), (0 : Int), (0 : Int)]), (9, .one (.pair tI (.pair (.arr 5 tI) (.arr 5 tI))) v61)]) (obs := [((!r80) = true), ((!r80) = true), ((!r80) = true), ((!r80) = true), ((!r80) = true)]) rfl (by kernel_rfl) (allP2 h82 (allP2 h82 (allP2 h82 (allP2 h82 (allP1 h82))))) ?_
                obtain rfl := Option.some.inj h
                refine WO_fin [0, 1, 2, 6, 25, 26, 27, 50] [6] (fr' := [(0, aI a0), (1, aD (.slice (.pair tI (.pair (.arr 5 tI) (.arr 5 tI)))) a1), (2, aD (.slice .bool) a2), (6, .one (.ptr 6 0)), (25, aD (.slice (.pair tI (.pair (.arr 5 tI) (.arr 5 tI)))) a1), (26, aI (List.length a1 : Int)), (27, aI i58), (50, aB true)]) (L' := [(6, .one (.arr 5 tI) [(0 : Int), (0 : Int), (0 : Int), (0 : Int), (0 : Int)])]) (by kernel_rfl) (by kernel_rfl) ?_
                exact exQ_mk (by kernel_rfl) (by kernel_rfl)
              · replace h := ofF h82 h
                refine WO_run (j := 7) (k := 2) (orcs := [(10, .known false), (12, .known false)]) (kF := [0, 1, 2, 6, 25, 26, 27, 45, 47]) (kL := [6, 9]) (fr' := [(0, aI a0), (1, aD (.slice (.pair tI (.pair (.arr 5 tI) (.arr 5 tI)))) a1), (2, aD (.slice .bool) a2), (6, .one (.ptr 6 0)), (25, aD (.slice (.pair tI (.pair (.arr 5 tI) (.arr 5 tI)))) a1), (26, aI (List.length a1 : Int)), (27, aI i58), (45, aB (!r80)), (47, aD (.arr 5 tI) v61.2.2)]) (L' := [(6, .one (.arr 5 tI) [(0 : Int), (0 : Int), (0 : Int), (0 : Int), (0 : Int)]), (9, .one (.pair tI (.pair (.arr 5 tI) (.arr 5 tI))) v61)]) (obs := [((!r80) = false), ((!r80) = false)]) rfl (by kernel_rfl) (allP2 h82 (allP1 h82)) ?_
                obtain ⟨r83, h84, h⟩ := bind_of h
                refine WO_call0 (us := [none]) (d := 48) (p := ((!r80) = false)) (j := 8) rfl ⟨by kernel_rfl, by kernel_rfl, by kernel_rfl⟩ h82 (wide_is_ok h84) (by kernel_rfl) ?_
                refine WO_run (j := 10) (k := 2) (orcs := [(16, .known false), (19, .val (.dat .bool false))]) (kF := [0, 1, 2, 6, 25, 26, 27, 50]) (kL := [6, 9]) (fr' := [(0, aI a0), (1, aD (.slice (.pair tI (.pair (.arr 5 tI) (.arr 5 tI)))) a1), (2, aD (.slice .bool) a2), (6, .one (.ptr 6 0)), (25, aD (.slice (.pair tI (.pair (.arr 5 tI) (.arr 5 tI)))) a1), (26, aI (List.length a1 : Int)), (27, aI i58), (50, aB (!r83))]) (L' := [(6, .one (.arr 5 tI) [(0 : Int), (0 : Int), (0 : Int), (0 : Int), (0 : Int)]), (9, .one (.pair tI (.pair (.arr 5 tI) (.arr 5 tI))) v61)]) (obs := [((!r80) = false), ((!r80) = false)]) rfl (by kernel_rfl) (allP2 h82 (allP1 h82)) ?_
                obtain rfl := Option.some.inj h
                refine WO_fin [0, 1, 2, 6, 25, 26, 27, 50] [6] (fr' := [(0, aI a0), (1, aD (.slice (.pair tI (.pair (.arr 5 tI) (.arr 5 tI)))) a1), (2, aD (.slice .bool) a2), (6, .one (.ptr 6 0)), (25, aD (.slice (.pair tI (.pair (.arr 5 tI) (.arr 5 tI)))) a1), (26, aI (List.length a1 : Int)), (27, aI i58), (50, aB (!r83))]) (L' := [(6, .one (.arr 5 tI) [(0 : Int), (0 : Int), (0 : Int), (0 : Int), (0 : Int)])]) (by kernel_rfl) (by kernel_rfl) ?_
                exact exQ_mk (by kernel_rfl) (by kernel_rfl)
            · intro e fr L hJ
              obtain ⟨rfl, rfl, rfl⟩ := hJ
              refine LT_keep [0, 1, 2, 6, 25, 26, 27, 50] [6] (fr' := [(0, aI a0), (1, aD (.slice (.pair tI (.pair (.arr 5 tI) (.arr 5 tI)))) a1), (2, aD (.slice .bool) a2), (6, .one (.ptr 6 0)), (25, aD (.slice (.pair tI (.pair (.arr 5 tI) (.arr 5 tI)))) a1), (26, aI (List.length a1 : Int)), (27, aI i58), (50, aB v85)]) (L' := [(6, .one (.arr 5 tI) [(0 : Int), (0 : Int), (0 : Int), (0 : Int), (0 : Int)])]) (by kernel_rfl) ?_
              refine seqQ_norm ?_
              refine W_cond (o := .tmp 50) (b := v85) (by kernel_rfl) (by kernel_rfl) (fun h87 => ?_) (fun h87 => ?_)
              · replace h := ofT h87 h
                refine W_seq (by kernel_rfl) ?_
                refine W_run 3 [] [6, 7] [6] (fr' := [(6, .one (.ptr 6 0)), (7, aI (3 : Int))]) (L' := [(6, .one (.arr 5 tI) [(0 : Int), (0 : Int), (0 : Int), (0 : Int), (0 : Int)])]) (obs := [True]) (by kernel_rfl) (by kernel_rfl) (by kernel_rfl) (allP1 trivial) ?_
                refine seqQ_norm ?_
                obtain rfl := Option.some.inj h
                refine W_ret [6, 7] [6] (fr' := [(6, .one (.ptr 6 0)), (7, aI (3 : Int))]) (L' := [(6, .one (.arr 5 tI) [(0 : Int), (0 : Int), (0 : Int), (0 : Int), (0 : Int)])]) (by kernel_rfl) (by kernel_rfl) ?_
                refine blockQ_ret ?_
                refine seqQ_ret ?_
                refine round_ret ?_
                refine escQ_ret ?_
                exact exQ_mk (by kernel_rfl) (by kernel_rfl)
              · replace h := ofF h87 h
                refine W_skip [0, 1, 2, 6, 25, 26, 27] [6] (fr' := [(0, aI a0), (1, aD (.slice (.pair tI (.pair (.arr 5 tI) (.arr 5 tI)))) a1), (2, aD (.slice .bool) a2), (6, .one (.ptr 6 0)), (25, aD (.slice (.pair tI (.pair (.arr 5 tI) (.arr 5 tI)))) a1), (26, aI (List.length a1 : Int)), (27, aI i58)]) (L' := [(6, .one (.arr 5 tI) [(0 : Int), (0 : Int), (0 : Int), (0 : Int), (0 : Int)])]) (by kernel_rfl) (by kernel_rfl) ?_
                refine blockQ_norm ?_
                refine seqQ_norm ?_
                obtain rfl := Option.some.inj h
                refine W_run 2 [] [0, 1, 2, 6, 25, 26, 27] [6] (fr' := [(0, aI a0), (1, aD (.slice (.pair tI (.pair (.arr 5 tI) (.arr 5 tI)))) a1), (2, aD (.slice .bool) a2), (6, .one (.ptr 6 0)), (25, aD (.slice (.pair tI (.pair (.arr 5 tI) (.arr 5 tI)))) a1), (26, aI (List.length a1 : Int)), (27, aI (w64 (i58 + (1 : Int))))]) (L' := [(6, .one (.arr 5 tI) [(0 : Int), (0 : Int), (0 : Int), (0 : Int), (0 : Int)])]) (obs := []) (by kernel_rfl) (by kernel_rfl) (by kernel_rfl) allP0 ?_
                exact round_next' (by kernel_rfl) (by kernel_rfl)
      · obtain rfl := stepL_false h63 h
        refine W_exit (id := 0) [0, 1, 2, 6] [6] (fr' := [(0, aI a0), (1, aD (.slice (.pair tI (.pair (.arr 5 tI) (.arr 5 tI)))) a1), (2, aD (.slice .bool) a2), (6, .one (.ptr 6 0))]) (L' := [(6, .one (.arr 5 tI) [(0 : Int), (0 : Int), (0 : Int), (0 : Int), (0 : Int)])]) (by kernel_rfl) (by kernel_rfl) ?_
        refine seqQ_exit ?_
        refine round_exit ?_
        refine escQ_brk ?_
        exact exQ_mk (by kernel_rfl) (by kernel_rfl)
    · intro e fr L hJ
      rcases v89 with v94 | v95
      · obtain ⟨rfl, rfl, rfl⟩ := hJ
        obtain rfl := Option.some.inj h
        refine LT_keep [6, 7] [6] (fr' := [(6, .one (.ptr 6 0)), (7, aI v94.2)]) (L' := [(6, .one (.arr 5 tI) v94.1)]) (by kernel_rfl) ?_
        refine blockQ_ret ?_
        refine seqQ_ret ?_
        exact retQ_mk (by kernel_rfl) (by kernel_rfl) (by kernel_rfl)
      · obtain ⟨rfl, rfl, rfl⟩ := hJ
        refine LT_keep [0, 1, 2, 6] [6] (fr' := [(0, aI a0), (1, aD (.slice (.pair tI (.pair (.arr 5 tI) (.arr 5 tI)))) a1), (2, aD (.slice .bool) a2), (6, .one (.ptr 6 0))]) (L' := [(6, .one (.arr 5 tI) [(0 : Int), (0 : Int), (0 : Int), (0 : Int), (0 : Int)])]) (by kernel_rfl) ?_
        refine blockQ_hit ?_
        refine seqQ_norm ?_
        refine W_seq (by kernel_rfl) ?_
        refine W_seq (by kernel_rfl) ?_
        refine W_run 4 [] [1, 2, 6, 56] [6] (fr' := [(1, aD (.slice (.pair tI (.pair (.arr 5 tI) (.arr 5 tI)))) a1), (2, aD (.slice .bool) a2), (6, .one (.ptr 6 0)), (56, aB ((List.length a2 : Int) != a0))]) (L' := [(6, .one (.arr 5 tI) [(0 : Int), (0 : Int), (0 : Int), (0 : Int), (0 : Int)])]) (obs := []) (by kernel_rfl) (by kernel_rfl) (by kernel_rfl) allP0 ?_
        refine seqQ_norm ?_
        refine W_cond (o := .tmp 56) (b := (List.length a2 : Int) != a0) (by kernel_rfl) (by kernel_rfl) (fun h96 => ?_) (fun h96 => ?_)
        · replace h := ofT h96 h
          refine W_seq (by kernel_rfl) ?_
          refine W_run 3 [] [6, 7] [6] (fr' := [(6, .one (.ptr 6 0)), (7, aI (2 : Int))]) (L' := [(6, .one (.arr 5 tI) [(0 : Int), (0 : Int), (0 : Int), (0 : Int), (0 : Int)])]) (obs := [True]) (by kernel_rfl) (by kernel_rfl) (by kernel_rfl) (allP1 trivial) ?_
          refine seqQ_norm ?_
          obtain rfl := Option.some.inj h
          refine W_ret [6, 7] [6] (fr' := [(6, .one (.ptr 6 0)), (7, aI (2 : Int))]) (L' := [(6, .one (.arr 5 tI) [(0 : Int), (0 : Int), (0 : Int), (0 : Int), (0 : Int)])]) (by kernel_rfl) (by kernel_rfl) ?_
          refine seqQ_ret ?_
          exact retQ_mk (by kernel_rfl) (by kernel_rfl) (by kernel_rfl)
        · replace h := ofF h96 h
          refine W_skip [1, 2, 6] [6] (fr' := [(1, aD (.slice (.pair tI (.pair (.arr 5 tI) (.arr 5 tI)))) a1), (2, aD (.slice .bool) a2), (6, .one (.ptr 6 0))]) (L' := [(6, .one (.arr 5 tI) [(0 : Int), (0 : Int), (0 : Int), (0 : Int), (0 : Int)])]) (by kernel_rfl) (by kernel_rfl) ?_
          refine seqQ_norm ?_
          refine W_seq (by kernel_rfl) ?_
          refine W_run 3 [(3, .typed)] [1, 2, 6, 10] [6, 10] (fr' := [(1, aD (.slice (.pair tI (.pair (.arr 5 tI) (.arr 5 tI)))) a1), (2, aD (.slice .bool) a2), (6, .one (.ptr 6 0)), (10, .one (.ptr 10 0))]) (L' := [(6, .one (.arr 5 tI) [(0 : Int), (0 : Int), (0 : Int), (0 : Int), (0 : Int)]), (10, .one (.arr 5 tI) [(0 : Int), (1 : Int), (2 : Int), (3 : Int), (4 : Int)])]) (obs := [True]) (by kernel_rfl) (by kernel_rfl) (by kernel_rfl) (allP1 trivial) ?_
          refine seqQ_norm ?_
          refine W_seq (by kernel_rfl) ?_
          refine W_seq (by kernel_rfl) ?_
          refine W_run 3 [] [2, 6, 10, 59, 60, 61] [6, 10] (fr' := [(2, aD (.slice .bool) a2), (6, .one (.ptr 6 0)), (10, .one (.ptr 10 0)), (59, aD (.slice (.pair tI (.pair (.arr 5 tI) (.arr 5 tI)))) a1), (60, aI (List.length a1 : Int)), (61, aI (0 : Int))]) (L' := [(6, .one (.arr 5 tI) [(0 : Int), (0 : Int), (0 : Int), (0 : Int), (0 : Int)]), (10, .one (.arr 5 tI) [(0 : Int), (1 : Int), (2 : Int), (3 : Int), (4 : Int)])]) (obs := []) (by kernel_rfl) (by kernel_rfl) (by kernel_rfl) allP0 ?_
          refine seqQ_norm ?_
          refine W_block (id := 2) (by kernel_rfl) ?_
          obtain ⟨v189, h190, h⟩ := bind_of h
          refine W_len (t := 59) (u := (.pair tI (.pair (.arr 5 tI) (.arr 5 tI)))) (xs := a1) (by kernel_rfl) (fun h193 => ?_)
          obtain ⟨h191, h192⟩ := forL_iter h193 h190
          refine W_weaken [2, 6, 10, 59, 60, 61] [6, 10] (fr' := ((wide_Run_s18 a1 a2) ((0 : Int), [(0 : Int), (1 : Int), (2 : Int), (3 : Int), (4 : Int)])).1) (L' := ((wide_Run_s18 a1 a2) ((0 : Int), [(0 : Int), (1 : Int), (2 : Int), (3 : Int), (4 : Int)])).2) (by kernel_rfl) ?_
          refine W_cutK (W_loop (S := (wide_Run_s18 a1 a2)) (J := (exQ (.exit 2) wide_Run_s19)) (by kernel_rfl) ?_ h191 _ v189 h192) ?_
          · rintro ⟨i159, x160⟩ s h
            refine W_seq (by kernel_rfl) ?_
            refine W_run 1 [] [2, 6, 10, 59, 60, 61, 62] [6, 10] (fr' := [(2, aD (.slice .bool) a2), (6, .one (.ptr 6 0)), (10, .one (.ptr 10 0)), (59, aD (.slice (.pair tI (.pair (.arr 5 tI) (.arr 5 tI)))) a1), (60, aI (List.length a1 : Int)), (61, aI i159), (62, aB (decide (i159 < (List.length a1 : Int))))]) (L' := [(6, .one (.arr 5 tI) [(0 : Int), (0 : Int), (0 : Int), (0 : Int), (0 : Int)]), (10, .one (.arr 5 tI) x160)]) (obs := []) (by kernel_rfl) (by kernel_rfl) (by kernel_rfl) allP0 ?_
            refine seqQ_norm ?_
            refine W_seq (by kernel_rfl) ?_
            refine W_cond (o := .tmp 62) (b := decide (i159 < (List.length a1 : Int))) (by kernel_rfl) (by kernel_rfl) (fun h164 => ?_) (fun h164 => ?_)
            · replace h := stepL_true h164 h
              obtain ⟨v162, _, h163, h, rfl⟩ := h
              refine W_skip [2, 6, 10, 59, 60, 61] [6, 10] (fr' := [(2, aD (.slice .bool) a2), (6, .one (.ptr 6 0)), (10, .one (.ptr 10 0)), (59, aD (.slice (.pair tI (.pair (.arr 5 tI) (.arr 5 tI)))) a1), (60, aI (List.length a1 : Int)), (61, aI i159)]) (L' := [(6, .one (.arr 5 tI) [(0 : Int), (0 : Int), (0 : Int), (0 : Int), (0 : Int)]), (10, .one (.arr 5 tI) x160)]) (by kernel_rfl) (by kernel_rfl) ?_
              refine seqQ_norm ?_
              refine W_seq (by kernel_rfl) ?_
              obtain ⟨v186, h187, h⟩ := bind_of h
              refine W_cutK (Q' := (exQ .normal (wide_Run_s16 a1 a2 i159)) v186) ?_ ?_
              · replace h := h187
                refine W_block (id := 3) (by kernel_rfl) ?_
                refine W_seq (by kernel_rfl) ?_
                refine W_run 4 [(1, .val (.dat (.pair tI (.pair (.arr 5 tI) (.arr 5 tI))) v162)), (5, .typed)] [2, 6, 10, 12, 59, 60, 61] [6, 10, 12] (fr' := [(2, aD (.slice .bool) a2), (6, .one (.ptr 6 0)), (10, .one (.ptr 10 0)), (12, .one (.ptr 12 0)), (59, aD (.slice (.pair tI (.pair (.arr 5 tI) (.arr 5 tI)))) a1), (60, aI (List.length a1 : Int)), (61, aI i159)]) (L' := [(6, .one (.arr 5 tI) [(0 : Int), (0 : Int), (0 : Int), (0 : Int), (0 : Int)]), (10, .one (.arr 5 tI) x160), (12, .one (.pair tI (.pair (.arr 5 tI) (.arr 5 tI))) v162)]) (obs := [Idx a1 i159 v162, True]) (by kernel_rfl) (by kernel_rfl) (by kernel_rfl) (allP2 (Idx.of h163) (allP1 trivial)) ?_
                refine seqQ_norm ?_
                refine W_seq (by kernel_rfl) ?_
                obtain ⟨v179, h180, h⟩ := bind_of h
                refine W_run 5 [(7, .val (.dat .bool v179))] [2, 6, 10, 12, 59, 60, 61, 69] [6, 10, 12] (fr' := [(2, aD (.slice .bool) a2), (6, .one (.ptr 6 0)), (10, .one (.ptr 10 0)), (12, .one (.ptr 12 0)), (59, aD (.slice (.pair tI (.pair (.arr 5 tI) (.arr 5 tI)))) a1), (60, aI (List.length a1 : Int)), (61, aI i159), (69, aB v179)]) (L' := [(6, .one (.arr 5 tI) [(0 : Int), (0 : Int), (0 : Int), (0 : Int), (0 : Int)]), (10, .one (.arr 5 tI) x160), (12, .one (.pair tI (.pair (.arr 5 tI) (.arr 5 tI))) v162)]) (obs := [Idx a2 v162.1 v179]) (by kernel_rfl) (by kernel_rfl) (by kernel_rfl) (allP1 (Idx.of h180)) ?_
                refine seqQ_norm ?_
                refine W_cond (o := .tmp 69) (b := v179) (by kernel_rfl) (by kernel_rfl) (fun h181 => ?_) (fun h181 => ?_)
                · replace h := ofT h181 h
                  refine W_region (by kernel_rfl) ?_
                  refine WO_run (j := 3) (k := 3) (orcs := []) (kF := [2, 6, 10, 59, 60, 61, 70, 72]) (kL := [6, 10, 12]) (fr' := [(2, aD (.slice .bool) a2), (6, .one (.ptr 6 0)), (10, .one (.ptr 10 0)), (59, aD (.slice (.pair tI (.pair (.arr 5 tI) (.arr 5 tI)))) a1), (60, aI (List.length a1 : Int)), (61, aI i159), (70, aD (.arr 5 tI) x160), (72, aD (.arr 5 tI) v162.2.2)]) (L' := [(6, .one (.arr 5 tI) [(0 : Int), (0 : Int), (0 : Int), (0 : Int), (0 : Int)]), (10, .one (.arr 5 tI) x160), (12, .one (.pair tI (.pair (.arr 5 tI) (.arr 5 tI))) v162)]) (obs := []) rfl (by kernel_rfl) allP0 ?_
                  obtain ⟨r182, h183, h⟩ := bind_of h
                  refine WO_call0 (us := [none, none]) (d := 73) (p := True) (j := 4) rfl ⟨by kernel_rfl, by kernel_rfl, by kernel_rfl⟩ trivial (wide_then_ok h183) (by kernel_rfl) ?_
                  refine WO_run (j := 5) (k := 1) (orcs := []) (kF := [2, 6, 10, 59, 60, 61]) (kL := [6, 10, 12]) (fr' := [(2, aD (.slice .bool) a2), (6, .one (.ptr 6 0)), (10, .one (.ptr 10 0)), (59, aD (.slice (.pair tI (.pair (.arr 5 tI) (.arr 5 tI)))) a1), (60, aI (List.length a1 : Int)), (61, aI i159)]) (L' := [(6, .one (.arr 5 tI) [(0 : Int), (0 : Int), (0 : Int), (0 : Int), (0 : Int)]), (10, .one (.arr 5 tI) r182), (12, .one (.pair tI (.pair (.arr 5 tI) (.arr 5 tI))) v162)]) (obs := [True]) rfl (by kernel_rfl) (allP1 trivial) ?_
                  obtain rfl := Option.some.inj h
                  refine WO_fin [2, 6, 10, 59, 60, 61] [6, 10] (fr' := [(2, aD (.slice .bool) a2), (6, .one (.ptr 6 0)), (10, .one (.ptr 10 0)), (59, aD (.slice (.pair tI (.pair (.arr 5 tI) (.arr 5 tI)))) a1), (60, aI (List.length a1 : Int)), (61, aI i159)]) (L' := [(6, .one (.arr 5 tI) [(0 : Int), (0 : Int), (0 : Int), (0 : Int), (0 : Int)]), (10, .one (.arr 5 tI) r182)]) (by kernel_rfl) (by kernel_rfl) ?_
                  refine blockQ_norm ?_
                  exact exQ_mk (by kernel_rfl) (by kernel_rfl)
                · replace h := ofF h181 h
                  refine W_region (by kernel_rfl) ?_
                  refine WO_run (j := 3) (k := 3) (orcs := []) (kF := [2, 6, 10, 59, 60, 61, 74, 76]) (kL := [6, 10, 12]) (fr' := [(2, aD (.slice .bool) a2), (6, .one (.ptr 6 0)), (10, .one (.ptr 10 0)), (59, aD (.slice (.pair tI (.pair (.arr 5 tI) (.arr 5 tI)))) a1), (60, aI (List.length a1 : Int)), (61, aI i159), (74, aD (.arr 5 tI) x160), (76, aD (.arr 5 tI) v162.2.1)]) (L' := [(6, .one (.arr 5 tI) [(0 : Int), (0 : Int), (0 : Int), (0 : Int), (0 : Int)]), (10, .one (.arr 5 tI) x160), (12, .one (.pair tI (.pair (.arr 5 tI) (.arr 5 tI))) v162)]) (obs := []) rfl (by kernel_rfl) allP0 ?_
                  obtain ⟨r184, h185, h⟩ := bind_of h
                  refine WO_call0 (us := [none, none]) (d := 77) (p := True) (j := 4) rfl ⟨by kernel_rfl, by kernel_rfl, by kernel_rfl⟩ trivial (wide_then_ok h185) (by kernel_rfl) ?_
                  refine WO_run (j := 5) (k := 1) (orcs := []) (kF := [2, 6, 10, 59, 60, 61]) (kL := [6, 10, 12]) (fr' := [(2, aD (.slice .bool) a2), (6, .one (.ptr 6 0)), (10, .one (.ptr 10 0)), (59, aD (.slice (.pair tI (.pair (.arr 5 tI) (.arr 5 tI)))) a1), (60, aI (List.length a1 : Int)), (61, aI i159)]) (L' := [(6, .one (.arr 5 tI) [(0 : Int), (0 : Int), (0 : Int), (0 : Int), (0 : Int)]), (10, .one (.arr 5 tI) r184), (12, .one (.pair tI (.pair (.arr 5 tI) (.arr 5 tI))) v162)]) (obs := [True]) rfl (by kernel_rfl) (allP1 trivial) ?_
                  obtain rfl := Option.some.inj h
                  refine WO_fin [2, 6, 10, 59, 60, 61] [6, 10] (fr' := [(2, aD (.slice .bool) a2), (6, .one (.ptr 6 0)), (10, .one (.ptr 10 0)), (59, aD (.slice (.pair tI (.pair (.arr 5 tI) (.arr 5 tI)))) a1), (60, aI (List.length a1 : Int)), (61, aI i159)]) (L' := [(6, .one (.arr 5 tI) [(0 : Int), (0 : Int), (0 : Int), (0 : Int), (0 : Int)]), (10, .one (.arr 5 tI) r184)]) (by kernel_rfl) (by kernel_rfl) ?_
                  refine blockQ_norm ?_
                  exact exQ_mk (by kernel_rfl) (by kernel_rfl)
              · intro e fr L hJ
                obtain ⟨rfl, rfl, rfl⟩ := hJ
                refine LT_keep [2, 6, 10, 59, 60, 61] [6, 10] (fr' := [(2, aD (.slice .bool) a2), (6, .one (.ptr 6 0)), (10, .one (.ptr 10 0)), (59, aD (.slice (.pair tI (.pair (.arr 5 tI) (.arr 5 tI)))) a1), (60, aI (List.length a1 : Int)), (61, aI i159)]) (L' := [(6, .one (.arr 5 tI) [(0 : Int), (0 : Int), (0 : Int), (0 : Int), (0 : Int)]), (10, .one (.arr 5 tI) v186)]) (by kernel_rfl) ?_
                refine seqQ_norm ?_
                obtain rfl := Option.some.inj h
                refine W_run 2 [] [2, 6, 10, 59, 60, 61] [6, 10] (fr' := [(2, aD (.slice .bool) a2), (6, .one (.ptr 6 0)), (10, .one (.ptr 10 0)), (59, aD (.slice (.pair tI (.pair (.arr 5 tI) (.arr 5 tI)))) a1), (60, aI (List.length a1 : Int)), (61, aI (w64 (i159 + (1 : Int))))]) (L' := [(6, .one (.arr 5 tI) [(0 : Int), (0 : Int), (0 : Int), (0 : Int), (0 : Int)]), (10, .one (.arr 5 tI) v186)]) (obs := []) (by kernel_rfl) (by kernel_rfl) (by kernel_rfl) allP0 ?_
                exact round_next' (by kernel_rfl) (by kernel_rfl)
            · obtain rfl := stepL_false h164 h
              refine W_exit (id := 2) [6, 10] [6, 10] (fr' := [(6, .one (.ptr 6 0)), (10, .one (.ptr 10 0))]) (L' := [(6, .one (.arr 5 tI) [(0 : Int), (0 : Int), (0 : Int), (0 : Int), (0 : Int)]), (10, .one (.arr 5 tI) x160)]) (by kernel_rfl) (by kernel_rfl) ?_
              refine seqQ_exit ?_
              refine round_exit ?_
              exact exQ_mk (by kernel_rfl) (by kernel_rfl)
          · intro e fr L hJ
            obtain ⟨rfl, rfl, rfl⟩ := hJ
            refine LT_keep [6, 10] [6, 10] (fr' := [(6, .one (.ptr 6 0)), (10, .one (.ptr 10 0))]) (L' := [(6, .one (.arr 5 tI) [(0 : Int), (0 : Int), (0 : Int), (0 : Int), (0 : Int)]), (10, .one (.arr 5 tI) v189)]) (by kernel_rfl) ?_
            refine blockQ_hit ?_
            refine seqQ_norm ?_
            refine W_seq (by kernel_rfl) ?_
            refine W_run 3 [] [6, 7] [6] (fr' := [(6, .one (.ptr 6 0)), (7, aI (0 : Int))]) (L' := [(6, .one (.arr 5 tI) v189)]) (obs := [True]) (by kernel_rfl) (by kernel_rfl) (by kernel_rfl) (allP1 trivial) ?_
            refine seqQ_norm ?_
            obtain rfl := Option.some.inj h
            refine W_ret [6, 7] [6] (fr' := [(6, .one (.ptr 6 0)), (7, aI (0 : Int))]) (L' := [(6, .one (.arr 5 tI) v189)]) (by kernel_rfl) (by kernel_rfl) ?_
            exact retQ_mk (by kernel_rfl) (by kernel_rfl) (by kernel_rfl)

def ref_Same : Option (List Int) :=
some [(0 : Int), (1 : Int), (2 : Int), (3 : Int), (4 : Int)]
theorem ref_Same_ok {r : (List Int)} (h : ref_Same = some r) : FnC Try.prog 25 [] [] (aD (.arr 5 tI) r) [] := by
  refine fnC_of_W (B := bodyOf Try.f25) (n := 2) Try.func25 (by kernel_rfl) (by kernel_rfl) (by kernel_rfl) (by kernel_rfl) (by kernel_rfl) ?_
  intro K
  refine W_seq (by kernel_rfl) ?_
  refine W_run 1 [(1, .typed)] [0] [0] (fr' := [(0, .one (.ptr 0 0))]) (L' := [(0, .one (.arr 5 tI) [(0 : Int), (0 : Int), (0 : Int), (0 : Int), (0 : Int)])]) (obs := []) (by kernel_rfl) (by kernel_rfl) (by kernel_rfl) allP0 ?_
  refine seqQ_norm ?_
  refine W_seq (by kernel_rfl) ?_
  refine W_run 2 [] [0] [0] (fr' := [(0, .one (.ptr 0 0))]) (L' := [(0, .one (.arr 5 tI) [(0 : Int), (1 : Int), (2 : Int), (3 : Int), (4 : Int)])]) (obs := [True]) (by kernel_rfl) (by kernel_rfl) (by kernel_rfl) (allP1 trivial) ?_
  refine seqQ_norm ?_
  obtain rfl := Option.some.inj h
  refine W_ret [0] [0] (fr' := [(0, .one (.ptr 0 0))]) (L' := [(0, .one (.arr 5 tI) [(0 : Int), (1 : Int), (2 : Int), (3 : Int), (4 : Int)])]) (by kernel_rfl) (by kernel_rfl) ?_
  exact retQ_mk (by kernel_rfl) (by kernel_rfl) (by kernel_rfl)

@[reducible] def top_TopFive_s3 (a0 : Int) (a1 : (List Bool)) (r4 : ((List (Int × ((List Int) × (List Int)))) × Int)) (i56 : Int) (v : Bool) : Fr × LL := ([(0, aI a0), (1, aD (.slice .bool) a1), (7, aD (.slice (.pair tI (.pair (.arr 5 tI) (.arr 5 tI)))) r4.1), (9, aI i56), (76, aB v)], [])
def top_TopFive_b4 (a0 : Int) (r4 : ((List (Int × ((List Int) × (List Int)))) × Int)) (i56 : Int) (v59 : Bool) (x57 : Unit) : Option (Flow Unit (Esc Bool Unit)) :=
(ref_Bits a0 i56).bind fun r62 =>
(wide_Run a0 r4.1 r62).bind fun r64 =>
(bif r64.2 != (0 : Int) then
(some true)
else
((ref_Same).bind fun r73 =>
some (!(v59 == (!(deqT (.arr 5 tI) r64.1 r73)))))).bind fun v75 =>
bif v75 then
(some (.done (.ret false)))
else
(some (.next ()))
@[reducible] def top_TopFive_s5 (a0 : Int) (a1 : (List Bool)) (r4 : ((List (Int × ((List Int) × (List Int)))) × Int)) (v : Int × Unit) : Fr × LL := ([(0, aI a0), (1, aD (.slice .bool) a1), (7, aD (.slice (.pair tI (.pair (.arr 5 tI) (.arr 5 tI)))) r4.1), (9, aI v.1)], [])
@[reducible] def top_TopFive_s6 (v : Bool) : Fr × LL := ([(4, aB v)], [])
@[reducible] def top_TopFive_s7 (v : Unit) : Fr × LL := ([], [])
def top_TopFive (fuel : Nat) (a0 : Int) (a1 : (List Bool)) : Option Bool :=
(gate_Build fuel a0 a1).bind fun r1 =>
bif r1.2 != (0 : Int) then
(some ((List.length r1.1 : Int) == (0 : Int)))
else
((wide_Build fuel a0 r1.1).bind fun r4 =>
bif r4.2 != (0 : Int) then
(some (((List.length r4.1 : Int) == (0 : Int)) && ((r4.2 == (1 : Int)) || (r4.2 == (7 : Int)))))
else
(bif ((List.length a1 : Int) == (0 : Int)) || ((List.length r4.1 : Int) == (0 : Int)) then
(some false)
else
((forL (top_TopFive_b4 a0 r4) (fun x57 => (.brk ())) a1 0 ()).bind fun v79 =>
match v79 with
| .ret v84 =>
(some v84)
| .brk v85 =>
(some true))))
theorem top_TopFive_ok {fuel : Nat} {a0 : Int} {a1 : (List Bool)} {r : Bool} (h : top_TopFive fuel a0 a1 = some r) : FnC Try.prog 8 [aI a0, aD (.slice .bool) a1] [] (aB r) [] := by
  refine fnC_of_W (B := bodyOf Try.f8) (n := 77) Try.func8 (by kernel_rfl) (by kernel_rfl) (by kernel_rfl) (by kernel_rfl) (by kernel_rfl) ?_
  intro K
  refine W_seq (by kernel_rfl) ?_
  refine W_run 1 [] [0, 1] [] (fr' := [(0, aI a0), (1, aD (.slice .bool) a1)]) (L' := []) (obs := []) (by kernel_rfl) (by kernel_rfl) (by kernel_rfl) allP0 ?_
  refine seqQ_norm ?_
  refine W_seq (by kernel_rfl) ?_
  refine W_region (by kernel_rfl) ?_
  refine WO_run (j := 2) (k := 2) (orcs := []) (kF := [0, 1, 13, 14]) (kL := []) (fr' := [(0, aI a0), (1, aD (.slice .bool) a1), (13, aI a0), (14, aD (.slice .bool) a1)]) (L' := []) (obs := []) rfl (by kernel_rfl) allP0 ?_
  obtain ⟨r1, h2, h⟩ := bind_of h
  refine WO_call0 (us := [none, none]) (d := 15) (p := True) (j := 3) rfl ⟨by kernel_rfl, by kernel_rfl, by kernel_rfl⟩ trivial (gate_Build_ok h2) (by kernel_rfl) ?_
  refine WO_run (j := 8) (k := 5) (orcs := []) (kF := [0, 1, 5, 6]) (kL := []) (fr' := [(0, aI a0), (1, aD (.slice .bool) a1), (5, aD (.slice (.pair tI (.pair tI tI))) r1.1), (6, aI r1.2)]) (L' := []) (obs := []) rfl (by kernel_rfl) allP0 ?_
  refine WO_fin [0, 1, 5, 6] [] (fr' := [(0, aI a0), (1, aD (.slice .bool) a1), (5, aD (.slice (.pair tI (.pair tI tI))) r1.1), (6, aI r1.2)]) (L' := []) (by kernel_rfl) (by kernel_rfl) ?_
  refine seqQ_norm ?_
  refine W_seq (by kernel_rfl) ?_
  refine W_seq (by kernel_rfl) ?_
  refine W_run 2 [] [0, 1, 5, 19] [] (fr' := [(0, aI a0), (1, aD (.slice .bool) a1), (5, aD (.slice (.pair tI (.pair tI tI))) r1.1), (19, aB (r1.2 != (0 : Int)))]) (L' := []) (obs := []) (by kernel_rfl) (by kernel_rfl) (by kernel_rfl) allP0 ?_
  refine seqQ_norm ?_
  refine W_cond (o := .tmp 19) (b := r1.2 != (0 : Int)) (by kernel_rfl) (by kernel_rfl) (fun h3 => ?_) (fun h3 => ?_)
  · replace h := ofT h3 h
    refine W_seq (by kernel_rfl) ?_
    refine W_run 4 [] [4] [] (fr' := [(4, aB ((List.length r1.1 : Int) == (0 : Int)))]) (L' := []) (obs := []) (by kernel_rfl) (by kernel_rfl) (by kernel_rfl) allP0 ?_
    refine seqQ_norm ?_
    obtain rfl := Option.some.inj h
    refine W_ret [4] [] (fr' := [(4, aB ((List.length r1.1 : Int) == (0 : Int)))]) (L' := []) (by kernel_rfl) (by kernel_rfl) ?_
    refine seqQ_ret ?_
    exact retQ_mk (by kernel_rfl) (by kernel_rfl) (by kernel_rfl)
  · replace h := ofF h3 h
    refine W_skip [0, 1, 5] [] (fr' := [(0, aI a0), (1, aD (.slice .bool) a1), (5, aD (.slice (.pair tI (.pair tI tI))) r1.1)]) (L' := []) (by kernel_rfl) (by kernel_rfl) ?_
    refine seqQ_norm ?_
    refine W_seq (by kernel_rfl) ?_
    refine W_region (by kernel_rfl) ?_
    refine WO_run (j := 2) (k := 2) (orcs := []) (kF := [0, 1, 24, 25]) (kL := []) (fr' := [(0, aI a0), (1, aD (.slice .bool) a1), (24, aI a0), (25, aD (.slice (.pair tI (.pair tI tI))) r1.1)]) (L' := []) (obs := []) rfl (by kernel_rfl) allP0 ?_
    obtain ⟨r4, h5, h⟩ := bind_of h
    refine WO_call0 (us := [none, none]) (d := 26) (p := True) (j := 3) rfl ⟨by kernel_rfl, by kernel_rfl, by kernel_rfl⟩ trivial (wide_Build_ok h5) (by kernel_rfl) ?_
    refine WO_run (j := 8) (k := 5) (orcs := []) (kF := [0, 1, 7, 8]) (kL := []) (fr' := [(0, aI a0), (1, aD (.slice .bool) a1), (7, aD (.slice (.pair tI (.pair (.arr 5 tI) (.arr 5 tI)))) r4.1), (8, aI r4.2)]) (L' := []) (obs := []) rfl (by kernel_rfl) allP0 ?_
    refine WO_fin [0, 1, 7, 8] [] (fr' := [(0, aI a0), (1, aD (.slice .bool) a1), (7, aD (.slice (.pair tI (.pair (.arr 5 tI) (.arr 5 tI)))) r4.1), (8, aI r4.2)]) (L' := []) (by kernel_rfl) (by kernel_rfl) ?_
    refine seqQ_norm ?_
    refine W_seq (by kernel_rfl) ?_
    refine W_seq (by kernel_rfl) ?_
    refine W_run 2 [] [0, 1, 7, 8, 30] [] (fr' := [(0, aI a0), (1, aD (.slice .bool) a1), (7, aD (.slice (.pair tI (.pair (.arr 5 tI) (.arr 5 tI)))) r4.1), (8, aI r4.2), (30, aB (r4.2 != (0 : Int)))]) (L' := []) (obs := []) (by kernel_rfl) (by kernel_rfl) (by kernel_rfl) allP0 ?_
    refine seqQ_norm ?_
    refine W_cond (o := .tmp 30) (b := r4.2 != (0 : Int)) (by kernel_rfl) (by kernel_rfl) (fun h6 => ?_) (fun h6 => ?_)
    · replace h := ofT h6 h
      refine W_seq (by kernel_rfl) ?_
      refine W_run 12 [] [4] [] (fr' := [(4, aB (((List.length r4.1 : Int) == (0 : Int)) && ((r4.2 == (1 : Int)) || (r4.2 == (7 : Int)))))]) (L' := []) (obs := []) (by kernel_rfl) (by kernel_rfl) (by kernel_rfl) allP0 ?_
      refine seqQ_norm ?_
      obtain rfl := Option.some.inj h
      refine W_ret [4] [] (fr' := [(4, aB (((List.length r4.1 : Int) == (0 : Int)) && ((r4.2 == (1 : Int)) || (r4.2 == (7 : Int)))))]) (L' := []) (by kernel_rfl) (by kernel_rfl) ?_
      refine seqQ_ret ?_
      exact retQ_mk (by kernel_rfl) (by kernel_rfl) (by kernel_rfl)
    · replace h := ofF h6 h
      refine W_skip [0, 1, 7] [] (fr' := [(0, aI a0), (1, aD (.slice .bool) a1), (7, aD (.slice (.pair tI (.pair (.arr 5 tI) (.arr 5 tI)))) r4.1)]) (L' := []) (by kernel_rfl) (by kernel_rfl) ?_
      refine seqQ_norm ?_
      refine W_seq (by kernel_rfl) ?_
      refine W_seq (by kernel_rfl) ?_
      refine W_run 8 [] [0, 1, 7, 49] [] (fr' := [(0, aI a0), (1, aD (.slice .bool) a1), (7, aD (.slice (.pair tI (.pair (.arr 5 tI) (.arr 5 tI)))) r4.1), (49, aB (((List.length a1 : Int) == (0 : Int)) || ((List.length r4.1 : Int) == (0 : Int))))]) (L' := []) (obs := []) (by kernel_rfl) (by kernel_rfl) (by kernel_rfl) allP0 ?_
      refine seqQ_norm ?_
      refine W_cond (o := .tmp 49) (b := ((List.length a1 : Int) == (0 : Int)) || ((List.length r4.1 : Int) == (0 : Int))) (by kernel_rfl) (by kernel_rfl) (fun h7 => ?_) (fun h7 => ?_)
      · replace h := ofT h7 h
        refine W_seq (by kernel_rfl) ?_
        refine W_run 1 [] [4] [] (fr' := [(4, aB false)]) (L' := []) (obs := []) (by kernel_rfl) (by kernel_rfl) (by kernel_rfl) allP0 ?_
        refine seqQ_norm ?_
        obtain rfl := Option.some.inj h
        refine W_ret [4] [] (fr' := [(4, aB false)]) (L' := []) (by kernel_rfl) (by kernel_rfl) ?_
        refine seqQ_ret ?_
        exact retQ_mk (by kernel_rfl) (by kernel_rfl) (by kernel_rfl)
      · replace h := ofF h7 h
        refine W_skip [0, 1, 7] [] (fr' := [(0, aI a0), (1, aD (.slice .bool) a1), (7, aD (.slice (.pair tI (.pair (.arr 5 tI) (.arr 5 tI)))) r4.1)]) (L' := []) (by kernel_rfl) (by kernel_rfl) ?_
        refine seqQ_norm ?_
        refine W_seq (by kernel_rfl) ?_
        refine W_seq (by kernel_rfl) ?_
        refine W_run 1 [] [0, 1, 7, 9] [] (fr' := [(0, aI a0), (1, aD (.slice .bool) a1), (7, aD (.slice (.pair tI (.pair (.arr 5 tI) (.arr 5 tI)))) r4.1), (9, aI (0 : Int))]) (L' := []) (obs := []) (by kernel_rfl) (by kernel_rfl) (by kernel_rfl) allP0 ?_
        refine seqQ_norm ?_
        refine W_block (id := 0) (by kernel_rfl) ?_
        obtain ⟨v79, h80, h⟩ := bind_of h
        refine W_len (t := 1) (u := .bool) (xs := a1) (by kernel_rfl) (fun h83 => ?_)
        obtain ⟨h81, h82⟩ := forL_iter h83 h80
        refine W_weaken [0, 1, 7, 9] [] (fr' := ((top_TopFive_s5 a0 a1 r4) ((0 : Int), ())).1) (L' := ((top_TopFive_s5 a0 a1 r4) ((0 : Int), ())).2) (by kernel_rfl) ?_
        refine W_cutK (W_loop (S := (top_TopFive_s5 a0 a1 r4)) (J := (escQ (exQ .ret top_TopFive_s6) (exQ (.exit 0) top_TopFive_s7))) (by kernel_rfl) ?_ h81 _ v79 h82) ?_
        · rintro ⟨i56, x57⟩ s h
          refine W_seq (by kernel_rfl) ?_
          refine W_seq (by kernel_rfl) ?_
          refine W_run 4 [] [0, 1, 7, 9, 53] [] (fr' := [(0, aI a0), (1, aD (.slice .bool) a1), (7, aD (.slice (.pair tI (.pair (.arr 5 tI) (.arr 5 tI)))) r4.1), (9, aI i56), (53, aB (decide (i56 < (List.length a1 : Int))))]) (L' := []) (obs := []) (by kernel_rfl) (by kernel_rfl) (by kernel_rfl) allP0 ?_
          refine seqQ_norm ?_
          refine W_cond (o := .tmp 53) (b := decide (i56 < (List.length a1 : Int))) (by kernel_rfl) (by kernel_rfl) (fun h61 => ?_) (fun h61 => ?_)
          · replace h := stepL_true h61 h
            obtain ⟨v59, _, h60, h, rfl⟩ := h
            refine W_skip [0, 1, 7, 9] [] (fr' := [(0, aI a0), (1, aD (.slice .bool) a1), (7, aD (.slice (.pair tI (.pair (.arr 5 tI) (.arr 5 tI)))) r4.1), (9, aI i56)]) (L' := []) (by kernel_rfl) (by kernel_rfl) ?_
            refine seqQ_norm ?_
            refine W_seq (by kernel_rfl) ?_
            refine W_block (id := 1) (by kernel_rfl) ?_
            refine W_seq (by kernel_rfl) ?_
            refine W_region (by kernel_rfl) ?_
            refine WO_run (j := 4) (k := 4) (orcs := []) (kF := [0, 1, 7, 9, 57, 58, 59, 60]) (kL := []) (fr' := [(0, aI a0), (1, aD (.slice .bool) a1), (7, aD (.slice (.pair tI (.pair (.arr 5 tI) (.arr 5 tI)))) r4.1), (9, aI i56), (57, aI a0), (58, aD (.slice (.pair tI (.pair (.arr 5 tI) (.arr 5 tI)))) r4.1), (59, aI a0), (60, aI i56)]) (L' := []) (obs := []) rfl (by kernel_rfl) allP0 ?_
            obtain ⟨r62, h63, h⟩ := bind_of h
            refine WO_call0 (us := [none, none]) (d := 61) (p := True) (j := 5) rfl ⟨by kernel_rfl, by kernel_rfl, by kernel_rfl⟩ trivial (ref_Bits_ok h63) (by kernel_rfl) ?_
            obtain ⟨r64, h65, h⟩ := bind_of h
            refine WO_call0 (us := [none, none, none]) (d := 62) (p := True) (j := 6) rfl ⟨by kernel_rfl, by kernel_rfl, by kernel_rfl⟩ trivial (wide_Run_ok h65) (by kernel_rfl) ?_
            refine WO_run (j := 12) (k := 6) (orcs := [(19, .typed)]) (kF := [0, 1, 7, 9, 10, 11]) (kL := [10]) (fr' := [(0, aI a0), (1, aD (.slice .bool) a1), (7, aD (.slice (.pair tI (.pair (.arr 5 tI) (.arr 5 tI)))) r4.1), (9, aI i56), (10, .one (.ptr 10 0)), (11, aI r64.2)]) (L' := [(10, .one (.arr 5 tI) r64.1)]) (obs := [True]) rfl (by kernel_rfl) (allP1 trivial) ?_
            refine WO_fin [0, 1, 7, 9, 10, 11] [10] (fr' := [(0, aI a0), (1, aD (.slice .bool) a1), (7, aD (.slice (.pair tI (.pair (.arr 5 tI) (.arr 5 tI)))) r4.1), (9, aI i56), (10, .one (.ptr 10 0)), (11, aI r64.2)]) (L' := [(10, .one (.arr 5 tI) r64.1)]) (by kernel_rfl) (by kernel_rfl) ?_
            refine seqQ_norm ?_
            refine W_seq (by kernel_rfl) ?_
            obtain ⟨v75, h76, h⟩ := bind_of h
            refine W_cutK (Q' := (exQ .normal (top_TopFive_s3 a0 a1 r4 i56)) v75) ?_ ?_
            · replace h := h76
              rcases Bool.eq_false_or_eq_true (r64.2 != (0 : Int)) with h72 | h72
              · replace h := ofT h72 h
                obtain rfl := Option.some.inj h
                refine W_draw2 12 [(6, .known true), (8, .known true), (10, .known true), (12, .known true), (14, .known true), (16, .known true), (18, .known true), (20, .known true), (23, .val (.dat .bool true))] [] [0, 1, 7, 9, 76] [] (fr' := [(0, aI a0), (1, aD (.slice .bool) a1), (7, aD (.slice (.pair tI (.pair (.arr 5 tI) (.arr 5 tI)))) r4.1), (9, aI i56), (76, aB true)]) (L' := []) (out := [(65, aI r64.2), (66, aB (r64.2 != (0 : Int))), (67, aB (r64.2 != (0 : Int))), (68, .tup []), (69, .tup []), (70, .tup []), (71, .tup []), (72, .tup []), (73, .tup []), (74, .tup []), (75, .tup []), (76, aB true)]) (obs := [((r64.2 != (0 : Int)) = true), ((r64.2 != (0 : Int)) = true), ((r64.2 != (0 : Int)) = true), ((r64.2 != (0 : Int)) = true), ((r64.2 != (0 : Int)) = true), ((r64.2 != (0 : Int)) = true), ((r64.2 != (0 : Int)) = true), ((r64.2 != (0 : Int)) = true), ((r64.2 != (0 : Int)) = true)]) (obs2 := []) (calls := []) (by kernel_rfl) (by kernel_rfl) (by kernel_rfl) (by kernel_rfl) (allP2 h72 (allP2 h72 (allP2 h72 (allP2 h72 (allP2 h72 (allP2 h72 (allP2 h72 (allP2 h72 (allP1 h72))))))))) allC0 (by kernel_rfl) allP0 ?_
                exact exQ_mk (by kernel_rfl) (by kernel_rfl)
              · replace h := ofF h72 h
                obtain ⟨r73, h74, h⟩ := bind_of h
                obtain rfl := Option.some.inj h
                refine W_draw2 12 [(6, .known false), (8, .known false), (10, .known false), (11, .val (.dat .bool v59)), (12, .known false), (14, .known false), (18, .known false), (20, .known false), (23, .val (.dat .bool false))] [(8, [], aD (.arr 5 tI) r73)] [0, 1, 7, 9, 76] [] (fr' := [(0, aI a0), (1, aD (.slice .bool) a1), (7, aD (.slice (.pair tI (.pair (.arr 5 tI) (.arr 5 tI)))) r4.1), (9, aI i56), (76, aB (!(v59 == (!(deqT (.arr 5 tI) r64.1 r73)))))]) (L' := []) (out := [(65, aI r64.2), (66, aB (r64.2 != (0 : Int))), (67, aB (r64.2 != (0 : Int))), (68, aD (.slice .bool) a1), (69, aI i56), (70, .one (.dptr .bool v59)), (71, aB v59), (72, aD (.arr 5 tI) r64.1), (73, aD (.arr 5 tI) r73), (74, aB (!(deqT (.arr 5 tI) r64.1 r73))), (75, aB (!(v59 == (!(deqT (.arr 5 tI) r64.1 r73))))), (76, aB (!(v59 == (!(deqT (.arr 5 tI) r64.1 r73)))))]) (obs := [((r64.2 != (0 : Int)) = false), ((r64.2 != (0 : Int)) = false), ((r64.2 != (0 : Int)) = false), Idx a1 i56 v59, ((r64.2 != (0 : Int)) = false), ((r64.2 != (0 : Int)) = false), ((r64.2 != (0 : Int)) = false), ((r64.2 != (0 : Int)) = false), ((r64.2 != (0 : Int)) = false), ((r64.2 != (0 : Int)) = false)]) (obs2 := []) (calls := [(25, [], aD (.arr 5 tI) r73)]) (by kernel_rfl) (by kernel_rfl) (by kernel_rfl) (by kernel_rfl) (allP2 h72 (allP2 h72 (allP2 h72 (allP2 (Idx.of h60) (allP2 h72 (allP2 h72 (allP2 h72 (allP2 h72 (allP2 h72 (allP1 h72)))))))))) (allC1 (by kernel_rfl) (ref_Same_ok h74) (by kernel_rfl) allC0) (by kernel_rfl) allP0 ?_
                exact exQ_mk (by kernel_rfl) (by kernel_rfl)
            · intro e fr L hJ
              obtain ⟨rfl, rfl, rfl⟩ := hJ
              refine LT_keep [0, 1, 7, 9, 76] [] (fr' := [(0, aI a0), (1, aD (.slice .bool) a1), (7, aD (.slice (.pair tI (.pair (.arr 5 tI) (.arr 5 tI)))) r4.1), (9, aI i56), (76, aB v75)]) (L' := []) (by kernel_rfl) ?_
              refine seqQ_norm ?_
              refine W_cond (o := .tmp 76) (b := v75) (by kernel_rfl) (by kernel_rfl) (fun h77 => ?_) (fun h77 => ?_)
              · replace h := ofT h77 h
                refine W_seq (by kernel_rfl) ?_
                refine W_run 1 [] [4] [] (fr' := [(4, aB false)]) (L' := []) (obs := []) (by kernel_rfl) (by kernel_rfl) (by kernel_rfl) allP0 ?_
                refine seqQ_norm ?_
                obtain rfl := Option.some.inj h
                refine W_ret [4] [] (fr' := [(4, aB false)]) (L' := []) (by kernel_rfl) (by kernel_rfl) ?_
                refine blockQ_ret ?_
                refine seqQ_ret ?_
                refine round_ret ?_
                refine escQ_ret ?_
                exact exQ_mk (by kernel_rfl) (by kernel_rfl)
              · replace h := ofF h77 h
                refine W_skip [0, 1, 7, 9] [] (fr' := [(0, aI a0), (1, aD (.slice .bool) a1), (7, aD (.slice (.pair tI (.pair (.arr 5 tI) (.arr 5 tI)))) r4.1), (9, aI i56)]) (L' := []) (by kernel_rfl) (by kernel_rfl) ?_
                refine blockQ_norm ?_
                refine seqQ_norm ?_
                obtain rfl := Option.some.inj h
                refine W_run 3 [] [0, 1, 7, 9] [] (fr' := [(0, aI a0), (1, aD (.slice .bool) a1), (7, aD (.slice (.pair tI (.pair (.arr 5 tI) (.arr 5 tI)))) r4.1), (9, aI (w64 (i56 + (1 : Int))))]) (L' := []) (obs := []) (by kernel_rfl) (by kernel_rfl) (by kernel_rfl) allP0 ?_
                exact round_next' (by kernel_rfl) (by kernel_rfl)
          · obtain rfl := stepL_false h61 h
            refine W_exit (id := 0) [] [] (fr' := []) (L' := []) (by kernel_rfl) (by kernel_rfl) ?_
            refine seqQ_exit ?_
            refine round_exit ?_
            refine escQ_brk ?_
            exact exQ_mk (by kernel_rfl) (by kernel_rfl)
        · intro e fr L hJ
          rcases v79 with v84 | v85
          · obtain ⟨rfl, rfl, rfl⟩ := hJ
            obtain rfl := Option.some.inj h
            refine LT_keep [4] [] (fr' := [(4, aB v84)]) (L' := []) (by kernel_rfl) ?_
            refine blockQ_ret ?_
            refine seqQ_ret ?_
            exact retQ_mk (by kernel_rfl) (by kernel_rfl) (by kernel_rfl)
          · obtain ⟨rfl, rfl, rfl⟩ := hJ
            refine LT_keep [] [] (fr' := []) (L' := []) (by kernel_rfl) ?_
            refine blockQ_hit ?_
            refine seqQ_norm ?_
            refine W_seq (by kernel_rfl) ?_
            refine W_run 1 [] [4] [] (fr' := [(4, aB true)]) (L' := []) (obs := []) (by kernel_rfl) (by kernel_rfl) (by kernel_rfl) allP0 ?_
            refine seqQ_norm ?_
            obtain rfl := Option.some.inj h
            refine W_ret [4] [] (fr' := [(4, aB true)]) (L' := []) (by kernel_rfl) (by kernel_rfl) ?_
            exact retQ_mk (by kernel_rfl) (by kernel_rfl) (by kernel_rfl)
end Go.Proofs.Ythjdegeajfhakaa.topFive
