/- What the functions that WideBuilds calls compute, as models, and that they compute it: written by a program of mine. -/
import Derived.Test.YthjdegeajfhakaaProg
import Derived.Test.YthjdegeajfhakaaSl5
set_option linter.all false
set_option maxRecDepth 100000
namespace Go.Proofs.Ythjdegeajfhakaa.wideBuilds
open Go Go.Sl
def gate_Wrong_1 (a0 : Int) (c0 : Int) : Option Bool :=
some ((decide (a0 ≥ (0 : Int))) && (decide (a0 < c0)))
theorem gate_Wrong_1_ok {a0 : Int} {c0 : Int} {r : Bool} (h : gate_Wrong_1 a0 c0 = some r) : FnC Try.prog 46 [aI a0, .one (.ptr 1000 0)] [(1000, .cells [.dat tI c0])] (aB r) [(1000, .cells [.dat tI c0])] := by
  refine fnC_of_W (B := bodyOf Try.f46) (n := 11) Try.func46 (by kernel_rfl) (by kernel_rfl) (by kernel_rfl) (by kernel_rfl) (by kernel_rfl) ?_
  intro K
  refine W_seq (by kernel_rfl) ?_
  refine W_run 1 [] [0, 1] [1000] (fr' := [(0, aI a0), (1, .one (.ptr 1000 0))]) (L' := [(1000, .cells [.dat tI c0])]) (obs := []) (by kernel_rfl) (by kernel_rfl) (by kernel_rfl) allP0 ?_
  refine seqQ_norm ?_
  refine W_seq (by kernel_rfl) ?_
  refine W_run 8 [] [3] [1000] (fr' := [(3, aB ((decide (a0 ≥ (0 : Int))) && (decide (a0 < c0))))]) (L' := [(1000, .cells [.dat tI c0])]) (obs := []) (by kernel_rfl) (by kernel_rfl) (by kernel_rfl) allP0 ?_
  refine seqQ_norm ?_
  obtain rfl := Option.some.inj h
  refine W_ret [3] [1000] (fr' := [(3, aB ((decide (a0 ≥ (0 : Int))) && (decide (a0 < c0))))]) (L' := [(1000, .cells [.dat tI c0])]) (by kernel_rfl) (by kernel_rfl) ?_
  exact retQ_mk (by kernel_rfl) (by kernel_rfl) (by kernel_rfl)

@[reducible] def gate_Wrong_s38 (a0 : Int) (a1 : (List (Int × (Int × Int)))) (i265 : Int) (v268 : (Int × (Int × Int))) (v : Bool) : Fr × LL := ([(0, aI a0), (6, .one (.ptr 6 0)), (7, .one (.fn 46 [(5, 0)])), (8, aD (.slice (.pair tI (.pair tI tI))) a1), (9, aI (List.length a1 : Int)), (10, aI i265), (40, aB v)], [(5, .cells [.dat tI i265]), (6, .one (.pair tI (.pair tI tI)) v268)])
def gate_Wrong_g39 (i265 : Int) (v268 : (Int × (Int × Int))) : Option Bool :=
(bif decide (v268.1 > (1 : Int)) then
((gate_Wrong_1 v268.2.1 i265).bind fun r386 =>
some (!r386))
else
(some false)).bind fun v388 =>
bif v388 then
(some v388)
else
(bif decide (v268.1 > (2 : Int)) then
((gate_Wrong_1 v268.2.2 i265).bind fun r392 =>
some (!r392))
else
(some false))
@[reducible] def gate_Wrong_s40 (a0 : Int) (a1 : (List (Int × (Int × Int)))) (i265 : Int) (v : Bool) : Fr × LL := ([(0, aI a0), (8, aD (.slice (.pair tI (.pair tI tI))) a1), (9, aI (List.length a1 : Int)), (10, aI i265), (40, aB v)], [])
@[reducible] def gate_Wrong_s41 (a0 : Int) (a1 : (List (Int × (Int × Int)))) (i265 : Int) (v268 : (Int × (Int × Int))) (v : Bool) : Fr × LL := ([(0, aI a0), (6, .one (.ptr 6 0)), (7, .one (.fn 46 [(5, 0)])), (8, aD (.slice (.pair tI (.pair tI tI))) a1), (9, aI (List.length a1 : Int)), (10, aI i265), (25, aB v)], [(5, .cells [.dat tI i265]), (6, .one (.pair tI (.pair tI tI)) v268)])
@[reducible] def gate_Wrong_s42 (a0 : Int) (a1 : (List (Int × (Int × Int)))) (i265 : Int) (v268 : (Int × (Int × Int))) (v : Bool) : Fr × LL := ([(0, aI a0), (6, .one (.ptr 6 0)), (7, .one (.fn 46 [(5, 0)])), (8, aD (.slice (.pair tI (.pair tI tI))) a1), (9, aI (List.length a1 : Int)), (10, aI i265), (16, aB v)], [(5, .cells [.dat tI i265]), (6, .one (.pair tI (.pair tI tI)) v268)])
def gate_Wrong_b43 (a0 : Int) (i265 : Int) (v268 : (Int × (Int × Int))) (x266 : Unit) : Option (Flow Unit (Esc Int Unit)) :=
(bif decide (v268.1 < (1 : Int)) then
(some true)
else
(some (decide (v268.1 > (4 : Int))))).bind fun v337 =>
bif v337 then
(some (.done (.ret (6 : Int))))
else
((bif v268.1 == (1 : Int) then
(bif decide (v268.2.1 < (0 : Int)) then
(some true)
else
(some (decide (v268.2.1 ≥ a0))))
else
(some false)).bind fun v346 =>
bif v346 then
(some (.done (.ret (4 : Int))))
else
((gate_Wrong_g39 i265 v268).bind fun v394 =>
bif v394 then
(some (.done (.ret (2 : Int))))
else
(some (.next ()))))
@[reducible] def gate_Wrong_s44 (a0 : Int) (a1 : (List (Int × (Int × Int)))) (v : Int × Unit) : Fr × LL := ([(0, aI a0), (8, aD (.slice (.pair tI (.pair tI tI))) a1), (9, aI (List.length a1 : Int)), (10, aI v.1)], [])
@[reducible] def gate_Wrong_s45 (v : Int) : Fr × LL := ([(4, aI v)], [])
@[reducible] def gate_Wrong_s46 (v : Unit) : Fr × LL := ([], [])
def gate_Wrong (a0 : Int) (a1 : (List (Int × (Int × Int)))) : Option Int :=
(forL (gate_Wrong_b43 a0) (fun x266 => (.brk ())) a1 0 ()).bind fun v398 =>
match v398 with
| .ret v403 =>
(some v403)
| .brk v404 =>
(some (0 : Int))
theorem gate_Wrong_ok {a0 : Int} {a1 : (List (Int × (Int × Int)))} {r : Int} (h : gate_Wrong a0 a1 = some r) : FnC Try.prog 39 [aI a0, aD (.slice (.pair tI (.pair tI tI))) a1] [] (aI r) [] := by
  refine fnC_of_W (B := bodyOf Try.f39) (n := 62) Try.func39 (by kernel_rfl) (by kernel_rfl) (by kernel_rfl) (by kernel_rfl) (by kernel_rfl) ?_
  intro K
  refine W_seq (by kernel_rfl) ?_
  refine W_run 1 [] [0, 1] [] (fr' := [(0, aI a0), (1, aD (.slice (.pair tI (.pair tI tI))) a1)]) (L' := []) (obs := []) (by kernel_rfl) (by kernel_rfl) (by kernel_rfl) allP0 ?_
  refine seqQ_norm ?_
  refine W_seq (by kernel_rfl) ?_
  refine W_seq (by kernel_rfl) ?_
  refine W_run 3 [] [0, 8, 9, 10] [] (fr' := [(0, aI a0), (8, aD (.slice (.pair tI (.pair tI tI))) a1), (9, aI (List.length a1 : Int)), (10, aI (0 : Int))]) (L' := []) (obs := []) (by kernel_rfl) (by kernel_rfl) (by kernel_rfl) allP0 ?_
  refine seqQ_norm ?_
  refine W_block (id := 0) (by kernel_rfl) ?_
  obtain ⟨v398, h399, h⟩ := bind_of h
  refine W_len (t := 8) (u := (.pair tI (.pair tI tI))) (xs := a1) (by kernel_rfl) (fun h402 => ?_)
  obtain ⟨h400, h401⟩ := forL_iter h402 h399
  refine W_weaken [0, 8, 9, 10] [] (fr' := ((gate_Wrong_s44 a0 a1) ((0 : Int), ())).1) (L' := ((gate_Wrong_s44 a0 a1) ((0 : Int), ())).2) (by kernel_rfl) ?_
  refine W_cutK (W_loop (S := (gate_Wrong_s44 a0 a1)) (J := (escQ (exQ .ret gate_Wrong_s45) (exQ (.exit 0) gate_Wrong_s46))) (by kernel_rfl) ?_ h400 _ v398 h401) ?_
  · rintro ⟨i265, x266⟩ s h
    refine W_seq (by kernel_rfl) ?_
    refine W_run 1 [] [0, 8, 9, 10, 11] [] (fr' := [(0, aI a0), (8, aD (.slice (.pair tI (.pair tI tI))) a1), (9, aI (List.length a1 : Int)), (10, aI i265), (11, aB (decide (i265 < (List.length a1 : Int))))]) (L' := []) (obs := []) (by kernel_rfl) (by kernel_rfl) (by kernel_rfl) allP0 ?_
    refine seqQ_norm ?_
    refine W_seq (by kernel_rfl) ?_
    refine W_cond (o := .tmp 11) (b := decide (i265 < (List.length a1 : Int))) (by kernel_rfl) (by kernel_rfl) (fun h270 => ?_) (fun h270 => ?_)
    · replace h := stepL_true h270 h
      obtain ⟨v268, _, h269, h, rfl⟩ := h
      refine W_skip [0, 8, 9, 10] [] (fr' := [(0, aI a0), (8, aD (.slice (.pair tI (.pair tI tI))) a1), (9, aI (List.length a1 : Int)), (10, aI i265)]) (L' := []) (by kernel_rfl) (by kernel_rfl) ?_
      refine seqQ_norm ?_
      refine W_seq (by kernel_rfl) ?_
      refine W_block (id := 1) (by kernel_rfl) ?_
      refine W_seq (by kernel_rfl) ?_
      refine W_run 7 [(3, .val (.dat (.pair tI (.pair tI tI)) v268)), (9, .typed)] [0, 5, 6, 8, 9, 10] [5, 6] (fr' := [(0, aI a0), (5, .one (.ptr 5 0)), (6, .one (.ptr 6 0)), (8, aD (.slice (.pair tI (.pair tI tI))) a1), (9, aI (List.length a1 : Int)), (10, aI i265)]) (L' := [(5, .cells [.dat tI i265]), (6, .one (.pair tI (.pair tI tI)) v268)]) (obs := [Idx a1 i265 v268, True, True]) (by kernel_rfl) (by kernel_rfl) (by kernel_rfl) (allP2 (Idx.of h269) (allP2 trivial (allP1 trivial))) ?_
      refine seqQ_norm ?_
      refine W_seq (by kernel_rfl) ?_
      refine W_run 2 [] [0, 6, 7, 8, 9, 10] [6, 5] (fr' := [(0, aI a0), (6, .one (.ptr 6 0)), (7, .one (.fn 46 [(5, 0)])), (8, aD (.slice (.pair tI (.pair tI tI))) a1), (9, aI (List.length a1 : Int)), (10, aI i265)]) (L' := [(6, .one (.pair tI (.pair tI tI)) v268), (5, .cells [.dat tI i265])]) (obs := []) (by kernel_rfl) (by kernel_rfl) (by kernel_rfl) allP0 ?_
      refine seqQ_norm ?_
      refine W_block (id := 2) (by kernel_rfl) ?_
      refine W_seq (by kernel_rfl) ?_
      obtain ⟨v337, h338, h⟩ := bind_of h
      refine W_cutK (Q' := (exQ .normal (gate_Wrong_s42 a0 a1 i265 v268)) v337) ?_ ?_
      · replace h := h338
        refine W_region (by kernel_rfl) ?_
        refine WO_run (j := 4) (k := 4) (orcs := []) (kF := [0, 6, 7, 8, 9, 10, 20]) (kL := [5, 6]) (fr' := [(0, aI a0), (6, .one (.ptr 6 0)), (7, .one (.fn 46 [(5, 0)])), (8, aD (.slice (.pair tI (.pair tI tI))) a1), (9, aI (List.length a1 : Int)), (10, aI i265), (20, aB (decide (v268.1 < (1 : Int))))]) (L' := [(5, .cells [.dat tI i265]), (6, .one (.pair tI (.pair tI tI)) v268)]) (obs := []) rfl (by kernel_rfl) allP0 ?_
        rcases Bool.eq_false_or_eq_true (decide (v268.1 < (1 : Int))) with h336 | h336
        · replace h := ofT h336 h
          refine WO_run (j := 9) (k := 5) (orcs := [(8, .known true), (10, .known true), (12, .known true), (15, .val (.dat .bool true))]) (kF := [0, 6, 7, 8, 9, 10, 16]) (kL := [5, 6]) (fr' := [(0, aI a0), (6, .one (.ptr 6 0)), (7, .one (.fn 46 [(5, 0)])), (8, aD (.slice (.pair tI (.pair tI tI))) a1), (9, aI (List.length a1 : Int)), (10, aI i265), (16, aB true)]) (L' := [(5, .cells [.dat tI i265]), (6, .one (.pair tI (.pair tI tI)) v268)]) (obs := [((decide (v268.1 < (1 : Int))) = true), ((decide (v268.1 < (1 : Int))) = true), ((decide (v268.1 < (1 : Int))) = true), ((decide (v268.1 < (1 : Int))) = true)]) rfl (by kernel_rfl) (allP2 h336 (allP2 h336 (allP2 h336 (allP1 h336)))) ?_
          obtain rfl := Option.some.inj h
          refine WO_fin [0, 6, 7, 8, 9, 10, 16] [5, 6] (fr' := [(0, aI a0), (6, .one (.ptr 6 0)), (7, .one (.fn 46 [(5, 0)])), (8, aD (.slice (.pair tI (.pair tI tI))) a1), (9, aI (List.length a1 : Int)), (10, aI i265), (16, aB true)]) (L' := [(5, .cells [.dat tI i265]), (6, .one (.pair tI (.pair tI tI)) v268)]) (by kernel_rfl) (by kernel_rfl) ?_
          exact exQ_mk (by kernel_rfl) (by kernel_rfl)
        · replace h := ofF h336 h
          refine WO_run (j := 9) (k := 5) (orcs := [(8, .known false), (10, .known false), (12, .known false), (15, .val (.dat .bool false))]) (kF := [0, 6, 7, 8, 9, 10, 16]) (kL := [5, 6]) (fr' := [(0, aI a0), (6, .one (.ptr 6 0)), (7, .one (.fn 46 [(5, 0)])), (8, aD (.slice (.pair tI (.pair tI tI))) a1), (9, aI (List.length a1 : Int)), (10, aI i265), (16, aB (decide (v268.1 > (4 : Int))))]) (L' := [(5, .cells [.dat tI i265]), (6, .one (.pair tI (.pair tI tI)) v268)]) (obs := [((decide (v268.1 < (1 : Int))) = false), ((decide (v268.1 < (1 : Int))) = false), ((decide (v268.1 < (1 : Int))) = false), ((decide (v268.1 < (1 : Int))) = false)]) rfl (by kernel_rfl) (allP2 h336 (allP2 h336 (allP2 h336 (allP1 h336)))) ?_
          obtain rfl := Option.some.inj h
          refine WO_fin [0, 6, 7, 8, 9, 10, 16] [5, 6] (fr' := [(0, aI a0), (6, .one (.ptr 6 0)), (7, .one (.fn 46 [(5, 0)])), (8, aD (.slice (.pair tI (.pair tI tI))) a1), (9, aI (List.length a1 : Int)), (10, aI i265), (16, aB (decide (v268.1 > (4 : Int))))]) (L' := [(5, .cells [.dat tI i265]), (6, .one (.pair tI (.pair tI tI)) v268)]) (by kernel_rfl) (by kernel_rfl) ?_
          exact exQ_mk (by kernel_rfl) (by kernel_rfl)
      · intro e fr L hJ
        obtain ⟨rfl, rfl, rfl⟩ := hJ
        refine LT_keep [0, 6, 7, 8, 9, 10, 16] [6, 5] (fr' := [(0, aI a0), (6, .one (.ptr 6 0)), (7, .one (.fn 46 [(5, 0)])), (8, aD (.slice (.pair tI (.pair tI tI))) a1), (9, aI (List.length a1 : Int)), (10, aI i265), (16, aB v337)]) (L' := [(6, .one (.pair tI (.pair tI tI)) v268), (5, .cells [.dat tI i265])]) (by kernel_rfl) ?_
        refine seqQ_norm ?_
        refine W_cond (o := .tmp 16) (b := v337) (by kernel_rfl) (by kernel_rfl) (fun h339 => ?_) (fun h339 => ?_)
        · replace h := ofT h339 h
          refine W_seq (by kernel_rfl) ?_
          refine W_run 1 [] [4] [] (fr' := [(4, aI (6 : Int))]) (L' := []) (obs := []) (by kernel_rfl) (by kernel_rfl) (by kernel_rfl) allP0 ?_
          refine seqQ_norm ?_
          obtain rfl := Option.some.inj h
          refine W_ret [4] [] (fr' := [(4, aI (6 : Int))]) (L' := []) (by kernel_rfl) (by kernel_rfl) ?_
          refine blockQ_ret ?_
          refine blockQ_ret ?_
          refine seqQ_ret ?_
          refine round_ret ?_
          refine escQ_ret ?_
          exact exQ_mk (by kernel_rfl) (by kernel_rfl)
        · replace h := ofF h339 h
          refine W_seq (by kernel_rfl) ?_
          obtain ⟨v346, h347, h⟩ := bind_of h
          refine W_cutK (Q' := (exQ .normal (gate_Wrong_s41 a0 a1 i265 v268)) v346) ?_ ?_
          · replace h := h347
            refine W_region (by kernel_rfl) ?_
            refine WO_run (j := 4) (k := 4) (orcs := []) (kF := [0, 6, 7, 8, 9, 10, 29]) (kL := [5, 6]) (fr' := [(0, aI a0), (6, .one (.ptr 6 0)), (7, .one (.fn 46 [(5, 0)])), (8, aD (.slice (.pair tI (.pair tI tI))) a1), (9, aI (List.length a1 : Int)), (10, aI i265), (29, aB (v268.1 == (1 : Int)))]) (L' := [(5, .cells [.dat tI i265]), (6, .one (.pair tI (.pair tI tI)) v268)]) (obs := []) rfl (by kernel_rfl) allP0 ?_
            rcases Bool.eq_false_or_eq_true (v268.1 == (1 : Int)) with h344 | h344
            · replace h := ofT h344 h
              refine WO_run (j := 8) (k := 4) (orcs := [(8, .known true), (10, .known true), (12, .known true), (14, .known true)]) (kF := [0, 6, 7, 8, 9, 10, 29, 33]) (kL := [5, 6]) (fr' := [(0, aI a0), (6, .one (.ptr 6 0)), (7, .one (.fn 46 [(5, 0)])), (8, aD (.slice (.pair tI (.pair tI tI))) a1), (9, aI (List.length a1 : Int)), (10, aI i265), (29, aB (v268.1 == (1 : Int))), (33, aB (decide (v268.2.1 < (0 : Int))))]) (L' := [(5, .cells [.dat tI i265]), (6, .one (.pair tI (.pair tI tI)) v268)]) (obs := [((v268.1 == (1 : Int)) = true), ((v268.1 == (1 : Int)) = true), ((v268.1 == (1 : Int)) = true), ((v268.1 == (1 : Int)) = true)]) rfl (by kernel_rfl) (allP2 h344 (allP2 h344 (allP2 h344 (allP1 h344)))) ?_
              rcases Bool.eq_false_or_eq_true (decide (v268.2.1 < (0 : Int))) with h345 | h345
              · replace h := ofT h345 h
                refine WO_run (j := 15) (k := 7) (orcs := [(16, .known true), (18, .known true), (20, .known true), (22, .known true), (24, .known true), (25, .val (.dat .bool true)), (27, .val (.dat .bool true))]) (kF := [0, 6, 7, 8, 9, 10, 25]) (kL := [5, 6]) (fr' := [(0, aI a0), (6, .one (.ptr 6 0)), (7, .one (.fn 46 [(5, 0)])), (8, aD (.slice (.pair tI (.pair tI tI))) a1), (9, aI (List.length a1 : Int)), (10, aI i265), (25, aB true)]) (L' := [(5, .cells [.dat tI i265]), (6, .one (.pair tI (.pair tI tI)) v268)]) (obs := [((decide (v268.2.1 < (0 : Int))) = true), ((decide (v268.2.1 < (0 : Int))) = true), ((decide (v268.2.1 < (0 : Int))) = true), ((decide (v268.2.1 < (0 : Int))) = true), ((v268.1 == (1 : Int)) = true), ((decide (v268.2.1 < (0 : Int))) = true), ((v268.1 == (1 : Int)) = true)]) rfl (by kernel_rfl) (allP2 h345 (allP2 h345 (allP2 h345 (allP2 h345 (allP2 h344 (allP2 h345 (allP1 h344))))))) ?_
                obtain rfl := Option.some.inj h
                refine WO_fin [0, 6, 7, 8, 9, 10, 25] [5, 6] (fr' := [(0, aI a0), (6, .one (.ptr 6 0)), (7, .one (.fn 46 [(5, 0)])), (8, aD (.slice (.pair tI (.pair tI tI))) a1), (9, aI (List.length a1 : Int)), (10, aI i265), (25, aB true)]) (L' := [(5, .cells [.dat tI i265]), (6, .one (.pair tI (.pair tI tI)) v268)]) (by kernel_rfl) (by kernel_rfl) ?_
                exact exQ_mk (by kernel_rfl) (by kernel_rfl)
              · replace h := ofF h345 h
                refine WO_run (j := 15) (k := 7) (orcs := [(16, .known false), (18, .known false), (20, .known false), (22, .known false), (24, .known true), (25, .val (.dat .bool false)), (27, .val (.dat .bool true))]) (kF := [0, 6, 7, 8, 9, 10, 25]) (kL := [5, 6]) (fr' := [(0, aI a0), (6, .one (.ptr 6 0)), (7, .one (.fn 46 [(5, 0)])), (8, aD (.slice (.pair tI (.pair tI tI))) a1), (9, aI (List.length a1 : Int)), (10, aI i265), (25, aB (decide (v268.2.1 ≥ a0)))]) (L' := [(5, .cells [.dat tI i265]), (6, .one (.pair tI (.pair tI tI)) v268)]) (obs := [((decide (v268.2.1 < (0 : Int))) = false), ((decide (v268.2.1 < (0 : Int))) = false), ((decide (v268.2.1 < (0 : Int))) = false), ((decide (v268.2.1 < (0 : Int))) = false), ((v268.1 == (1 : Int)) = true), ((decide (v268.2.1 < (0 : Int))) = false), ((v268.1 == (1 : Int)) = true)]) rfl (by kernel_rfl) (allP2 h345 (allP2 h345 (allP2 h345 (allP2 h345 (allP2 h344 (allP2 h345 (allP1 h344))))))) ?_
                obtain rfl := Option.some.inj h
                refine WO_fin [0, 6, 7, 8, 9, 10, 25] [5, 6] (fr' := [(0, aI a0), (6, .one (.ptr 6 0)), (7, .one (.fn 46 [(5, 0)])), (8, aD (.slice (.pair tI (.pair tI tI))) a1), (9, aI (List.length a1 : Int)), (10, aI i265), (25, aB (decide (v268.2.1 ≥ a0)))]) (L' := [(5, .cells [.dat tI i265]), (6, .one (.pair tI (.pair tI tI)) v268)]) (by kernel_rfl) (by kernel_rfl) ?_
                exact exQ_mk (by kernel_rfl) (by kernel_rfl)
            · replace h := ofF h344 h
              refine WO_run (j := 15) (k := 11) (orcs := [(8, .known false), (10, .known false), (12, .known false), (14, .known false), (16, .known true), (18, .known true), (20, .known true), (22, .known true), (24, .known false), (27, .val (.dat .bool false))]) (kF := [0, 6, 7, 8, 9, 10, 25]) (kL := [5, 6]) (fr' := [(0, aI a0), (6, .one (.ptr 6 0)), (7, .one (.fn 46 [(5, 0)])), (8, aD (.slice (.pair tI (.pair tI tI))) a1), (9, aI (List.length a1 : Int)), (10, aI i265), (25, aB false)]) (L' := [(5, .cells [.dat tI i265]), (6, .one (.pair tI (.pair tI tI)) v268)]) (obs := [((v268.1 == (1 : Int)) = false), ((v268.1 == (1 : Int)) = false), ((v268.1 == (1 : Int)) = false), ((v268.1 == (1 : Int)) = false), ((v268.1 == (1 : Int)) = false), ((v268.1 == (1 : Int)) = false)]) rfl (by kernel_rfl) (allP2 h344 (allP2 h344 (allP2 h344 (allP2 h344 (allP2 h344 (allP1 h344)))))) ?_
              obtain rfl := Option.some.inj h
              refine WO_fin [0, 6, 7, 8, 9, 10, 25] [5, 6] (fr' := [(0, aI a0), (6, .one (.ptr 6 0)), (7, .one (.fn 46 [(5, 0)])), (8, aD (.slice (.pair tI (.pair tI tI))) a1), (9, aI (List.length a1 : Int)), (10, aI i265), (25, aB false)]) (L' := [(5, .cells [.dat tI i265]), (6, .one (.pair tI (.pair tI tI)) v268)]) (by kernel_rfl) (by kernel_rfl) ?_
              exact exQ_mk (by kernel_rfl) (by kernel_rfl)
          · intro e fr L hJ
            obtain ⟨rfl, rfl, rfl⟩ := hJ
            refine LT_keep [0, 6, 7, 8, 9, 10, 25] [6, 5] (fr' := [(0, aI a0), (6, .one (.ptr 6 0)), (7, .one (.fn 46 [(5, 0)])), (8, aD (.slice (.pair tI (.pair tI tI))) a1), (9, aI (List.length a1 : Int)), (10, aI i265), (25, aB v346)]) (L' := [(6, .one (.pair tI (.pair tI tI)) v268), (5, .cells [.dat tI i265])]) (by kernel_rfl) ?_
            refine seqQ_norm ?_
            refine W_cond (o := .tmp 25) (b := v346) (by kernel_rfl) (by kernel_rfl) (fun h348 => ?_) (fun h348 => ?_)
            · replace h := ofT h348 h
              refine W_seq (by kernel_rfl) ?_
              refine W_run 1 [] [4] [] (fr' := [(4, aI (4 : Int))]) (L' := []) (obs := []) (by kernel_rfl) (by kernel_rfl) (by kernel_rfl) allP0 ?_
              refine seqQ_norm ?_
              obtain rfl := Option.some.inj h
              refine W_ret [4] [] (fr' := [(4, aI (4 : Int))]) (L' := []) (by kernel_rfl) (by kernel_rfl) ?_
              refine blockQ_ret ?_
              refine blockQ_ret ?_
              refine seqQ_ret ?_
              refine round_ret ?_
              refine escQ_ret ?_
              exact exQ_mk (by kernel_rfl) (by kernel_rfl)
            · replace h := ofF h348 h
              refine W_seq (by kernel_rfl) ?_
              obtain ⟨v394, h395, h⟩ := bind_of h
              refine W_cutK (Q' := (exQ .normal (gate_Wrong_s40 a0 a1 i265)) v394) ?_ ?_
              · replace h := h395
                refine W_seq (by kernel_rfl) ?_
                obtain ⟨v388, h389, h⟩ := bind_of h
                refine W_cutK (Q' := (exQ .normal (gate_Wrong_s38 a0 a1 i265 v268)) v388) ?_ ?_
                · replace h := h389
                  refine W_region (by kernel_rfl) ?_
                  refine WO_run (j := 4) (k := 4) (orcs := []) (kF := [0, 6, 7, 8, 9, 10, 44]) (kL := [5, 6]) (fr' := [(0, aI a0), (6, .one (.ptr 6 0)), (7, .one (.fn 46 [(5, 0)])), (8, aD (.slice (.pair tI (.pair tI tI))) a1), (9, aI (List.length a1 : Int)), (10, aI i265), (44, aB (decide (v268.1 > (1 : Int))))]) (L' := [(5, .cells [.dat tI i265]), (6, .one (.pair tI (.pair tI tI)) v268)]) (obs := []) rfl (by kernel_rfl) allP0 ?_
                  rcases Bool.eq_false_or_eq_true (decide (v268.1 > (1 : Int))) with h385 | h385
                  · replace h := ofT h385 h
                    refine WO_run (j := 7) (k := 3) (orcs := [(8, .known true), (10, .known true), (12, .known true)]) (kF := [0, 6, 7, 8, 9, 10, 44, 45, 47]) (kL := [5, 6]) (fr' := [(0, aI a0), (6, .one (.ptr 6 0)), (7, .one (.fn 46 [(5, 0)])), (8, aD (.slice (.pair tI (.pair tI tI))) a1), (9, aI (List.length a1 : Int)), (10, aI i265), (44, aB (decide (v268.1 > (1 : Int)))), (45, .one (.fn 46 [(5, 0)])), (47, aI v268.2.1)]) (L' := [(5, .cells [.dat tI i265]), (6, .one (.pair tI (.pair tI tI)) v268)]) (obs := [((decide (v268.1 > (1 : Int))) = true), ((decide (v268.1 > (1 : Int))) = true), ((decide (v268.1 > (1 : Int))) = true)]) rfl (by kernel_rfl) (allP2 h385 (allP2 h385 (allP1 h385))) ?_
                    obtain ⟨r386, h387, h⟩ := bind_of h
                    refine WO_lend [(1000, 5)] (us := [none, none]) (d := 48) (p := ((decide (v268.1 > (1 : Int))) = true)) (j := 8) rfl ⟨by kernel_rfl, by kernel_rfl, by kernel_rfl⟩ h385 (gate_Wrong_1_ok h387) (by kernel_rfl) (by kernel_rfl) ?_
                    refine WO_run (j := 11) (k := 3) (orcs := [(16, .known true), (19, .val (.dat .bool true))]) (kF := [0, 6, 7, 8, 9, 10, 40]) (kL := [5, 6]) (fr' := [(0, aI a0), (6, .one (.ptr 6 0)), (7, .one (.fn 46 [(5, 0)])), (8, aD (.slice (.pair tI (.pair tI tI))) a1), (9, aI (List.length a1 : Int)), (10, aI i265), (40, aB (!r386))]) (L' := [(5, .cells [.dat tI i265]), (6, .one (.pair tI (.pair tI tI)) v268)]) (obs := [((decide (v268.1 > (1 : Int))) = true), ((decide (v268.1 > (1 : Int))) = true)]) rfl (by kernel_rfl) (allP2 h385 (allP1 h385)) ?_
                    obtain rfl := Option.some.inj h
                    refine WO_fin [0, 6, 7, 8, 9, 10, 40] [5, 6] (fr' := [(0, aI a0), (6, .one (.ptr 6 0)), (7, .one (.fn 46 [(5, 0)])), (8, aD (.slice (.pair tI (.pair tI tI))) a1), (9, aI (List.length a1 : Int)), (10, aI i265), (40, aB (!r386))]) (L' := [(5, .cells [.dat tI i265]), (6, .one (.pair tI (.pair tI tI)) v268)]) (by kernel_rfl) (by kernel_rfl) ?_
                    exact exQ_mk (by kernel_rfl) (by kernel_rfl)
                  · replace h := ofF h385 h
                    refine WO_run (j := 11) (k := 7) (orcs := [(8, .known false), (10, .known false), (12, .known false), (14, .known false), (16, .known false), (19, .val (.dat .bool false))]) (kF := [0, 6, 7, 8, 9, 10, 40]) (kL := [5, 6]) (fr' := [(0, aI a0), (6, .one (.ptr 6 0)), (7, .one (.fn 46 [(5, 0)])), (8, aD (.slice (.pair tI (.pair tI tI))) a1), (9, aI (List.length a1 : Int)), (10, aI i265), (40, aB false)]) (L' := [(5, .cells [.dat tI i265]), (6, .one (.pair tI (.pair tI tI)) v268)]) (obs := [((decide (v268.1 > (1 : Int))) = false), ((decide (v268.1 > (1 : Int))) = false), ((decide (v268.1 > (1 : Int))) = false), ((decide (v268.1 > (1 : Int))) = false), ((decide (v268.1 > (1 : Int))) = false), ((decide (v268.1 > (1 : Int))) = false)]) rfl (by kernel_rfl) (allP2 h385 (allP2 h385 (allP2 h385 (allP2 h385 (allP2 h385 (allP1 h385)))))) ?_
                    obtain rfl := Option.some.inj h
                    refine WO_fin [0, 6, 7, 8, 9, 10, 40] [5, 6] (fr' := [(0, aI a0), (6, .one (.ptr 6 0)), (7, .one (.fn 46 [(5, 0)])), (8, aD (.slice (.pair tI (.pair tI tI))) a1), (9, aI (List.length a1 : Int)), (10, aI i265), (40, aB false)]) (L' := [(5, .cells [.dat tI i265]), (6, .one (.pair tI (.pair tI tI)) v268)]) (by kernel_rfl) (by kernel_rfl) ?_
                    exact exQ_mk (by kernel_rfl) (by kernel_rfl)
                · intro e fr L hJ
                  obtain ⟨rfl, rfl, rfl⟩ := hJ
                  refine LT_keep [0, 6, 7, 8, 9, 10, 40] [6, 5] (fr' := [(0, aI a0), (6, .one (.ptr 6 0)), (7, .one (.fn 46 [(5, 0)])), (8, aD (.slice (.pair tI (.pair tI tI))) a1), (9, aI (List.length a1 : Int)), (10, aI i265), (40, aB v388)]) (L' := [(6, .one (.pair tI (.pair tI tI)) v268), (5, .cells [.dat tI i265])]) (by kernel_rfl) ?_
                  refine seqQ_norm ?_
                  refine W_cond (o := .tmp 40) (b := v388) (by kernel_rfl) (by kernel_rfl) (fun h390 => ?_) (fun h390 => ?_)
                  · replace h := ofT h390 h
                    obtain rfl := Option.some.inj h
                    refine W_skip [0, 8, 9, 10, 40] [] (fr' := [(0, aI a0), (8, aD (.slice (.pair tI (.pair tI tI))) a1), (9, aI (List.length a1 : Int)), (10, aI i265), (40, aB v388)]) (L' := []) (by kernel_rfl) (by kernel_rfl) ?_
                    exact exQ_mk (by kernel_rfl) (by kernel_rfl)
                  · replace h := ofF h390 h
                    refine W_region (by kernel_rfl) ?_
                    refine WO_run (j := 4) (k := 4) (orcs := []) (kF := [0, 6, 7, 8, 9, 10, 40, 54]) (kL := [5, 6]) (fr' := [(0, aI a0), (6, .one (.ptr 6 0)), (7, .one (.fn 46 [(5, 0)])), (8, aD (.slice (.pair tI (.pair tI tI))) a1), (9, aI (List.length a1 : Int)), (10, aI i265), (40, aB v388), (54, aB (decide (v268.1 > (2 : Int))))]) (L' := [(5, .cells [.dat tI i265]), (6, .one (.pair tI (.pair tI tI)) v268)]) (obs := []) rfl (by kernel_rfl) allP0 ?_
                    rcases Bool.eq_false_or_eq_true (decide (v268.1 > (2 : Int))) with h391 | h391
                    · replace h := ofT h391 h
                      refine WO_run (j := 7) (k := 3) (orcs := [(8, .known true), (10, .known true), (12, .known true)]) (kF := [0, 8, 9, 10, 40, 54, 55, 57]) (kL := [5, 6]) (fr' := [(0, aI a0), (8, aD (.slice (.pair tI (.pair tI tI))) a1), (9, aI (List.length a1 : Int)), (10, aI i265), (40, aB v388), (54, aB (decide (v268.1 > (2 : Int)))), (55, .one (.fn 46 [(5, 0)])), (57, aI v268.2.2)]) (L' := [(5, .cells [.dat tI i265]), (6, .one (.pair tI (.pair tI tI)) v268)]) (obs := [((decide (v268.1 > (2 : Int))) = true), ((decide (v268.1 > (2 : Int))) = true), ((decide (v268.1 > (2 : Int))) = true)]) rfl (by kernel_rfl) (allP2 h391 (allP2 h391 (allP1 h391))) ?_
                      obtain ⟨r392, h393, h⟩ := bind_of h
                      refine WO_lend [(1000, 5)] (us := [none, none]) (d := 58) (p := ((decide (v268.1 > (2 : Int))) = true)) (j := 8) rfl ⟨by kernel_rfl, by kernel_rfl, by kernel_rfl⟩ h391 (gate_Wrong_1_ok h393) (by kernel_rfl) (by kernel_rfl) ?_
                      refine WO_run (j := 11) (k := 3) (orcs := [(16, .known true), (19, .val (.dat .bool true))]) (kF := [0, 8, 9, 10, 40]) (kL := [5, 6]) (fr' := [(0, aI a0), (8, aD (.slice (.pair tI (.pair tI tI))) a1), (9, aI (List.length a1 : Int)), (10, aI i265), (40, aB (!r392))]) (L' := [(5, .cells [.dat tI i265]), (6, .one (.pair tI (.pair tI tI)) v268)]) (obs := [((decide (v268.1 > (2 : Int))) = true), ((decide (v268.1 > (2 : Int))) = true)]) rfl (by kernel_rfl) (allP2 h391 (allP1 h391)) ?_
                      obtain rfl := Option.some.inj h
                      refine WO_fin [0, 8, 9, 10, 40] [] (fr' := [(0, aI a0), (8, aD (.slice (.pair tI (.pair tI tI))) a1), (9, aI (List.length a1 : Int)), (10, aI i265), (40, aB (!r392))]) (L' := []) (by kernel_rfl) (by kernel_rfl) ?_
                      exact exQ_mk (by kernel_rfl) (by kernel_rfl)
                    · replace h := ofF h391 h
                      refine WO_run (j := 11) (k := 7) (orcs := [(8, .known false), (10, .known false), (12, .known false), (14, .known false), (16, .known false), (19, .val (.dat .bool false))]) (kF := [0, 8, 9, 10, 40]) (kL := [5, 6]) (fr' := [(0, aI a0), (8, aD (.slice (.pair tI (.pair tI tI))) a1), (9, aI (List.length a1 : Int)), (10, aI i265), (40, aB false)]) (L' := [(5, .cells [.dat tI i265]), (6, .one (.pair tI (.pair tI tI)) v268)]) (obs := [((decide (v268.1 > (2 : Int))) = false), ((decide (v268.1 > (2 : Int))) = false), ((decide (v268.1 > (2 : Int))) = false), ((decide (v268.1 > (2 : Int))) = false), ((decide (v268.1 > (2 : Int))) = false), ((decide (v268.1 > (2 : Int))) = false)]) rfl (by kernel_rfl) (allP2 h391 (allP2 h391 (allP2 h391 (allP2 h391 (allP2 h391 (allP1 h391)))))) ?_
                      obtain rfl := Option.some.inj h
                      refine WO_fin [0, 8, 9, 10, 40] [] (fr' := [(0, aI a0), (8, aD (.slice (.pair tI (.pair tI tI))) a1), (9, aI (List.length a1 : Int)), (10, aI i265), (40, aB false)]) (L' := []) (by kernel_rfl) (by kernel_rfl) ?_
                      exact exQ_mk (by kernel_rfl) (by kernel_rfl)
              · intro e fr L hJ
                obtain ⟨rfl, rfl, rfl⟩ := hJ
                refine LT_keep [0, 8, 9, 10, 40] [] (fr' := [(0, aI a0), (8, aD (.slice (.pair tI (.pair tI tI))) a1), (9, aI (List.length a1 : Int)), (10, aI i265), (40, aB v394)]) (L' := []) (by kernel_rfl) ?_
                refine seqQ_norm ?_
                refine W_cond (o := .tmp 40) (b := v394) (by kernel_rfl) (by kernel_rfl) (fun h396 => ?_) (fun h396 => ?_)
                · replace h := ofT h396 h
                  refine W_seq (by kernel_rfl) ?_
                  refine W_run 1 [] [4] [] (fr' := [(4, aI (2 : Int))]) (L' := []) (obs := []) (by kernel_rfl) (by kernel_rfl) (by kernel_rfl) allP0 ?_
                  refine seqQ_norm ?_
                  obtain rfl := Option.some.inj h
                  refine W_ret [4] [] (fr' := [(4, aI (2 : Int))]) (L' := []) (by kernel_rfl) (by kernel_rfl) ?_
                  refine blockQ_ret ?_
                  refine blockQ_ret ?_
                  refine seqQ_ret ?_
                  refine round_ret ?_
                  refine escQ_ret ?_
                  exact exQ_mk (by kernel_rfl) (by kernel_rfl)
                · replace h := ofF h396 h
                  refine W_skip [0, 8, 9, 10] [] (fr' := [(0, aI a0), (8, aD (.slice (.pair tI (.pair tI tI))) a1), (9, aI (List.length a1 : Int)), (10, aI i265)]) (L' := []) (by kernel_rfl) (by kernel_rfl) ?_
                  refine blockQ_norm ?_
                  refine blockQ_norm ?_
                  refine seqQ_norm ?_
                  obtain rfl := Option.some.inj h
                  refine W_run 2 [] [0, 8, 9, 10] [] (fr' := [(0, aI a0), (8, aD (.slice (.pair tI (.pair tI tI))) a1), (9, aI (List.length a1 : Int)), (10, aI (w64 (i265 + (1 : Int))))]) (L' := []) (obs := []) (by kernel_rfl) (by kernel_rfl) (by kernel_rfl) allP0 ?_
                  exact round_next' (by kernel_rfl) (by kernel_rfl)
    · obtain rfl := stepL_false h270 h
      refine W_exit (id := 0) [] [] (fr' := []) (L' := []) (by kernel_rfl) (by kernel_rfl) ?_
      refine seqQ_exit ?_
      refine round_exit ?_
      refine escQ_brk ?_
      exact exQ_mk (by kernel_rfl) (by kernel_rfl)
  · intro e fr L hJ
    rcases v398 with v403 | v404
    · obtain ⟨rfl, rfl, rfl⟩ := hJ
      obtain rfl := Option.some.inj h
      refine LT_keep [4] [] (fr' := [(4, aI v403)]) (L' := []) (by kernel_rfl) ?_
      refine blockQ_ret ?_
      refine seqQ_ret ?_
      exact retQ_mk (by kernel_rfl) (by kernel_rfl) (by kernel_rfl)
    · obtain ⟨rfl, rfl, rfl⟩ := hJ
      refine LT_keep [] [] (fr' := []) (L' := []) (by kernel_rfl) ?_
      refine blockQ_hit ?_
      refine seqQ_norm ?_
      refine W_seq (by kernel_rfl) ?_
      refine W_run 1 [] [4] [] (fr' := [(4, aI (0 : Int))]) (L' := []) (obs := []) (by kernel_rfl) (by kernel_rfl) (by kernel_rfl) allP0 ?_
      refine seqQ_norm ?_
      obtain rfl := Option.some.inj h
      refine W_ret [4] [] (fr' := [(4, aI (0 : Int))]) (L' := []) (by kernel_rfl) (by kernel_rfl) ?_
      exact retQ_mk (by kernel_rfl) (by kernel_rfl) (by kernel_rfl)

def gate_Check (a0 : Int) (a1 : (List (Int × (Int × Int)))) : Option Int :=
bif (((decide (a0 < (0 : Int))) || (decide (a0 > (5 : Int)))) || (decide ((List.length a1 : Int) < (1 : Int)))) || (decide ((List.length a1 : Int) > (40 : Int))) then
(some (1 : Int))
else
((gate_Wrong a0 a1).bind fun r2 =>
some r2)
theorem gate_Check_ok {a0 : Int} {a1 : (List (Int × (Int × Int)))} {r : Int} (h : gate_Check a0 a1 = some r) : FnC Try.prog 29 [aI a0, aD (.slice (.pair tI (.pair tI tI))) a1] [] (aI r) [] := by
  refine fnC_of_W (B := bodyOf Try.f29) (n := 24) Try.func29 (by kernel_rfl) (by kernel_rfl) (by kernel_rfl) (by kernel_rfl) (by kernel_rfl) ?_
  intro K
  refine W_seq (by kernel_rfl) ?_
  refine W_run 1 [] [0, 1] [] (fr' := [(0, aI a0), (1, aD (.slice (.pair tI (.pair tI tI))) a1)]) (L' := []) (obs := []) (by kernel_rfl) (by kernel_rfl) (by kernel_rfl) allP0 ?_
  refine seqQ_norm ?_
  refine W_seq (by kernel_rfl) ?_
  refine W_seq (by kernel_rfl) ?_
  refine W_run 16 [] [0, 1, 20] [] (fr' := [(0, aI a0), (1, aD (.slice (.pair tI (.pair tI tI))) a1), (20, aB ((((decide (a0 < (0 : Int))) || (decide (a0 > (5 : Int)))) || (decide ((List.length a1 : Int) < (1 : Int)))) || (decide ((List.length a1 : Int) > (40 : Int)))))]) (L' := []) (obs := []) (by kernel_rfl) (by kernel_rfl) (by kernel_rfl) allP0 ?_
  refine seqQ_norm ?_
  refine W_cond (o := .tmp 20) (b := (((decide (a0 < (0 : Int))) || (decide (a0 > (5 : Int)))) || (decide ((List.length a1 : Int) < (1 : Int)))) || (decide ((List.length a1 : Int) > (40 : Int)))) (by kernel_rfl) (by kernel_rfl) (fun h1 => ?_) (fun h1 => ?_)
  · replace h := ofT h1 h
    refine W_seq (by kernel_rfl) ?_
    refine W_run 1 [] [4] [] (fr' := [(4, aI (1 : Int))]) (L' := []) (obs := []) (by kernel_rfl) (by kernel_rfl) (by kernel_rfl) allP0 ?_
    refine seqQ_norm ?_
    obtain rfl := Option.some.inj h
    refine W_ret [4] [] (fr' := [(4, aI (1 : Int))]) (L' := []) (by kernel_rfl) (by kernel_rfl) ?_
    refine seqQ_ret ?_
    exact retQ_mk (by kernel_rfl) (by kernel_rfl) (by kernel_rfl)
  · replace h := ofF h1 h
    refine W_skip [0, 1] [] (fr' := [(0, aI a0), (1, aD (.slice (.pair tI (.pair tI tI))) a1)]) (L' := []) (by kernel_rfl) (by kernel_rfl) ?_
    refine seqQ_norm ?_
    refine W_seq (by kernel_rfl) ?_
    refine W_region (by kernel_rfl) ?_
    refine WO_run (j := 2) (k := 2) (orcs := []) (kF := [21, 22]) (kL := []) (fr' := [(21, aI a0), (22, aD (.slice (.pair tI (.pair tI tI))) a1)]) (L' := []) (obs := []) rfl (by kernel_rfl) allP0 ?_
    obtain ⟨r2, h3, h⟩ := bind_of h
    refine WO_call0 (us := [none, none]) (d := 23) (p := True) (j := 3) rfl ⟨by kernel_rfl, by kernel_rfl, by kernel_rfl⟩ trivial (gate_Wrong_ok h3) (by kernel_rfl) ?_
    refine WO_run (j := 4) (k := 1) (orcs := []) (kF := [4]) (kL := []) (fr' := [(4, aI r2)]) (L' := []) (obs := []) rfl (by kernel_rfl) allP0 ?_
    refine WO_fin [4] [] (fr' := [(4, aI r2)]) (L' := []) (by kernel_rfl) (by kernel_rfl) ?_
    refine seqQ_norm ?_
    obtain rfl := Option.some.inj h
    refine W_ret [4] [] (fr' := [(4, aI r2)]) (L' := []) (by kernel_rfl) (by kernel_rfl) ?_
    exact retQ_mk (by kernel_rfl) (by kernel_rfl) (by kernel_rfl)

@[reducible] def gate_Deep_s7 (a1 : (List (Int × (Int × Int)))) (i70 : Int) (x71 : (List Int)) (v : Int) : Fr × LL := ([(1, aD (.slice (.pair tI (.pair tI tI))) a1), (7, .one (.slc 46)), (10, aI v), (17, aD (.slice (.pair tI (.pair tI tI))) a1), (18, aI (List.length a1 : Int)), (19, aI i70)], [(46, .seq tI x71)])
@[reducible] def gate_Deep_s8 (a1 : (List (Int × (Int × Int)))) (i70 : Int) (x71 : (List Int)) (v73 : (Int × (Int × Int))) (v : Int) : Fr × LL := ([(1, aD (.slice (.pair tI (.pair tI tI))) a1), (7, .one (.slc 46)), (9, .one (.ptr 9 0)), (10, aI v), (17, aD (.slice (.pair tI (.pair tI tI))) a1), (18, aI (List.length a1 : Int)), (19, aI i70)], [(46, .seq tI x71), (9, .one (.pair tI (.pair tI tI)) v73)])
def gate_Deep_b9 (i70 : Int) (v73 : (Int × (Int × Int))) (x71 : (List Int)) : Option (Flow (List Int) (List Int)) :=
(bif decide (v73.1 > (1 : Int)) then
((idx x71 v73.2.1).bind fun v106 =>
some (w64 (v106 + (1 : Int))))
else
(some (0 : Int))).bind fun v108 =>
(bif decide (v73.1 > (2 : Int)) then
((idx x71 v73.2.2).bind fun v117 =>
some (imax v108 (w64 (v117 + (1 : Int)))))
else
(some v108)).bind fun v119 =>
(ck ((List.length x71 : Int) + 1 ≤ 4294967296)).bind fun _ =>
some (.next (x71 ++ [v119]))
@[reducible] def gate_Deep_s10 (a1 : (List (Int × (Int × Int)))) (v : Int × (List Int)) : Fr × LL := ([(1, aD (.slice (.pair tI (.pair tI tI))) a1), (7, .one (.slc 46)), (17, aD (.slice (.pair tI (.pair tI tI))) a1), (18, aI (List.length a1 : Int)), (19, aI v.1)], [(46, .seq tI v.2)])
@[reducible] def gate_Deep_s11 (a1 : (List (Int × (Int × Int)))) (v : (List Int)) : Fr × LL := ([(1, aD (.slice (.pair tI (.pair tI tI))) a1), (7, .one (.slc 46))], [(46, .seq tI v)])
def gate_Deep (a0 : Int) (a1 : (List (Int × (Int × Int)))) : Option (Int × Int) :=
(gate_Check a0 a1).bind fun r1 =>
bif r1 != (0 : Int) then
(some ((0 : Int), r1))
else
((forL gate_Deep_b9 (fun x71 => x71) a1 0 []).bind fun v123 =>
(idx v123 (w64 ((List.length a1 : Int) - (1 : Int)))).bind fun v128 =>
some (v128, (0 : Int)))
theorem gate_Deep_ok {a0 : Int} {a1 : (List (Int × (Int × Int)))} {r : (Int × Int)} (h : gate_Deep a0 a1 = some r) : FnC Try.prog 37 [aI a0, aD (.slice (.pair tI (.pair tI tI))) a1] [] (.tup [.dat tI r.1, .dat tI r.2]) [] := by
  refine fnC_of_W (B := bodyOf Try.f37) (n := 54) Try.func37 (by kernel_rfl) (by kernel_rfl) (by kernel_rfl) (by kernel_rfl) (by kernel_rfl) ?_
  intro K
  refine W_seq (by kernel_rfl) ?_
  refine W_run 2 [] [0, 1] [] (fr' := [(0, aI a0), (1, aD (.slice (.pair tI (.pair tI tI))) a1)]) (L' := []) (obs := []) (by kernel_rfl) (by kernel_rfl) (by kernel_rfl) allP0 ?_
  refine seqQ_norm ?_
  refine W_seq (by kernel_rfl) ?_
  refine W_seq (by kernel_rfl) ?_
  refine W_region (by kernel_rfl) ?_
  refine WO_run (j := 2) (k := 2) (orcs := []) (kF := [1, 11, 12]) (kL := []) (fr' := [(1, aD (.slice (.pair tI (.pair tI tI))) a1), (11, aI a0), (12, aD (.slice (.pair tI (.pair tI tI))) a1)]) (L' := []) (obs := []) rfl (by kernel_rfl) allP0 ?_
  obtain ⟨r1, h2, h⟩ := bind_of h
  refine WO_call0 (us := [none, none]) (d := 13) (p := True) (j := 3) rfl ⟨by kernel_rfl, by kernel_rfl, by kernel_rfl⟩ trivial (gate_Check_ok h2) (by kernel_rfl) ?_
  refine WO_run (j := 4) (k := 1) (orcs := []) (kF := [1, 6]) (kL := []) (fr' := [(1, aD (.slice (.pair tI (.pair tI tI))) a1), (6, aI r1)]) (L' := []) (obs := []) rfl (by kernel_rfl) allP0 ?_
  refine WO_fin [1, 6] [] (fr' := [(1, aD (.slice (.pair tI (.pair tI tI))) a1), (6, aI r1)]) (L' := []) (by kernel_rfl) (by kernel_rfl) ?_
  refine seqQ_norm ?_
  refine W_seq (by kernel_rfl) ?_
  refine W_run 2 [] [1, 6, 15] [] (fr' := [(1, aD (.slice (.pair tI (.pair tI tI))) a1), (6, aI r1), (15, aB (r1 != (0 : Int)))]) (L' := []) (obs := []) (by kernel_rfl) (by kernel_rfl) (by kernel_rfl) allP0 ?_
  refine seqQ_norm ?_
  refine W_cond (o := .tmp 15) (b := r1 != (0 : Int)) (by kernel_rfl) (by kernel_rfl) (fun h3 => ?_) (fun h3 => ?_)
  · replace h := ofT h3 h
    refine W_seq (by kernel_rfl) ?_
    refine W_run 3 [] [4, 5] [] (fr' := [(4, aI (0 : Int)), (5, aI r1)]) (L' := []) (obs := []) (by kernel_rfl) (by kernel_rfl) (by kernel_rfl) allP0 ?_
    refine seqQ_norm ?_
    obtain rfl := Option.some.inj h
    refine W_ret [4, 5] [] (fr' := [(4, aI (0 : Int)), (5, aI r1)]) (L' := []) (by kernel_rfl) (by kernel_rfl) ?_
    refine seqQ_ret ?_
    exact retQ_mk (by kernel_rfl) (by kernel_rfl) (by kernel_rfl)
  · replace h := ofF h3 h
    refine W_skip [1] [] (fr' := [(1, aD (.slice (.pair tI (.pair tI tI))) a1)]) (L' := []) (by kernel_rfl) (by kernel_rfl) ?_
    refine seqQ_norm ?_
    refine W_seq (by kernel_rfl) ?_
    refine W_run 1 [] [1, 7] [] (fr' := [(1, aD (.slice (.pair tI (.pair tI tI))) a1), (7, .one (.nilS))]) (L' := []) (obs := []) (by kernel_rfl) (by kernel_rfl) (by kernel_rfl) allP0 ?_
    refine seqQ_norm ?_
    refine W_seq (by kernel_rfl) ?_
    refine W_seq (by kernel_rfl) ?_
    refine W_run 3 [] [1, 7, 17, 18, 19] [] (fr' := [(1, aD (.slice (.pair tI (.pair tI tI))) a1), (7, .one (.nilS)), (17, aD (.slice (.pair tI (.pair tI tI))) a1), (18, aI (List.length a1 : Int)), (19, aI (0 : Int))]) (L' := []) (obs := []) (by kernel_rfl) (by kernel_rfl) (by kernel_rfl) allP0 ?_
    refine seqQ_norm ?_
    refine W_block (id := 0) (by kernel_rfl) ?_
    obtain ⟨v123, h124, h⟩ := bind_of h
    refine W_len (t := 17) (u := (.pair tI (.pair tI tI))) (xs := a1) (by kernel_rfl) (fun h127 => ?_)
    obtain ⟨h125, h126⟩ := forL_iter h127 h124
    refine W_mine 7 46 tI (by kernel_rfl) ?_
    refine W_weaken [1, 7, 17, 18, 19] [46] (fr' := ((gate_Deep_s10 a1) ((0 : Int), [])).1) (L' := ((gate_Deep_s10 a1) ((0 : Int), [])).2) (by kernel_rfl) ?_
    refine W_cutK (W_loop (S := (gate_Deep_s10 a1)) (J := (exQ (.exit 0) (gate_Deep_s11 a1))) (by kernel_rfl) ?_ h125 _ v123 h126) ?_
    · rintro ⟨i70, x71⟩ s h
      refine W_seq (by kernel_rfl) ?_
      refine W_run 1 [] [1, 7, 17, 18, 19, 20] [46] (fr' := [(1, aD (.slice (.pair tI (.pair tI tI))) a1), (7, .one (.slc 46)), (17, aD (.slice (.pair tI (.pair tI tI))) a1), (18, aI (List.length a1 : Int)), (19, aI i70), (20, aB (decide (i70 < (List.length a1 : Int))))]) (L' := [(46, .seq tI x71)]) (obs := []) (by kernel_rfl) (by kernel_rfl) (by kernel_rfl) allP0 ?_
      refine seqQ_norm ?_
      refine W_seq (by kernel_rfl) ?_
      refine W_cond (o := .tmp 20) (b := decide (i70 < (List.length a1 : Int))) (by kernel_rfl) (by kernel_rfl) (fun h75 => ?_) (fun h75 => ?_)
      · replace h := stepL_true h75 h
        obtain ⟨v73, _, h74, h, rfl⟩ := h
        refine W_skip [1, 7, 17, 18, 19] [46] (fr' := [(1, aD (.slice (.pair tI (.pair tI tI))) a1), (7, .one (.slc 46)), (17, aD (.slice (.pair tI (.pair tI tI))) a1), (18, aI (List.length a1 : Int)), (19, aI i70)]) (L' := [(46, .seq tI x71)]) (by kernel_rfl) (by kernel_rfl) ?_
        refine seqQ_norm ?_
        refine W_seq (by kernel_rfl) ?_
        refine W_block (id := 1) (by kernel_rfl) ?_
        refine W_seq (by kernel_rfl) ?_
        refine W_run 4 [(1, .val (.dat (.pair tI (.pair tI tI)) v73)), (5, .typed)] [1, 7, 9, 17, 18, 19] [46, 9] (fr' := [(1, aD (.slice (.pair tI (.pair tI tI))) a1), (7, .one (.slc 46)), (9, .one (.ptr 9 0)), (17, aD (.slice (.pair tI (.pair tI tI))) a1), (18, aI (List.length a1 : Int)), (19, aI i70)]) (L' := [(46, .seq tI x71), (9, .one (.pair tI (.pair tI tI)) v73)]) (obs := [Idx a1 i70 v73, True]) (by kernel_rfl) (by kernel_rfl) (by kernel_rfl) (allP2 (Idx.of h74) (allP1 trivial)) ?_
        refine seqQ_norm ?_
        refine W_seq (by kernel_rfl) ?_
        refine W_run 1 [] [1, 7, 9, 10, 17, 18, 19] [46, 9] (fr' := [(1, aD (.slice (.pair tI (.pair tI tI))) a1), (7, .one (.slc 46)), (9, .one (.ptr 9 0)), (10, aI (0 : Int)), (17, aD (.slice (.pair tI (.pair tI tI))) a1), (18, aI (List.length a1 : Int)), (19, aI i70)]) (L' := [(46, .seq tI x71), (9, .one (.pair tI (.pair tI tI)) v73)]) (obs := []) (by kernel_rfl) (by kernel_rfl) (by kernel_rfl) allP0 ?_
        refine seqQ_norm ?_
        refine W_seq (by kernel_rfl) ?_
        obtain ⟨v108, h109, h⟩ := bind_of h
        refine W_cutK (Q' := (exQ .normal (gate_Deep_s8 a1 i70 x71 v73)) v108) ?_ ?_
        · replace h := h109
          refine W_seq (by kernel_rfl) ?_
          refine W_run 3 [] [1, 7, 9, 10, 17, 18, 19, 25] [46, 9] (fr' := [(1, aD (.slice (.pair tI (.pair tI tI))) a1), (7, .one (.slc 46)), (9, .one (.ptr 9 0)), (10, aI (0 : Int)), (17, aD (.slice (.pair tI (.pair tI tI))) a1), (18, aI (List.length a1 : Int)), (19, aI i70), (25, aB (decide (v73.1 > (1 : Int))))]) (L' := [(46, .seq tI x71), (9, .one (.pair tI (.pair tI tI)) v73)]) (obs := []) (by kernel_rfl) (by kernel_rfl) (by kernel_rfl) allP0 ?_
          refine seqQ_norm ?_
          refine W_cond (o := .tmp 25) (b := decide (v73.1 > (1 : Int))) (by kernel_rfl) (by kernel_rfl) (fun h105 => ?_) (fun h105 => ?_)
          · replace h := ofT h105 h
            obtain ⟨v106, h107, h⟩ := bind_of h
            obtain rfl := Option.some.inj h
            refine W_run 7 [(9, .val (.dat tI v106))] [1, 7, 9, 10, 17, 18, 19] [46, 9] (fr' := [(1, aD (.slice (.pair tI (.pair tI tI))) a1), (7, .one (.slc 46)), (9, .one (.ptr 9 0)), (10, aI (w64 (v106 + (1 : Int)))), (17, aD (.slice (.pair tI (.pair tI tI))) a1), (18, aI (List.length a1 : Int)), (19, aI i70)]) (L' := [(46, .seq tI x71), (9, .one (.pair tI (.pair tI tI)) v73)]) (obs := [InR v73.2.1 (List.length x71), Idx x71 v73.2.1 v106]) (by kernel_rfl) (by kernel_rfl) (by kernel_rfl) (allP2 (InR.of h107) (allP1 (Idx.of h107))) ?_
            exact exQ_mk (by kernel_rfl) (by kernel_rfl)
          · replace h := ofF h105 h
            obtain rfl := Option.some.inj h
            refine W_skip [1, 7, 9, 10, 17, 18, 19] [46, 9] (fr' := [(1, aD (.slice (.pair tI (.pair tI tI))) a1), (7, .one (.slc 46)), (9, .one (.ptr 9 0)), (10, aI (0 : Int)), (17, aD (.slice (.pair tI (.pair tI tI))) a1), (18, aI (List.length a1 : Int)), (19, aI i70)]) (L' := [(46, .seq tI x71), (9, .one (.pair tI (.pair tI tI)) v73)]) (by kernel_rfl) (by kernel_rfl) ?_
            exact exQ_mk (by kernel_rfl) (by kernel_rfl)
        · intro e fr L hJ
          obtain ⟨rfl, rfl, rfl⟩ := hJ
          refine LT_keep [1, 7, 9, 10, 17, 18, 19] [46, 9] (fr' := [(1, aD (.slice (.pair tI (.pair tI tI))) a1), (7, .one (.slc 46)), (9, .one (.ptr 9 0)), (10, aI v108), (17, aD (.slice (.pair tI (.pair tI tI))) a1), (18, aI (List.length a1 : Int)), (19, aI i70)]) (L' := [(46, .seq tI x71), (9, .one (.pair tI (.pair tI tI)) v73)]) (by kernel_rfl) ?_
          refine seqQ_norm ?_
          refine W_seq (by kernel_rfl) ?_
          obtain ⟨v119, h120, h⟩ := bind_of h
          refine W_cutK (Q' := (exQ .normal (gate_Deep_s7 a1 i70 x71)) v119) ?_ ?_
          · replace h := h120
            refine W_seq (by kernel_rfl) ?_
            refine W_run 3 [] [1, 7, 9, 10, 17, 18, 19, 34] [46, 9] (fr' := [(1, aD (.slice (.pair tI (.pair tI tI))) a1), (7, .one (.slc 46)), (9, .one (.ptr 9 0)), (10, aI v108), (17, aD (.slice (.pair tI (.pair tI tI))) a1), (18, aI (List.length a1 : Int)), (19, aI i70), (34, aB (decide (v73.1 > (2 : Int))))]) (L' := [(46, .seq tI x71), (9, .one (.pair tI (.pair tI tI)) v73)]) (obs := []) (by kernel_rfl) (by kernel_rfl) (by kernel_rfl) allP0 ?_
            refine seqQ_norm ?_
            refine W_cond (o := .tmp 34) (b := decide (v73.1 > (2 : Int))) (by kernel_rfl) (by kernel_rfl) (fun h116 => ?_) (fun h116 => ?_)
            · replace h := ofT h116 h
              obtain ⟨v117, h118, h⟩ := bind_of h
              obtain rfl := Option.some.inj h
              refine W_run 9 [(11, .val (.dat tI v117))] [1, 7, 10, 17, 18, 19] [46] (fr' := [(1, aD (.slice (.pair tI (.pair tI tI))) a1), (7, .one (.slc 46)), (10, aI (imax v108 (w64 (v117 + (1 : Int))))), (17, aD (.slice (.pair tI (.pair tI tI))) a1), (18, aI (List.length a1 : Int)), (19, aI i70)]) (L' := [(46, .seq tI x71)]) (obs := [InR v73.2.2 (List.length x71), Idx x71 v73.2.2 v117]) (by kernel_rfl) (by kernel_rfl) (by kernel_rfl) (allP2 (InR.of h118) (allP1 (Idx.of h118))) ?_
              exact exQ_mk (by kernel_rfl) (by kernel_rfl)
            · replace h := ofF h116 h
              obtain rfl := Option.some.inj h
              refine W_skip [1, 7, 10, 17, 18, 19] [46] (fr' := [(1, aD (.slice (.pair tI (.pair tI tI))) a1), (7, .one (.slc 46)), (10, aI v108), (17, aD (.slice (.pair tI (.pair tI tI))) a1), (18, aI (List.length a1 : Int)), (19, aI i70)]) (L' := [(46, .seq tI x71)]) (by kernel_rfl) (by kernel_rfl) ?_
              exact exQ_mk (by kernel_rfl) (by kernel_rfl)
          · intro e fr L hJ
            obtain ⟨rfl, rfl, rfl⟩ := hJ
            refine LT_keep [1, 7, 10, 17, 18, 19] [46] (fr' := [(1, aD (.slice (.pair tI (.pair tI tI))) a1), (7, .one (.slc 46)), (10, aI v119), (17, aD (.slice (.pair tI (.pair tI tI))) a1), (18, aI (List.length a1 : Int)), (19, aI i70)]) (L' := [(46, .seq tI x71)]) (by kernel_rfl) ?_
            refine seqQ_norm ?_
            obtain ⟨_, h121, h⟩ := bind_of h
            replace h121 := ck_some h121
            refine W_run 5 [] [1, 7, 17, 18, 19] [46] (fr' := [(1, aD (.slice (.pair tI (.pair tI tI))) a1), (7, .one (.slc 46)), (17, aD (.slice (.pair tI (.pair tI tI))) a1), (18, aI (List.length a1 : Int)), (19, aI i70)]) (L' := [(46, .seq tI (x71 ++ [v119]))]) (obs := [SmallLen (List.length x71 + List.length [v119])]) (by kernel_rfl) (by kernel_rfl) (by kernel_rfl) (allP1 h121) ?_
            refine blockQ_norm ?_
            refine seqQ_norm ?_
            obtain rfl := Option.some.inj h
            refine W_run 2 [] [1, 7, 17, 18, 19] [46] (fr' := [(1, aD (.slice (.pair tI (.pair tI tI))) a1), (7, .one (.slc 46)), (17, aD (.slice (.pair tI (.pair tI tI))) a1), (18, aI (List.length a1 : Int)), (19, aI (w64 (i70 + (1 : Int))))]) (L' := [(46, .seq tI (x71 ++ [v119]))]) (obs := []) (by kernel_rfl) (by kernel_rfl) (by kernel_rfl) allP0 ?_
            exact round_next' (by kernel_rfl) (by kernel_rfl)
      · obtain rfl := stepL_false h75 h
        refine W_exit (id := 0) [1, 7] [46] (fr' := [(1, aD (.slice (.pair tI (.pair tI tI))) a1), (7, .one (.slc 46))]) (L' := [(46, .seq tI x71)]) (by kernel_rfl) (by kernel_rfl) ?_
        refine seqQ_exit ?_
        refine round_exit ?_
        exact exQ_mk (by kernel_rfl) (by kernel_rfl)
    · intro e fr L hJ
      obtain ⟨rfl, rfl, rfl⟩ := hJ
      refine LT_keep [1, 7] [46] (fr' := [(1, aD (.slice (.pair tI (.pair tI tI))) a1), (7, .one (.slc 46))]) (L' := [(46, .seq tI v123)]) (by kernel_rfl) ?_
      refine blockQ_hit ?_
      refine seqQ_norm ?_
      refine W_seq (by kernel_rfl) ?_
      obtain ⟨v128, h129, h⟩ := bind_of h
      refine W_run 8 [(11, .val (.dat tI v128))] [4, 5] [] (fr' := [(4, aI v128), (5, aI (0 : Int))]) (L' := []) (obs := [InR (w64 ((List.length a1 : Int) - (1 : Int))) (List.length v123), Idx v123 (w64 ((List.length a1 : Int) - (1 : Int))) v128]) (by kernel_rfl) (by kernel_rfl) (by kernel_rfl) (allP2 (InR.of h129) (allP1 (Idx.of h129))) ?_
      refine seqQ_norm ?_
      obtain rfl := Option.some.inj h
      refine W_ret [4, 5] [] (fr' := [(4, aI v128), (5, aI (0 : Int))]) (L' := []) (by kernel_rfl) (by kernel_rfl) ?_
      exact retQ_mk (by kernel_rfl) (by kernel_rfl) (by kernel_rfl)

def wide_back_b1 (a0 : (List Int)) (i15 : Int) (x16 : (List Int)) : Option (Flow (List Int) (List Int)) :=
(idx a0 i15).bind fun v19 =>
(ck (0 ≤ v19 ∧ v19 < 5)).bind fun _ =>
(idx x16 v19).bind fun v22 =>
some (.next (List.set x16 (Int.toNat v19) i15))
@[reducible] def wide_back_s2 (a0 : (List Int)) (v : Int × (List Int)) : Fr × LL := ([(2, .one (.ptr 2 0)), (3, .one (.ptr 3 0)), (6, aD (.arr 5 tI) a0), (7, aI v.1)], [(2, .one (.arr 5 tI) [(0 : Int), (0 : Int), (0 : Int), (0 : Int), (0 : Int)]), (3, .one (.arr 5 tI) v.2)])
@[reducible] def wide_back_s3 (v : (List Int)) : Fr × LL := ([(2, .one (.ptr 2 0)), (3, .one (.ptr 3 0))], [(2, .one (.arr 5 tI) [(0 : Int), (0 : Int), (0 : Int), (0 : Int), (0 : Int)]), (3, .one (.arr 5 tI) v)])
def wide_back (a0 : (List Int)) : Option (List Int) :=
(forI (0 : Int) (5 : Int) (wide_back_b1 a0) (fun x16 => x16) [(0 : Int), (0 : Int), (0 : Int), (0 : Int), (0 : Int)]).bind fun v25 =>
some v25
theorem wide_back_ok {a0 : (List Int)} {r : (List Int)} (h : wide_back a0 = some r) : FnC Try.prog 44 [aD (.arr 5 tI) a0] [] (aD (.arr 5 tI) r) [] := by
  refine fnC_of_W (B := bodyOf Try.f44) (n := 16) Try.func44 (by kernel_rfl) (by kernel_rfl) (by kernel_rfl) (by kernel_rfl) (by kernel_rfl) ?_
  intro K
  refine W_seq (by kernel_rfl) ?_
  refine W_run 2 [(3, .typed)] [1, 2] [1, 2] (fr' := [(1, .one (.ptr 1 0)), (2, .one (.ptr 2 0))]) (L' := [(1, .one (.arr 5 tI) a0), (2, .one (.arr 5 tI) [(0 : Int), (0 : Int), (0 : Int), (0 : Int), (0 : Int)])]) (obs := []) (by kernel_rfl) (by kernel_rfl) (by kernel_rfl) allP0 ?_
  refine seqQ_norm ?_
  refine W_seq (by kernel_rfl) ?_
  refine W_run 1 [(1, .typed)] [1, 2, 3] [1, 2, 3] (fr' := [(1, .one (.ptr 1 0)), (2, .one (.ptr 2 0)), (3, .one (.ptr 3 0))]) (L' := [(1, .one (.arr 5 tI) a0), (2, .one (.arr 5 tI) [(0 : Int), (0 : Int), (0 : Int), (0 : Int), (0 : Int)]), (3, .one (.arr 5 tI) [(0 : Int), (0 : Int), (0 : Int), (0 : Int), (0 : Int)])]) (obs := []) (by kernel_rfl) (by kernel_rfl) (by kernel_rfl) allP0 ?_
  refine seqQ_norm ?_
  refine W_seq (by kernel_rfl) ?_
  refine W_seq (by kernel_rfl) ?_
  refine W_run 2 [] [2, 3, 6, 7] [2, 3] (fr' := [(2, .one (.ptr 2 0)), (3, .one (.ptr 3 0)), (6, aD (.arr 5 tI) a0), (7, aI (0 : Int))]) (L' := [(2, .one (.arr 5 tI) [(0 : Int), (0 : Int), (0 : Int), (0 : Int), (0 : Int)]), (3, .one (.arr 5 tI) [(0 : Int), (0 : Int), (0 : Int), (0 : Int), (0 : Int)])]) (obs := []) (by kernel_rfl) (by kernel_rfl) (by kernel_rfl) allP0 ?_
  refine seqQ_norm ?_
  refine W_block (id := 0) (by kernel_rfl) ?_
  obtain ⟨v25, h26, h⟩ := bind_of h
  obtain ⟨h27, h28⟩ := forI_iter h26
  refine W_weaken [2, 3, 6, 7] [2, 3] (fr' := ((wide_back_s2 a0) ((0 : Int), [(0 : Int), (0 : Int), (0 : Int), (0 : Int), (0 : Int)])).1) (L' := ((wide_back_s2 a0) ((0 : Int), [(0 : Int), (0 : Int), (0 : Int), (0 : Int), (0 : Int)])).2) (by kernel_rfl) ?_
  refine W_cutK (W_loop (S := (wide_back_s2 a0)) (J := (exQ (.exit 0) wide_back_s3)) (by kernel_rfl) ?_ h27 _ v25 h28) ?_
  · rintro ⟨i15, x16⟩ s h
    refine W_seq (by kernel_rfl) ?_
    refine W_run 1 [] [2, 3, 6, 7, 8] [2, 3] (fr' := [(2, .one (.ptr 2 0)), (3, .one (.ptr 3 0)), (6, aD (.arr 5 tI) a0), (7, aI i15), (8, aB (decide (i15 < (5 : Int))))]) (L' := [(2, .one (.arr 5 tI) [(0 : Int), (0 : Int), (0 : Int), (0 : Int), (0 : Int)]), (3, .one (.arr 5 tI) x16)]) (obs := []) (by kernel_rfl) (by kernel_rfl) (by kernel_rfl) allP0 ?_
    refine seqQ_norm ?_
    refine W_seq (by kernel_rfl) ?_
    refine W_cond (o := .tmp 8) (b := decide (i15 < (5 : Int))) (by kernel_rfl) (by kernel_rfl) (fun h18 => ?_) (fun h18 => ?_)
    · replace h := stepI_true h18 h
      obtain ⟨_, h, rfl⟩ := h
      refine W_skip [2, 3, 6, 7] [2, 3] (fr' := [(2, .one (.ptr 2 0)), (3, .one (.ptr 3 0)), (6, aD (.arr 5 tI) a0), (7, aI i15)]) (L' := [(2, .one (.arr 5 tI) [(0 : Int), (0 : Int), (0 : Int), (0 : Int), (0 : Int)]), (3, .one (.arr 5 tI) x16)]) (by kernel_rfl) (by kernel_rfl) ?_
      refine seqQ_norm ?_
      refine W_seq (by kernel_rfl) ?_
      refine W_block (id := 1) (by kernel_rfl) ?_
      refine W_seq (by kernel_rfl) ?_
      obtain ⟨v19, h20, h⟩ := bind_of h
      refine W_run 4 [(3, .val (.dat tI v19))] [2, 3, 4, 5, 6, 7] [2, 3] (fr' := [(2, .one (.ptr 2 0)), (3, .one (.ptr 3 0)), (4, aI i15), (5, aI v19), (6, aD (.arr 5 tI) a0), (7, aI i15)]) (L' := [(2, .one (.arr 5 tI) [(0 : Int), (0 : Int), (0 : Int), (0 : Int), (0 : Int)]), (3, .one (.arr 5 tI) x16)]) (obs := [Idx a0 i15 v19]) (by kernel_rfl) (by kernel_rfl) (by kernel_rfl) (allP1 (Idx.of h20)) ?_
      refine seqQ_norm ?_
      obtain ⟨_, h21, h⟩ := bind_of h
      replace h21 := ck_some h21
      obtain ⟨v22, h23, h⟩ := bind_of h
      refine W_run 4 [] [2, 3, 6, 7] [2, 3] (fr' := [(2, .one (.ptr 2 0)), (3, .one (.ptr 3 0)), (6, aD (.arr 5 tI) a0), (7, aI i15)]) (L' := [(2, .one (.arr 5 tI) [(0 : Int), (0 : Int), (0 : Int), (0 : Int), (0 : Int)]), (3, .one (.arr 5 tI) (List.set x16 (Int.toNat v19) i15))]) (obs := [InR v19 5, InR v19 (List.length x16)]) (by kernel_rfl) (by kernel_rfl) (by kernel_rfl) (allP2 h21 (allP1 (InR.of h23))) ?_
      refine blockQ_norm ?_
      refine seqQ_norm ?_
      obtain rfl := Option.some.inj h
      refine W_run 2 [] [2, 3, 6, 7] [2, 3] (fr' := [(2, .one (.ptr 2 0)), (3, .one (.ptr 3 0)), (6, aD (.arr 5 tI) a0), (7, aI (w64 (i15 + (1 : Int))))]) (L' := [(2, .one (.arr 5 tI) [(0 : Int), (0 : Int), (0 : Int), (0 : Int), (0 : Int)]), (3, .one (.arr 5 tI) (List.set x16 (Int.toNat v19) i15))]) (obs := []) (by kernel_rfl) (by kernel_rfl) (by kernel_rfl) allP0 ?_
      exact round_next' (by kernel_rfl) (by kernel_rfl)
    · obtain rfl := stepI_false h18 h
      refine W_exit (id := 0) [2, 3] [2, 3] (fr' := [(2, .one (.ptr 2 0)), (3, .one (.ptr 3 0))]) (L' := [(2, .one (.arr 5 tI) [(0 : Int), (0 : Int), (0 : Int), (0 : Int), (0 : Int)]), (3, .one (.arr 5 tI) x16)]) (by kernel_rfl) (by kernel_rfl) ?_
      refine seqQ_exit ?_
      refine round_exit ?_
      exact exQ_mk (by kernel_rfl) (by kernel_rfl)
  · intro e fr L hJ
    obtain ⟨rfl, rfl, rfl⟩ := hJ
    refine LT_keep [2, 3] [2, 3] (fr' := [(2, .one (.ptr 2 0)), (3, .one (.ptr 3 0))]) (L' := [(2, .one (.arr 5 tI) [(0 : Int), (0 : Int), (0 : Int), (0 : Int), (0 : Int)]), (3, .one (.arr 5 tI) v25)]) (by kernel_rfl) ?_
    refine blockQ_hit ?_
    refine seqQ_norm ?_
    refine W_seq (by kernel_rfl) ?_
    refine W_run 2 [] [2] [2] (fr' := [(2, .one (.ptr 2 0))]) (L' := [(2, .one (.arr 5 tI) v25)]) (obs := [True]) (by kernel_rfl) (by kernel_rfl) (by kernel_rfl) (allP1 trivial) ?_
    refine seqQ_norm ?_
    obtain rfl := Option.some.inj h
    refine W_ret [2] [2] (fr' := [(2, .one (.ptr 2 0))]) (L' := [(2, .one (.arr 5 tI) v25)]) (by kernel_rfl) (by kernel_rfl) ?_
    exact retQ_mk (by kernel_rfl) (by kernel_rfl) (by kernel_rfl)

def wide_then_b1 (a0 : (List Int)) (a1 : (List Int)) (i18 : Int) (x19 : (List Int)) : Option (Flow (List Int) (List Int)) :=
(idx a0 i18).bind fun v22 =>
(ck (0 ≤ v22 ∧ v22 < 5)).bind fun _ =>
(idx a1 v22).bind fun v25 =>
(ck (0 ≤ i18 ∧ i18 < 5)).bind fun _ =>
(idx x19 i18).bind fun v28 =>
some (.next (List.set x19 (Int.toNat i18) v25))
@[reducible] def wide_then_s2 (a0 : (List Int)) (a1 : (List Int)) (v : Int × (List Int)) : Fr × LL := ([(3, .one (.ptr 3 0)), (4, .one (.ptr 4 0)), (5, .one (.ptr 5 0)), (8, aD (.arr 5 tI) a0), (9, aI v.1)], [(3, .one (.arr 5 tI) a1), (4, .one (.arr 5 tI) [(0 : Int), (0 : Int), (0 : Int), (0 : Int), (0 : Int)]), (5, .one (.arr 5 tI) v.2)])
@[reducible] def wide_then_s3 (v : (List Int)) : Fr × LL := ([(4, .one (.ptr 4 0)), (5, .one (.ptr 5 0))], [(4, .one (.arr 5 tI) [(0 : Int), (0 : Int), (0 : Int), (0 : Int), (0 : Int)]), (5, .one (.arr 5 tI) v)])
def wide_then (a0 : (List Int)) (a1 : (List Int)) : Option (List Int) :=
(forI (0 : Int) (5 : Int) (wide_then_b1 a0 a1) (fun x19 => x19) [(0 : Int), (0 : Int), (0 : Int), (0 : Int), (0 : Int)]).bind fun v31 =>
some v31
theorem wide_then_ok {a0 : (List Int)} {a1 : (List Int)} {r : (List Int)} (h : wide_then a0 a1 = some r) : FnC Try.prog 35 [aD (.arr 5 tI) a0, aD (.arr 5 tI) a1] [] (aD (.arr 5 tI) r) [] := by
  refine fnC_of_W (B := bodyOf Try.f35) (n := 20) Try.func35 (by kernel_rfl) (by kernel_rfl) (by kernel_rfl) (by kernel_rfl) (by kernel_rfl) ?_
  intro K
  refine W_seq (by kernel_rfl) ?_
  refine W_run 3 [(5, .typed)] [2, 3, 4] [2, 3, 4] (fr' := [(2, .one (.ptr 2 0)), (3, .one (.ptr 3 0)), (4, .one (.ptr 4 0))]) (L' := [(2, .one (.arr 5 tI) a0), (3, .one (.arr 5 tI) a1), (4, .one (.arr 5 tI) [(0 : Int), (0 : Int), (0 : Int), (0 : Int), (0 : Int)])]) (obs := []) (by kernel_rfl) (by kernel_rfl) (by kernel_rfl) allP0 ?_
  refine seqQ_norm ?_
  refine W_seq (by kernel_rfl) ?_
  refine W_run 1 [(1, .typed)] [2, 3, 4, 5] [2, 3, 4, 5] (fr' := [(2, .one (.ptr 2 0)), (3, .one (.ptr 3 0)), (4, .one (.ptr 4 0)), (5, .one (.ptr 5 0))]) (L' := [(2, .one (.arr 5 tI) a0), (3, .one (.arr 5 tI) a1), (4, .one (.arr 5 tI) [(0 : Int), (0 : Int), (0 : Int), (0 : Int), (0 : Int)]), (5, .one (.arr 5 tI) [(0 : Int), (0 : Int), (0 : Int), (0 : Int), (0 : Int)])]) (obs := []) (by kernel_rfl) (by kernel_rfl) (by kernel_rfl) allP0 ?_
  refine seqQ_norm ?_
  refine W_seq (by kernel_rfl) ?_
  refine W_seq (by kernel_rfl) ?_
  refine W_run 2 [] [3, 4, 5, 8, 9] [3, 4, 5] (fr' := [(3, .one (.ptr 3 0)), (4, .one (.ptr 4 0)), (5, .one (.ptr 5 0)), (8, aD (.arr 5 tI) a0), (9, aI (0 : Int))]) (L' := [(3, .one (.arr 5 tI) a1), (4, .one (.arr 5 tI) [(0 : Int), (0 : Int), (0 : Int), (0 : Int), (0 : Int)]), (5, .one (.arr 5 tI) [(0 : Int), (0 : Int), (0 : Int), (0 : Int), (0 : Int)])]) (obs := []) (by kernel_rfl) (by kernel_rfl) (by kernel_rfl) allP0 ?_
  refine seqQ_norm ?_
  refine W_block (id := 0) (by kernel_rfl) ?_
  obtain ⟨v31, h32, h⟩ := bind_of h
  obtain ⟨h33, h34⟩ := forI_iter h32
  refine W_weaken [3, 4, 5, 8, 9] [3, 4, 5] (fr' := ((wide_then_s2 a0 a1) ((0 : Int), [(0 : Int), (0 : Int), (0 : Int), (0 : Int), (0 : Int)])).1) (L' := ((wide_then_s2 a0 a1) ((0 : Int), [(0 : Int), (0 : Int), (0 : Int), (0 : Int), (0 : Int)])).2) (by kernel_rfl) ?_
  refine W_cutK (W_loop (S := (wide_then_s2 a0 a1)) (J := (exQ (.exit 0) wide_then_s3)) (by kernel_rfl) ?_ h33 _ v31 h34) ?_
  · rintro ⟨i18, x19⟩ s h
    refine W_seq (by kernel_rfl) ?_
    refine W_run 1 [] [3, 4, 5, 8, 9, 10] [3, 4, 5] (fr' := [(3, .one (.ptr 3 0)), (4, .one (.ptr 4 0)), (5, .one (.ptr 5 0)), (8, aD (.arr 5 tI) a0), (9, aI i18), (10, aB (decide (i18 < (5 : Int))))]) (L' := [(3, .one (.arr 5 tI) a1), (4, .one (.arr 5 tI) [(0 : Int), (0 : Int), (0 : Int), (0 : Int), (0 : Int)]), (5, .one (.arr 5 tI) x19)]) (obs := []) (by kernel_rfl) (by kernel_rfl) (by kernel_rfl) allP0 ?_
    refine seqQ_norm ?_
    refine W_seq (by kernel_rfl) ?_
    refine W_cond (o := .tmp 10) (b := decide (i18 < (5 : Int))) (by kernel_rfl) (by kernel_rfl) (fun h21 => ?_) (fun h21 => ?_)
    · replace h := stepI_true h21 h
      obtain ⟨_, h, rfl⟩ := h
      refine W_skip [3, 4, 5, 8, 9] [3, 4, 5] (fr' := [(3, .one (.ptr 3 0)), (4, .one (.ptr 4 0)), (5, .one (.ptr 5 0)), (8, aD (.arr 5 tI) a0), (9, aI i18)]) (L' := [(3, .one (.arr 5 tI) a1), (4, .one (.arr 5 tI) [(0 : Int), (0 : Int), (0 : Int), (0 : Int), (0 : Int)]), (5, .one (.arr 5 tI) x19)]) (by kernel_rfl) (by kernel_rfl) ?_
      refine seqQ_norm ?_
      refine W_seq (by kernel_rfl) ?_
      refine W_block (id := 1) (by kernel_rfl) ?_
      refine W_seq (by kernel_rfl) ?_
      obtain ⟨v22, h23, h⟩ := bind_of h
      refine W_run 4 [(3, .val (.dat tI v22))] [3, 4, 5, 6, 7, 8, 9] [3, 4, 5] (fr' := [(3, .one (.ptr 3 0)), (4, .one (.ptr 4 0)), (5, .one (.ptr 5 0)), (6, aI i18), (7, aI v22), (8, aD (.arr 5 tI) a0), (9, aI i18)]) (L' := [(3, .one (.arr 5 tI) a1), (4, .one (.arr 5 tI) [(0 : Int), (0 : Int), (0 : Int), (0 : Int), (0 : Int)]), (5, .one (.arr 5 tI) x19)]) (obs := [Idx a0 i18 v22]) (by kernel_rfl) (by kernel_rfl) (by kernel_rfl) (allP1 (Idx.of h23)) ?_
      refine seqQ_norm ?_
      obtain ⟨_, h24, h⟩ := bind_of h
      replace h24 := ck_some h24
      obtain ⟨v25, h26, h⟩ := bind_of h
      obtain ⟨_, h27, h⟩ := bind_of h
      replace h27 := ck_some h27
      obtain ⟨v28, h29, h⟩ := bind_of h
      refine W_run 6 [(7, .val (.dat tI v25))] [3, 4, 5, 8, 9] [3, 4, 5] (fr' := [(3, .one (.ptr 3 0)), (4, .one (.ptr 4 0)), (5, .one (.ptr 5 0)), (8, aD (.arr 5 tI) a0), (9, aI i18)]) (L' := [(3, .one (.arr 5 tI) a1), (4, .one (.arr 5 tI) [(0 : Int), (0 : Int), (0 : Int), (0 : Int), (0 : Int)]), (5, .one (.arr 5 tI) (List.set x19 (Int.toNat i18) v25))]) (obs := [InR v22 5, Idx a1 v22 v25, InR i18 5, InR i18 (List.length x19)]) (by kernel_rfl) (by kernel_rfl) (by kernel_rfl) (allP2 h24 (allP2 (Idx.of h26) (allP2 h27 (allP1 (InR.of h29))))) ?_
      refine blockQ_norm ?_
      refine seqQ_norm ?_
      obtain rfl := Option.some.inj h
      refine W_run 2 [] [3, 4, 5, 8, 9] [3, 4, 5] (fr' := [(3, .one (.ptr 3 0)), (4, .one (.ptr 4 0)), (5, .one (.ptr 5 0)), (8, aD (.arr 5 tI) a0), (9, aI (w64 (i18 + (1 : Int))))]) (L' := [(3, .one (.arr 5 tI) a1), (4, .one (.arr 5 tI) [(0 : Int), (0 : Int), (0 : Int), (0 : Int), (0 : Int)]), (5, .one (.arr 5 tI) (List.set x19 (Int.toNat i18) v25))]) (obs := []) (by kernel_rfl) (by kernel_rfl) (by kernel_rfl) allP0 ?_
      exact round_next' (by kernel_rfl) (by kernel_rfl)
    · obtain rfl := stepI_false h21 h
      refine W_exit (id := 0) [4, 5] [4, 5] (fr' := [(4, .one (.ptr 4 0)), (5, .one (.ptr 5 0))]) (L' := [(4, .one (.arr 5 tI) [(0 : Int), (0 : Int), (0 : Int), (0 : Int), (0 : Int)]), (5, .one (.arr 5 tI) x19)]) (by kernel_rfl) (by kernel_rfl) ?_
      refine seqQ_exit ?_
      refine round_exit ?_
      exact exQ_mk (by kernel_rfl) (by kernel_rfl)
  · intro e fr L hJ
    obtain ⟨rfl, rfl, rfl⟩ := hJ
    refine LT_keep [4, 5] [4, 5] (fr' := [(4, .one (.ptr 4 0)), (5, .one (.ptr 5 0))]) (L' := [(4, .one (.arr 5 tI) [(0 : Int), (0 : Int), (0 : Int), (0 : Int), (0 : Int)]), (5, .one (.arr 5 tI) v31)]) (by kernel_rfl) ?_
    refine blockQ_hit ?_
    refine seqQ_norm ?_
    refine W_seq (by kernel_rfl) ?_
    refine W_run 2 [] [4] [4] (fr' := [(4, .one (.ptr 4 0))]) (L' := [(4, .one (.arr 5 tI) v31)]) (obs := [True]) (by kernel_rfl) (by kernel_rfl) (by kernel_rfl) (allP1 trivial) ?_
    refine seqQ_norm ?_
    obtain rfl := Option.some.inj h
    refine W_ret [4] [4] (fr' := [(4, .one (.ptr 4 0))]) (L' := [(4, .one (.arr 5 tI) v31)]) (by kernel_rfl) (by kernel_rfl) ?_
    exact retQ_mk (by kernel_rfl) (by kernel_rfl) (by kernel_rfl)

def wide_behind_i2 (a1 : (List Int)) (c0 : (List (Int × ((List Int) × (List Int))))) : Option ((List (Int × ((List Int) × (List Int)))) × (List (Int × ((List Int) × (List Int))))) :=
(idx c0 (w64 ((List.length c0 : Int) - (1 : Int)))).bind fun v1 =>
(wide_then v1.2.1 a1).bind fun r3 =>
(wide_then v1.2.2 a1).bind fun r5 =>
(idx (List.set c0 (Int.toNat (w64 ((List.length c0 : Int) - (1 : Int)))) (v1.1, r3, v1.2.2)) (w64 ((List.length c0 : Int) - (1 : Int)))).bind fun v7 =>
some (List.set (List.set c0 (Int.toNat (w64 ((List.length c0 : Int) - (1 : Int)))) (v1.1, r3, v1.2.2)) (Int.toNat (w64 ((List.length c0 : Int) - (1 : Int)))) (v7.1, v7.2.1, r5), List.set (List.set c0 (Int.toNat (w64 ((List.length c0 : Int) - (1 : Int)))) (v1.1, r3, v1.2.2)) (Int.toNat (w64 ((List.length c0 : Int) - (1 : Int)))) (v7.1, v7.2.1, r5))
theorem wide_behind_i2_ok {a1 : (List Int)} {c0 : (List (Int × ((List Int) × (List Int))))} {r : ((List (Int × ((List Int) × (List Int)))) × (List (Int × ((List Int) × (List Int)))))} (h : wide_behind_i2 a1 c0 = some r) : FnC Try.prog 43 [.one (.slc 2000), aD (.arr 5 tI) a1] [(2000, .seq (.pair tI (.pair (.arr 5 tI) (.arr 5 tI))) c0)] (.one (.slc 2000)) [(2000, .seq (.pair tI (.pair (.arr 5 tI) (.arr 5 tI))) r.2)] := by
  refine fnC_of_W (B := bodyOf Try.f43) (n := 30) Try.func43 (by kernel_rfl) (by kernel_rfl) (by kernel_rfl) (by kernel_rfl) (by kernel_rfl) ?_
  intro K
  refine W_seq (by kernel_rfl) ?_
  refine W_run 2 [] [0, 3] [2000, 3] (fr' := [(0, .one (.slc 2000)), (3, .one (.ptr 3 0))]) (L' := [(2000, .seq (.pair tI (.pair (.arr 5 tI) (.arr 5 tI))) c0), (3, .one (.arr 5 tI) a1)]) (obs := []) (by kernel_rfl) (by kernel_rfl) (by kernel_rfl) allP0 ?_
  refine seqQ_norm ?_
  refine W_seq (by kernel_rfl) ?_
  obtain ⟨v1, h2, h⟩ := bind_of h
  refine W_run 6 [] [0, 3, 5] [2000, 3] (fr' := [(0, .one (.slc 2000)), (3, .one (.ptr 3 0)), (5, .one (.eptr 2000 11 (w64 ((List.length c0 : Int) - (1 : Int))) 0))]) (L' := [(2000, .seq (.pair tI (.pair (.arr 5 tI) (.arr 5 tI))) c0), (3, .one (.arr 5 tI) a1)]) (obs := [InR (w64 ((List.length c0 : Int) - (1 : Int))) (List.length c0)]) (by kernel_rfl) (by kernel_rfl) (by kernel_rfl) (allP1 (InR.of h2)) ?_
  refine seqQ_norm ?_
  refine W_seq (by kernel_rfl) ?_
  obtain ⟨r3, h4, h⟩ := bind_of h
  obtain ⟨r5, h6, h⟩ := bind_of h
  obtain ⟨v7, h8, h⟩ := bind_of h
  refine W_draw3 14 [1] [(11, .val (.dat (.pair tI (.pair (.arr 5 tI) (.arr 5 tI))) v1)), (23, .val (.dat (.pair tI (.pair (.arr 5 tI) (.arr 5 tI))) v1)), (33, .val (.dat (.pair tI (.pair (.arr 5 tI) (.arr 5 tI))) v1)), (39, .val (.dat (.pair tI (.pair (.arr 5 tI) (.arr 5 tI))) v7))] [(7, [none, none], aD (.arr 5 tI) r3), (13, [none, none], aD (.arr 5 tI) r5)] [0] [2000] (fr' := [(0, .one (.slc 2000))]) (L' := [(2000, .seq (.pair tI (.pair (.arr 5 tI) (.arr 5 tI))) (List.set (List.set c0 (Int.toNat (w64 ((List.length c0 : Int) - (1 : Int)))) (v1.1, r3, v1.2.2)) (Int.toNat (w64 ((List.length c0 : Int) - (1 : Int)))) (v7.1, v7.2.1, r5)))]) (out := [(11, .one (.eptr 2000 11 (w64 ((List.length c0 : Int) - (1 : Int))) 0)), (12, .one (.eptr 2000 11 (w64 ((List.length c0 : Int) - (1 : Int))) 0)), (13, .one (.eptr 2000 11 (w64 ((List.length c0 : Int) - (1 : Int))) 0)), (14, .one (.eptr 2000 11 (w64 ((List.length c0 : Int) - (1 : Int))) 0)), (15, .one (.eptr 2000 11 (w64 ((List.length c0 : Int) - (1 : Int))) 1)), (16, aD (.arr 5 tI) v1.2.1), (17, aD (.arr 5 tI) a1), (18, aD (.arr 5 tI) r3), (19, .one (.eptr 2000 11 (w64 ((List.length c0 : Int) - (1 : Int))) 0)), (20, .one (.eptr 2000 11 (w64 ((List.length c0 : Int) - (1 : Int))) 0)), (21, .one (.eptr 2000 11 (w64 ((List.length c0 : Int) - (1 : Int))) 6)), (22, aD (.arr 5 tI) v1.2.2), (23, aD (.arr 5 tI) a1), (24, aD (.arr 5 tI) r5)]) (obs := [Idx c0 (w64 ((List.length c0 : Int) - (1 : Int))) v1, True, Idx c0 (w64 ((List.length c0 : Int) - (1 : Int))) v1, True]) (obs2 := [Idx c0 (w64 ((List.length c0 : Int) - (1 : Int))) v1, Idx (List.set c0 (Int.toNat (w64 ((List.length c0 : Int) - (1 : Int)))) (v1.1, r3, v1.2.2)) (w64 ((List.length c0 : Int) - (1 : Int))) v7]) (calls := [(35, [aD (.arr 5 tI) v1.2.1, aD (.arr 5 tI) a1], aD (.arr 5 tI) r3), (35, [aD (.arr 5 tI) v1.2.2, aD (.arr 5 tI) a1], aD (.arr 5 tI) r5)]) (by kernel_rfl) (by kernel_rfl) (by kernel_rfl) (by kernel_rfl) (allP2 (Idx.of h2) (allP2 trivial (allP2 (Idx.of h2) (allP1 trivial)))) (allC1 (by kernel_rfl) (wide_then_ok h4) (by kernel_rfl) (allC1 (by kernel_rfl) (wide_then_ok h6) (by kernel_rfl) allC0)) (by kernel_rfl) (allP2 (Idx.of h2) (allP1 (Idx.of h8))) ?_
  refine seqQ_norm ?_
  refine W_seq (by kernel_rfl) ?_
  refine W_run 2 [] [4] [2000] (fr' := [(4, .one (.slc 2000))]) (L' := [(2000, .seq (.pair tI (.pair (.arr 5 tI) (.arr 5 tI))) (List.set (List.set c0 (Int.toNat (w64 ((List.length c0 : Int) - (1 : Int)))) (v1.1, r3, v1.2.2)) (Int.toNat (w64 ((List.length c0 : Int) - (1 : Int)))) (v7.1, v7.2.1, r5)))]) (obs := []) (by kernel_rfl) (by kernel_rfl) (by kernel_rfl) allP0 ?_
  refine seqQ_norm ?_
  obtain rfl := Option.some.inj h
  refine W_ret [4] [2000] (fr' := [(4, .one (.slc 2000))]) (L' := [(2000, .seq (.pair tI (.pair (.arr 5 tI) (.arr 5 tI))) (List.set (List.set c0 (Int.toNat (w64 ((List.length c0 : Int) - (1 : Int)))) (v1.1, r3, v1.2.2)) (Int.toNat (w64 ((List.length c0 : Int) - (1 : Int)))) (v7.1, v7.2.1, r5)))]) (by kernel_rfl) (by kernel_rfl) ?_
  exact retQ_mk (by kernel_rfl) (by kernel_rfl) (by kernel_rfl)

def wide_between_b1 (a0 : (List Int)) (a1 : (List Int)) (i17 : Int) (x18 : (Int × Int × (List Int))) : Option (Flow (Int × Int × (List Int)) (List Int)) :=
(ck (0 ≤ x18.1 ∧ x18.1 < 5)).bind fun _ =>
(idx x18.2.2 x18.1).bind fun v22 =>
(idx a0 x18.1).bind fun v24 =>
(ck (0 ≤ x18.2.1 ∧ x18.2.1 < 5)).bind fun _ =>
(idx a1 x18.2.1).bind fun v27 =>
some (.next (v24, v27, List.set x18.2.2 (Int.toNat x18.1) x18.2.1))
@[reducible] def wide_between_s2 (a0 : (List Int)) (a1 : (List Int)) (v : Int × (Int × Int × (List Int))) : Fr × LL := ([(2, .one (.ptr 2 0)), (3, .one (.ptr 3 0)), (4, .one (.ptr 4 0)), (5, .one (.ptr 5 0)), (6, aI v.2.1), (7, aI v.2.2.1), (8, aI v.1)], [(2, .one (.arr 5 tI) a0), (3, .one (.arr 5 tI) a1), (4, .one (.arr 5 tI) [(0 : Int), (0 : Int), (0 : Int), (0 : Int), (0 : Int)]), (5, .one (.arr 5 tI) v.2.2.2)])
@[reducible] def wide_between_s3 (v : (List Int)) : Fr × LL := ([(4, .one (.ptr 4 0)), (5, .one (.ptr 5 0))], [(4, .one (.arr 5 tI) [(0 : Int), (0 : Int), (0 : Int), (0 : Int), (0 : Int)]), (5, .one (.arr 5 tI) v)])
def wide_between (a0 : (List Int)) (a1 : (List Int)) : Option (List Int) :=
(forI (0 : Int) (5 : Int) (wide_between_b1 a0 a1) (fun x18 => x18.2.2) ((0 : Int), (0 : Int), [(0 : Int), (0 : Int), (0 : Int), (0 : Int), (0 : Int)])).bind fun v30 =>
some v30
theorem wide_between_ok {a0 : (List Int)} {a1 : (List Int)} {r : (List Int)} (h : wide_between a0 a1 = some r) : FnC Try.prog 48 [aD (.arr 5 tI) a0, aD (.arr 5 tI) a1] [] (aD (.arr 5 tI) r) [] := by
  refine fnC_of_W (B := bodyOf Try.f48) (n := 21) Try.func48 (by kernel_rfl) (by kernel_rfl) (by kernel_rfl) (by kernel_rfl) (by kernel_rfl) ?_
  intro K
  refine W_seq (by kernel_rfl) ?_
  refine W_run 3 [(5, .typed)] [2, 3, 4] [2, 3, 4] (fr' := [(2, .one (.ptr 2 0)), (3, .one (.ptr 3 0)), (4, .one (.ptr 4 0))]) (L' := [(2, .one (.arr 5 tI) a0), (3, .one (.arr 5 tI) a1), (4, .one (.arr 5 tI) [(0 : Int), (0 : Int), (0 : Int), (0 : Int), (0 : Int)])]) (obs := []) (by kernel_rfl) (by kernel_rfl) (by kernel_rfl) allP0 ?_
  refine seqQ_norm ?_
  refine W_seq (by kernel_rfl) ?_
  refine W_run 1 [(1, .typed)] [2, 3, 4, 5] [2, 3, 4, 5] (fr' := [(2, .one (.ptr 2 0)), (3, .one (.ptr 3 0)), (4, .one (.ptr 4 0)), (5, .one (.ptr 5 0))]) (L' := [(2, .one (.arr 5 tI) a0), (3, .one (.arr 5 tI) a1), (4, .one (.arr 5 tI) [(0 : Int), (0 : Int), (0 : Int), (0 : Int), (0 : Int)]), (5, .one (.arr 5 tI) [(0 : Int), (0 : Int), (0 : Int), (0 : Int), (0 : Int)])]) (obs := []) (by kernel_rfl) (by kernel_rfl) (by kernel_rfl) allP0 ?_
  refine seqQ_norm ?_
  refine W_seq (by kernel_rfl) ?_
  refine W_run 2 [] [2, 3, 4, 5, 6, 7] [2, 3, 4, 5] (fr' := [(2, .one (.ptr 2 0)), (3, .one (.ptr 3 0)), (4, .one (.ptr 4 0)), (5, .one (.ptr 5 0)), (6, aI (0 : Int)), (7, aI (0 : Int))]) (L' := [(2, .one (.arr 5 tI) a0), (3, .one (.arr 5 tI) a1), (4, .one (.arr 5 tI) [(0 : Int), (0 : Int), (0 : Int), (0 : Int), (0 : Int)]), (5, .one (.arr 5 tI) [(0 : Int), (0 : Int), (0 : Int), (0 : Int), (0 : Int)])]) (obs := []) (by kernel_rfl) (by kernel_rfl) (by kernel_rfl) allP0 ?_
  refine seqQ_norm ?_
  refine W_seq (by kernel_rfl) ?_
  refine W_seq (by kernel_rfl) ?_
  refine W_run 1 [] [2, 3, 4, 5, 6, 7, 8] [2, 3, 4, 5] (fr' := [(2, .one (.ptr 2 0)), (3, .one (.ptr 3 0)), (4, .one (.ptr 4 0)), (5, .one (.ptr 5 0)), (6, aI (0 : Int)), (7, aI (0 : Int)), (8, aI (0 : Int))]) (L' := [(2, .one (.arr 5 tI) a0), (3, .one (.arr 5 tI) a1), (4, .one (.arr 5 tI) [(0 : Int), (0 : Int), (0 : Int), (0 : Int), (0 : Int)]), (5, .one (.arr 5 tI) [(0 : Int), (0 : Int), (0 : Int), (0 : Int), (0 : Int)])]) (obs := []) (by kernel_rfl) (by kernel_rfl) (by kernel_rfl) allP0 ?_
  refine seqQ_norm ?_
  refine W_block (id := 0) (by kernel_rfl) ?_
  obtain ⟨v30, h31, h⟩ := bind_of h
  obtain ⟨h32, h33⟩ := forI_iter h31
  refine W_weaken [2, 3, 4, 5, 6, 7, 8] [2, 3, 4, 5] (fr' := ((wide_between_s2 a0 a1) ((0 : Int), ((0 : Int), (0 : Int), [(0 : Int), (0 : Int), (0 : Int), (0 : Int), (0 : Int)]))).1) (L' := ((wide_between_s2 a0 a1) ((0 : Int), ((0 : Int), (0 : Int), [(0 : Int), (0 : Int), (0 : Int), (0 : Int), (0 : Int)]))).2) (by kernel_rfl) ?_
  refine W_cutK (W_loop (S := (wide_between_s2 a0 a1)) (J := (exQ (.exit 0) wide_between_s3)) (by kernel_rfl) ?_ h32 _ v30 h33) ?_
  · rintro ⟨i17, x18⟩ s h
    refine W_seq (by kernel_rfl) ?_
    refine W_run 1 [] [2, 3, 4, 5, 6, 7, 8, 9] [2, 3, 4, 5] (fr' := [(2, .one (.ptr 2 0)), (3, .one (.ptr 3 0)), (4, .one (.ptr 4 0)), (5, .one (.ptr 5 0)), (6, aI x18.1), (7, aI x18.2.1), (8, aI i17), (9, aB (decide (i17 < (5 : Int))))]) (L' := [(2, .one (.arr 5 tI) a0), (3, .one (.arr 5 tI) a1), (4, .one (.arr 5 tI) [(0 : Int), (0 : Int), (0 : Int), (0 : Int), (0 : Int)]), (5, .one (.arr 5 tI) x18.2.2)]) (obs := []) (by kernel_rfl) (by kernel_rfl) (by kernel_rfl) allP0 ?_
    refine seqQ_norm ?_
    refine W_seq (by kernel_rfl) ?_
    refine W_cond (o := .tmp 9) (b := decide (i17 < (5 : Int))) (by kernel_rfl) (by kernel_rfl) (fun h20 => ?_) (fun h20 => ?_)
    · replace h := stepI_true h20 h
      obtain ⟨_, h, rfl⟩ := h
      refine W_skip [2, 3, 4, 5, 6, 7, 8] [2, 3, 4, 5] (fr' := [(2, .one (.ptr 2 0)), (3, .one (.ptr 3 0)), (4, .one (.ptr 4 0)), (5, .one (.ptr 5 0)), (6, aI x18.1), (7, aI x18.2.1), (8, aI i17)]) (L' := [(2, .one (.arr 5 tI) a0), (3, .one (.arr 5 tI) a1), (4, .one (.arr 5 tI) [(0 : Int), (0 : Int), (0 : Int), (0 : Int), (0 : Int)]), (5, .one (.arr 5 tI) x18.2.2)]) (by kernel_rfl) (by kernel_rfl) ?_
      refine seqQ_norm ?_
      refine W_seq (by kernel_rfl) ?_
      refine W_block (id := 1) (by kernel_rfl) ?_
      refine W_seq (by kernel_rfl) ?_
      obtain ⟨_, h21, h⟩ := bind_of h
      replace h21 := ck_some h21
      obtain ⟨v22, h23, h⟩ := bind_of h
      refine W_run 4 [] [2, 3, 4, 5, 6, 7, 8] [2, 3, 4, 5] (fr' := [(2, .one (.ptr 2 0)), (3, .one (.ptr 3 0)), (4, .one (.ptr 4 0)), (5, .one (.ptr 5 0)), (6, aI x18.1), (7, aI x18.2.1), (8, aI i17)]) (L' := [(2, .one (.arr 5 tI) a0), (3, .one (.arr 5 tI) a1), (4, .one (.arr 5 tI) [(0 : Int), (0 : Int), (0 : Int), (0 : Int), (0 : Int)]), (5, .one (.arr 5 tI) (List.set x18.2.2 (Int.toNat x18.1) x18.2.1))]) (obs := [InR x18.1 5, InR x18.1 (List.length x18.2.2)]) (by kernel_rfl) (by kernel_rfl) (by kernel_rfl) (allP2 h21 (allP1 (InR.of h23))) ?_
      refine seqQ_norm ?_
      obtain ⟨v24, h25, h⟩ := bind_of h
      obtain ⟨_, h26, h⟩ := bind_of h
      replace h26 := ck_some h26
      obtain ⟨v27, h28, h⟩ := bind_of h
      refine W_drawH2 7 [(5, .val (.dat tI v24)), (11, .val (.dat tI v27))] [] [2, 3, 4, 5, 6, 7, 8] [2, 3, 4, 5] (fr' := [(2, .one (.ptr 2 0)), (3, .one (.ptr 3 0)), (4, .one (.ptr 4 0)), (5, .one (.ptr 5 0)), (6, aI v24), (7, aI v27), (8, aI i17)]) (L' := [(2, .one (.arr 5 tI) a0), (3, .one (.arr 5 tI) a1), (4, .one (.arr 5 tI) [(0 : Int), (0 : Int), (0 : Int), (0 : Int), (0 : Int)]), (5, .one (.arr 5 tI) (List.set x18.2.2 (Int.toNat x18.1) x18.2.1))]) (out := [(13, aI x18.1), (14, .one (.eptr 2 1 x18.1 0)), (15, aI v24), (16, aI x18.2.1), (17, .one (.eptr 3 1 x18.2.1 0)), (18, aI v27), (6, aI v24)]) (obs := [InR x18.1 5, Idx a0 x18.1 v24, InR x18.2.1 5, Idx a1 x18.2.1 v27]) (obs2 := []) (calls := []) (by kernel_rfl) (by kernel_rfl) (by kernel_rfl) (by kernel_rfl) (allP2 h21 (allP2 (Idx.of h25) (allP2 h26 (allP1 (Idx.of h28))))) allC0 (by kernel_rfl) allP0 ?_
      refine blockQ_norm ?_
      refine seqQ_norm ?_
      obtain rfl := Option.some.inj h
      refine W_run 2 [] [2, 3, 4, 5, 6, 7, 8] [2, 3, 4, 5] (fr' := [(2, .one (.ptr 2 0)), (3, .one (.ptr 3 0)), (4, .one (.ptr 4 0)), (5, .one (.ptr 5 0)), (6, aI v24), (7, aI v27), (8, aI (w64 (i17 + (1 : Int))))]) (L' := [(2, .one (.arr 5 tI) a0), (3, .one (.arr 5 tI) a1), (4, .one (.arr 5 tI) [(0 : Int), (0 : Int), (0 : Int), (0 : Int), (0 : Int)]), (5, .one (.arr 5 tI) (List.set x18.2.2 (Int.toNat x18.1) x18.2.1))]) (obs := []) (by kernel_rfl) (by kernel_rfl) (by kernel_rfl) allP0 ?_
      exact round_next' (by kernel_rfl) (by kernel_rfl)
    · obtain rfl := stepI_false h20 h
      refine W_exit (id := 0) [4, 5] [4, 5] (fr' := [(4, .one (.ptr 4 0)), (5, .one (.ptr 5 0))]) (L' := [(4, .one (.arr 5 tI) [(0 : Int), (0 : Int), (0 : Int), (0 : Int), (0 : Int)]), (5, .one (.arr 5 tI) x18.2.2)]) (by kernel_rfl) (by kernel_rfl) ?_
      refine seqQ_exit ?_
      refine round_exit ?_
      exact exQ_mk (by kernel_rfl) (by kernel_rfl)
  · intro e fr L hJ
    obtain ⟨rfl, rfl, rfl⟩ := hJ
    refine LT_keep [4, 5] [4, 5] (fr' := [(4, .one (.ptr 4 0)), (5, .one (.ptr 5 0))]) (L' := [(4, .one (.arr 5 tI) [(0 : Int), (0 : Int), (0 : Int), (0 : Int), (0 : Int)]), (5, .one (.arr 5 tI) v30)]) (by kernel_rfl) ?_
    refine blockQ_hit ?_
    refine seqQ_norm ?_
    refine W_seq (by kernel_rfl) ?_
    refine W_run 2 [] [4] [4] (fr' := [(4, .one (.ptr 4 0))]) (L' := [(4, .one (.arr 5 tI) v30)]) (obs := [True]) (by kernel_rfl) (by kernel_rfl) (by kernel_rfl) (allP1 trivial) ?_
    refine seqQ_norm ?_
    obtain rfl := Option.some.inj h
    refine W_ret [4] [4] (fr' := [(4, .one (.ptr 4 0))]) (L' := [(4, .one (.arr 5 tI) v30)]) (by kernel_rfl) (by kernel_rfl) ?_
    exact retQ_mk (by kernel_rfl) (by kernel_rfl) (by kernel_rfl)

def wide_both_1 (a0 : (List Int)) (c0 : (List Int)) : Option (List Int) :=
(wide_then c0 a0).bind fun r1 =>
(wide_back c0).bind fun r3 =>
(wide_then r1 r3).bind fun r5 =>
some r5
theorem wide_both_1_ok {a0 : (List Int)} {c0 : (List Int)} {r : (List Int)} (h : wide_both_1 a0 c0 = some r) : FnC Try.prog 49 [aD (.arr 5 tI) a0, .one (.ptr 1000 0)] [(1000, .one (.arr 5 tI) c0)] (aD (.arr 5 tI) r) [(1000, .one (.arr 5 tI) c0)] := by
  refine fnC_of_W (B := bodyOf Try.f49) (n := 10) Try.func49 (by kernel_rfl) (by kernel_rfl) (by kernel_rfl) (by kernel_rfl) (by kernel_rfl) ?_
  intro K
  refine W_seq (by kernel_rfl) ?_
  refine W_run 2 [(3, .typed)] [1, 2, 3] [1000, 2, 3] (fr' := [(1, .one (.ptr 1000 0)), (2, .one (.ptr 2 0)), (3, .one (.ptr 3 0))]) (L' := [(1000, .one (.arr 5 tI) c0), (2, .one (.arr 5 tI) a0), (3, .one (.arr 5 tI) [(0 : Int), (0 : Int), (0 : Int), (0 : Int), (0 : Int)])]) (obs := []) (by kernel_rfl) (by kernel_rfl) (by kernel_rfl) allP0 ?_
  refine seqQ_norm ?_
  refine W_seq (by kernel_rfl) ?_
  obtain ⟨r1, h2, h⟩ := bind_of h
  obtain ⟨r3, h4, h⟩ := bind_of h
  obtain ⟨r5, h6, h⟩ := bind_of h
  refine W_draw2 6 [] [(2, [none, none], aD (.arr 5 tI) r1), (4, [none], aD (.arr 5 tI) r3), (5, [none, none], aD (.arr 5 tI) r5)] [3] [3, 1000] (fr' := [(3, .one (.ptr 3 0))]) (L' := [(3, .one (.arr 5 tI) r5), (1000, .one (.arr 5 tI) c0)]) (out := [(4, aD (.arr 5 tI) c0), (5, aD (.arr 5 tI) a0), (6, aD (.arr 5 tI) r1), (7, aD (.arr 5 tI) c0), (8, aD (.arr 5 tI) r3), (9, aD (.arr 5 tI) r5)]) (obs := [True, True, True]) (obs2 := [True]) (calls := [(35, [aD (.arr 5 tI) c0, aD (.arr 5 tI) a0], aD (.arr 5 tI) r1), (44, [aD (.arr 5 tI) c0], aD (.arr 5 tI) r3), (35, [aD (.arr 5 tI) r1, aD (.arr 5 tI) r3], aD (.arr 5 tI) r5)]) (by kernel_rfl) (by kernel_rfl) (by kernel_rfl) (by kernel_rfl) (allP2 trivial (allP2 trivial (allP1 trivial))) (allC1 (by kernel_rfl) (wide_then_ok h2) (by kernel_rfl) (allC1 (by kernel_rfl) (wide_back_ok h4) (by kernel_rfl) (allC1 (by kernel_rfl) (wide_then_ok h6) (by kernel_rfl) allC0))) (by kernel_rfl) (allP1 trivial) ?_
  refine seqQ_norm ?_
  obtain rfl := Option.some.inj h
  refine W_ret [3] [3, 1000] (fr' := [(3, .one (.ptr 3 0))]) (L' := [(3, .one (.arr 5 tI) r5), (1000, .one (.arr 5 tI) c0)]) (by kernel_rfl) (by kernel_rfl) ?_
  exact retQ_mk (by kernel_rfl) (by kernel_rfl) (by kernel_rfl)

def wide_side (rf_wide_build : (List (Int × (Int × Int))) → Int → (List Int) → Option (List (Int × ((List Int) × (List Int))))) (a0 : (List (Int × (Int × Int)))) (a1 : Int) (a2 : (List Int)) (a3 : Bool) : Option (List (Int × ((List Int) × (List Int)))) :=
bif a3 then
((wide_back a2).bind fun r10 =>
(rf_wide_build a0 a1 r10).bind fun r12 =>
(wide_behind_i2 a2 r12).bind fun r14 =>
some r14.2)
else
((rf_wide_build a0 a1 a2).bind fun r16 =>
some r16)
theorem wide_side_ok {rf_wide_build : (List (Int × (Int × Int))) → Int → (List Int) → Option (List (Int × ((List Int) × (List Int))))} (ih_wide_build : ∀ {a0 : (List (Int × (Int × Int)))} {a1 : Int} {a2 : (List Int)} {r : (List (Int × ((List Int) × (List Int))))}, rf_wide_build a0 a1 a2 = some r → FnC Try.prog 38 [aD (.slice (.pair tI (.pair tI tI))) a0, aI a1, aD (.arr 5 tI) a2] [] (.one (.slc 899)) [(899, .seq (.pair tI (.pair (.arr 5 tI) (.arr 5 tI))) r)]) {a0 : (List (Int × (Int × Int)))} {a1 : Int} {a2 : (List Int)} {a3 : Bool} {r : (List (Int × ((List Int) × (List Int))))} (h : wide_side rf_wide_build a0 a1 a2 a3 = some r) : FnC Try.prog 50 [aD (.slice (.pair tI (.pair tI tI))) a0, aI a1, aD (.arr 5 tI) a2, aB a3] [] (aD (.slice (.pair tI (.pair (.arr 5 tI) (.arr 5 tI)))) r) [] := by
  refine fnC_of_W (B := bodyOf Try.f50) (n := 21) Try.func50 (by kernel_rfl) (by kernel_rfl) (by kernel_rfl) (by kernel_rfl) (by kernel_rfl) ?_
  intro K
  refine W_seq (by kernel_rfl) ?_
  refine W_run 2 [] [0, 1, 3, 6] [6] (fr' := [(0, aD (.slice (.pair tI (.pair tI tI))) a0), (1, aI a1), (3, aB a3), (6, .one (.ptr 6 0))]) (L' := [(6, .one (.arr 5 tI) a2)]) (obs := []) (by kernel_rfl) (by kernel_rfl) (by kernel_rfl) allP0 ?_
  refine seqQ_norm ?_
  refine W_seq (by kernel_rfl) ?_
  refine W_seq (by kernel_rfl) ?_
  refine W_run 1 [] [0, 1, 6, 9] [6] (fr' := [(0, aD (.slice (.pair tI (.pair tI tI))) a0), (1, aI a1), (6, .one (.ptr 6 0)), (9, aB a3)]) (L' := [(6, .one (.arr 5 tI) a2)]) (obs := []) (by kernel_rfl) (by kernel_rfl) (by kernel_rfl) allP0 ?_
  refine seqQ_norm ?_
  refine W_cond (o := .tmp 9) (b := a3) (by kernel_rfl) (by kernel_rfl) (fun h1 => ?_) (fun h1 => ?_)
  · replace h := ofT h1 h
    refine W_seq (by kernel_rfl) ?_
    obtain ⟨r10, h11, h⟩ := bind_of h
    obtain ⟨r12, h13, h⟩ := bind_of h
    refine W_drawC5 6 [(4, [14], [(14, .seq (.pair tI (.pair (.arr 5 tI) (.arr 5 tI))) r12)])] [] [(4, .one (.slc 14))] [] [(3, [none], aD (.arr 5 tI) r10)] [14, 15] [6, 14] (out := [(10, aD (.slice (.pair tI (.pair tI tI))) a0), (11, aI a1), (12, aD (.arr 5 tI) a2), (13, aD (.arr 5 tI) r10), (14, .one (.slc 14)), (15, aD (.arr 5 tI) a2)]) (obs := [True]) (calls := [(44, [aD (.arr 5 tI) a2], aD (.arr 5 tI) r10)]) (fr' := [(14, .one (.slc 14)), (15, aD (.arr 5 tI) a2)]) (L' := [(6, .one (.arr 5 tI) a2), (14, .seq (.pair tI (.pair (.arr 5 tI) (.arr 5 tI))) r12)]) (by kernel_rfl) (by kernel_rfl) (by kernel_rfl) (by kernel_rfl) (by kernel_rfl) (allP1 trivial) (allD2 [] _ _ (by kernel_rfl) (wide_back_ok h11) (by kernel_rfl) (by kernel_rfl) (by kernel_rfl) (by kernel_rfl) allD0) (chCall (us := [none, none, none]) (d := 14) (t := 14) (p := True) ⟨by kernel_rfl, by kernel_rfl, by kernel_rfl⟩ trivial (ih_wide_build h13) (by kernel_rfl) (by kernel_rfl) chNil) mkNil (by kernel_rfl) ?_
    obtain ⟨r14, h15, h⟩ := bind_of h
    refine WO_lend2 [(2000, 14)] (us := [none, none]) (d := 16) (p := True) (j := 7) rfl ⟨by kernel_rfl, by kernel_rfl, by kernel_rfl⟩ trivial (wide_behind_i2_ok h15) (by kernel_rfl) (by kernel_rfl) ?_
    refine WO_run (j := 8) (k := 1) (orcs := []) (kF := [8]) (kL := [6, 14]) (fr' := [(8, .one (.slc 14))]) (L' := [(6, .one (.arr 5 tI) a2), (14, .seq (.pair tI (.pair (.arr 5 tI) (.arr 5 tI))) r14.2)]) (obs := []) rfl (by kernel_rfl) allP0 ?_
    refine WO_fin [8] [14] (fr' := [(8, .one (.slc 14))]) (L' := [(14, .seq (.pair tI (.pair (.arr 5 tI) (.arr 5 tI))) r14.2)]) (by kernel_rfl) (by kernel_rfl) ?_
    refine ⟨rfl, ?_⟩
    refine seqQ_norm ?_
    obtain rfl := Option.some.inj h
    refine W_frz 14 (by kernel_rfl) ?_
    refine W_ret [8] [] (fr' := [(8, aD (.slice (.pair tI (.pair (.arr 5 tI) (.arr 5 tI)))) r14.2)]) (L' := []) (by kernel_rfl) (by kernel_rfl) ?_
    refine seqQ_ret ?_
    exact retQ_mk (by kernel_rfl) (by kernel_rfl) (by kernel_rfl)
  · replace h := ofF h1 h
    refine W_skip [0, 1, 6] [6] (fr' := [(0, aD (.slice (.pair tI (.pair tI tI))) a0), (1, aI a1), (6, .one (.ptr 6 0))]) (L' := [(6, .one (.arr 5 tI) a2)]) (by kernel_rfl) (by kernel_rfl) ?_
    refine seqQ_norm ?_
    refine W_seq (by kernel_rfl) ?_
    refine W_region (by kernel_rfl) ?_
    refine WO_run (j := 3) (k := 3) (orcs := []) (kF := [17, 18, 19]) (kL := [6]) (fr' := [(17, aD (.slice (.pair tI (.pair tI tI))) a0), (18, aI a1), (19, aD (.arr 5 tI) a2)]) (L' := [(6, .one (.arr 5 tI) a2)]) (obs := []) rfl (by kernel_rfl) allP0 ?_
    obtain ⟨r16, h17, h⟩ := bind_of h
    refine WO_call1 (us := [none, none, none]) (d := 20) (t := 20) (p := True) (j := 4) rfl ⟨by kernel_rfl, by kernel_rfl, by kernel_rfl⟩ trivial (ih_wide_build h17) (by kernel_rfl) ?_
    refine WO_run (j := 5) (k := 1) (orcs := []) (kF := [8]) (kL := [6, 20]) (fr' := [(8, .one (.slc 20))]) (L' := [(6, .one (.arr 5 tI) a2), (20, .seq (.pair tI (.pair (.arr 5 tI) (.arr 5 tI))) r16)]) (obs := []) rfl (by kernel_rfl) allP0 ?_
    refine WO_fin [8] [20] (fr' := [(8, .one (.slc 20))]) (L' := [(20, .seq (.pair tI (.pair (.arr 5 tI) (.arr 5 tI))) r16)]) (by kernel_rfl) (by kernel_rfl) ?_
    refine seqQ_norm ?_
    obtain rfl := Option.some.inj h
    refine W_frz 20 (by kernel_rfl) ?_
    refine W_ret [8] [] (fr' := [(8, aD (.slice (.pair tI (.pair (.arr 5 tI) (.arr 5 tI)))) r16)]) (L' := []) (by kernel_rfl) (by kernel_rfl) ?_
    exact retQ_mk (by kernel_rfl) (by kernel_rfl) (by kernel_rfl)

def wide_both (rf_wide_build : (List (Int × (Int × Int))) → Int → (List Int) → Option (List (Int × ((List Int) × (List Int))))) (a0 : (List (Int × (Int × Int)))) (a1 : Int) (a2 : Int) (a3 : (List Int)) (a4 : Bool) : Option (List (Int × ((List Int) × (List Int)))) :=
(wide_then [(1 : Int), (2 : Int), (3 : Int), (4 : Int), (0 : Int)] [(2 : Int), (4 : Int), (1 : Int), (0 : Int), (3 : Int)]).bind fun r33 =>
(wide_back [(1 : Int), (2 : Int), (3 : Int), (4 : Int), (0 : Int)]).bind fun r35 =>
(wide_back [(2 : Int), (4 : Int), (1 : Int), (0 : Int), (3 : Int)]).bind fun r37 =>
(wide_then r35 r37).bind fun r39 =>
(wide_then r33 r39).bind fun r41 =>
(wide_between a3 r41).bind fun r43 =>
(wide_both_1 [(1 : Int), (2 : Int), (3 : Int), (4 : Int), (0 : Int)] r43).bind fun r45 =>
(wide_both_1 [(2 : Int), (4 : Int), (1 : Int), (0 : Int), (3 : Int)] r43).bind fun r47 =>
(wide_side rf_wide_build a0 a1 r45 a4).bind fun r49 =>
(ck ((List.length r49 : Int) ≤ 4294967296)).bind fun _ =>
(wide_side rf_wide_build a0 a2 r47 a4).bind fun r52 =>
(ck ((List.length r49 : Int) + (List.length r52 : Int) ≤ 4294967296)).bind fun _ =>
(wide_back r45).bind fun r55 =>
(wide_side rf_wide_build a0 a1 r55 a4).bind fun r57 =>
(ck ((List.length (r49 ++ r52) : Int) + (List.length r57 : Int) ≤ 4294967296)).bind fun _ =>
(wide_back r47).bind fun r60 =>
(wide_side rf_wide_build a0 a2 r60 a4).bind fun r62 =>
(ck ((List.length ((r49 ++ r52) ++ r57) : Int) + (List.length r62 : Int) ≤ 4294967296)).bind fun _ =>
some (((r49 ++ r52) ++ r57) ++ r62)
theorem wide_both_ok {rf_wide_build : (List (Int × (Int × Int))) → Int → (List Int) → Option (List (Int × ((List Int) × (List Int))))} (ih_wide_build : ∀ {a0 : (List (Int × (Int × Int)))} {a1 : Int} {a2 : (List Int)} {r : (List (Int × ((List Int) × (List Int))))}, rf_wide_build a0 a1 a2 = some r → FnC Try.prog 38 [aD (.slice (.pair tI (.pair tI tI))) a0, aI a1, aD (.arr 5 tI) a2] [] (.one (.slc 899)) [(899, .seq (.pair tI (.pair (.arr 5 tI) (.arr 5 tI))) r)]) {a0 : (List (Int × (Int × Int)))} {a1 : Int} {a2 : Int} {a3 : (List Int)} {a4 : Bool} {r : (List (Int × ((List Int) × (List Int))))} (h : wide_both rf_wide_build a0 a1 a2 a3 a4 = some r) : FnC Try.prog 45 [aD (.slice (.pair tI (.pair tI tI))) a0, aI a1, aI a2, aD (.arr 5 tI) a3, aB a4] [] (.one (.slc 42)) [(42, .seq (.pair tI (.pair (.arr 5 tI) (.arr 5 tI))) r)] := by
  refine fnC_of_W (B := bodyOf Try.f45) (n := 66) Try.func45 (by kernel_rfl) (by kernel_rfl) (by kernel_rfl) (by kernel_rfl) (by kernel_rfl) ?_
  intro K
  refine W_seq (by kernel_rfl) ?_
  refine W_run 2 [] [0, 1, 2, 4, 8] [8] (fr' := [(0, aD (.slice (.pair tI (.pair tI tI))) a0), (1, aI a1), (2, aI a2), (4, aB a4), (8, .one (.ptr 8 0))]) (L' := [(8, .one (.arr 5 tI) a3)]) (obs := []) (by kernel_rfl) (by kernel_rfl) (by kernel_rfl) allP0 ?_
  refine seqQ_norm ?_
  refine W_seq (by kernel_rfl) ?_
  refine W_run 6 [(5, .typed), (7, .typed)] [0, 1, 2, 4, 8, 11, 12] [8, 11, 12] (fr' := [(0, aD (.slice (.pair tI (.pair tI tI))) a0), (1, aI a1), (2, aI a2), (4, aB a4), (8, .one (.ptr 8 0)), (11, .one (.ptr 11 0)), (12, .one (.ptr 12 0))]) (L' := [(8, .one (.arr 5 tI) a3), (11, .one (.arr 5 tI) [(1 : Int), (2 : Int), (3 : Int), (4 : Int), (0 : Int)]), (12, .one (.arr 5 tI) [(2 : Int), (4 : Int), (1 : Int), (0 : Int), (3 : Int)])]) (obs := [True, True]) (by kernel_rfl) (by kernel_rfl) (by kernel_rfl) (allP2 trivial (allP1 trivial)) ?_
  refine seqQ_norm ?_
  refine W_seq (by kernel_rfl) ?_
  obtain ⟨r33, h34, h⟩ := bind_of h
  obtain ⟨r35, h36, h⟩ := bind_of h
  obtain ⟨r37, h38, h⟩ := bind_of h
  obtain ⟨r39, h40, h⟩ := bind_of h
  obtain ⟨r41, h42, h⟩ := bind_of h
  obtain ⟨r43, h44, h⟩ := bind_of h
  refine W_drawC5 12 [] [(11, 13, .one (.arr 5 tI) [(0 : Int), (0 : Int), (0 : Int), (0 : Int), (0 : Int)])] [(11, .one (.ptr 13 0))] [] [(3, [none, none], aD (.arr 5 tI) r33), (5, [none], aD (.arr 5 tI) r35), (7, [none], aD (.arr 5 tI) r37), (8, [none, none], aD (.arr 5 tI) r39), (9, [none, none], aD (.arr 5 tI) r41), (10, [none, none], aD (.arr 5 tI) r43)] [0, 1, 2, 4, 11, 12, 13, 28] [8, 11, 12, 13] (out := [(18, aD (.arr 5 tI) a3), (19, aD (.arr 5 tI) [(1 : Int), (2 : Int), (3 : Int), (4 : Int), (0 : Int)]), (20, aD (.arr 5 tI) [(2 : Int), (4 : Int), (1 : Int), (0 : Int), (3 : Int)]), (21, aD (.arr 5 tI) r33), (22, aD (.arr 5 tI) [(1 : Int), (2 : Int), (3 : Int), (4 : Int), (0 : Int)]), (23, aD (.arr 5 tI) r35), (24, aD (.arr 5 tI) [(2 : Int), (4 : Int), (1 : Int), (0 : Int), (3 : Int)]), (25, aD (.arr 5 tI) r37), (26, aD (.arr 5 tI) r39), (27, aD (.arr 5 tI) r41), (28, aD (.arr 5 tI) r43), (13, .one (.ptr 13 0))]) (obs := [True, True, True, True, True, True]) (calls := [(35, [aD (.arr 5 tI) [(1 : Int), (2 : Int), (3 : Int), (4 : Int), (0 : Int)], aD (.arr 5 tI) [(2 : Int), (4 : Int), (1 : Int), (0 : Int), (3 : Int)]], aD (.arr 5 tI) r33), (44, [aD (.arr 5 tI) [(1 : Int), (2 : Int), (3 : Int), (4 : Int), (0 : Int)]], aD (.arr 5 tI) r35), (44, [aD (.arr 5 tI) [(2 : Int), (4 : Int), (1 : Int), (0 : Int), (3 : Int)]], aD (.arr 5 tI) r37), (35, [aD (.arr 5 tI) r35, aD (.arr 5 tI) r37], aD (.arr 5 tI) r39), (35, [aD (.arr 5 tI) r33, aD (.arr 5 tI) r39], aD (.arr 5 tI) r41), (48, [aD (.arr 5 tI) a3, aD (.arr 5 tI) r41], aD (.arr 5 tI) r43)]) (fr' := [(0, aD (.slice (.pair tI (.pair tI tI))) a0), (1, aI a1), (2, aI a2), (4, aB a4), (11, .one (.ptr 11 0)), (12, .one (.ptr 12 0)), (13, .one (.ptr 13 0)), (28, aD (.arr 5 tI) r43)]) (L' := [(8, .one (.arr 5 tI) a3), (11, .one (.arr 5 tI) [(1 : Int), (2 : Int), (3 : Int), (4 : Int), (0 : Int)]), (12, .one (.arr 5 tI) [(2 : Int), (4 : Int), (1 : Int), (0 : Int), (3 : Int)]), (13, .one (.arr 5 tI) [(0 : Int), (0 : Int), (0 : Int), (0 : Int), (0 : Int)])]) (by kernel_rfl) (by kernel_rfl) (by kernel_rfl) (by kernel_rfl) (by kernel_rfl) (allP2 trivial (allP2 trivial (allP2 trivial (allP2 trivial (allP2 trivial (allP1 trivial)))))) (allD2 [] _ _ (by kernel_rfl) (wide_then_ok h34) (by kernel_rfl) (by kernel_rfl) (by kernel_rfl) (by kernel_rfl) (allD2 [] _ _ (by kernel_rfl) (wide_back_ok h36) (by kernel_rfl) (by kernel_rfl) (by kernel_rfl) (by kernel_rfl) (allD2 [] _ _ (by kernel_rfl) (wide_back_ok h38) (by kernel_rfl) (by kernel_rfl) (by kernel_rfl) (by kernel_rfl) (allD2 [] _ _ (by kernel_rfl) (wide_then_ok h40) (by kernel_rfl) (by kernel_rfl) (by kernel_rfl) (by kernel_rfl) (allD2 [] _ _ (by kernel_rfl) (wide_then_ok h42) (by kernel_rfl) (by kernel_rfl) (by kernel_rfl) (by kernel_rfl) (allD2 [] _ _ (by kernel_rfl) (wide_between_ok h44) (by kernel_rfl) (by kernel_rfl) (by kernel_rfl) (by kernel_rfl) allD0)))))) chNil (mkDo (ty := true) (av := .one (.ptr 13 0)) (p := True) (by kernel_rfl) trivial (by kernel_rfl) mkNil) (by kernel_rfl) ?_
  refine WO_run (j := 13) (k := 1) (orcs := []) (kF := [0, 1, 2, 4, 11, 12, 13]) (kL := [8, 11, 12, 13]) (fr' := [(0, aD (.slice (.pair tI (.pair tI tI))) a0), (1, aI a1), (2, aI a2), (4, aB a4), (11, .one (.ptr 11 0)), (12, .one (.ptr 12 0)), (13, .one (.ptr 13 0))]) (L' := [(8, .one (.arr 5 tI) a3), (11, .one (.arr 5 tI) [(1 : Int), (2 : Int), (3 : Int), (4 : Int), (0 : Int)]), (12, .one (.arr 5 tI) [(2 : Int), (4 : Int), (1 : Int), (0 : Int), (3 : Int)]), (13, .one (.arr 5 tI) r43)]) (obs := [True]) rfl (by kernel_rfl) (allP1 trivial) ?_
  refine WO_fin [0, 1, 2, 4, 11, 12, 13] [11, 12, 13] (fr' := [(0, aD (.slice (.pair tI (.pair tI tI))) a0), (1, aI a1), (2, aI a2), (4, aB a4), (11, .one (.ptr 11 0)), (12, .one (.ptr 12 0)), (13, .one (.ptr 13 0))]) (L' := [(11, .one (.arr 5 tI) [(1 : Int), (2 : Int), (3 : Int), (4 : Int), (0 : Int)]), (12, .one (.arr 5 tI) [(2 : Int), (4 : Int), (1 : Int), (0 : Int), (3 : Int)]), (13, .one (.arr 5 tI) r43)]) (by kernel_rfl) (by kernel_rfl) ?_
  refine ⟨rfl, ?_⟩
  refine seqQ_norm ?_
  refine W_seq (by kernel_rfl) ?_
  refine W_run 2 [] [0, 1, 2, 4, 11, 12, 14] [11, 12, 13] (fr' := [(0, aD (.slice (.pair tI (.pair tI tI))) a0), (1, aI a1), (2, aI a2), (4, aB a4), (11, .one (.ptr 11 0)), (12, .one (.ptr 12 0)), (14, .one (.fn 49 [(13, 0)]))]) (L' := [(11, .one (.arr 5 tI) [(1 : Int), (2 : Int), (3 : Int), (4 : Int), (0 : Int)]), (12, .one (.arr 5 tI) [(2 : Int), (4 : Int), (1 : Int), (0 : Int), (3 : Int)]), (13, .one (.arr 5 tI) r43)]) (obs := []) (by kernel_rfl) (by kernel_rfl) (by kernel_rfl) allP0 ?_
  refine seqQ_norm ?_
  refine W_seq (by kernel_rfl) ?_
  obtain ⟨r45, h46, h⟩ := bind_of h
  obtain ⟨r47, h48, h⟩ := bind_of h
  refine W_draw4 6 [] [] [(2, [none, none], aD (.arr 5 tI) r45), (5, [none, none], aD (.arr 5 tI) r47)] [0, 1, 2, 4, 11, 12] [11, 12] (fr' := [(0, aD (.slice (.pair tI (.pair tI tI))) a0), (1, aI a1), (2, aI a2), (4, aB a4), (11, .one (.ptr 11 0)), (12, .one (.ptr 12 0))]) (L' := [(11, .one (.arr 5 tI) r45), (12, .one (.arr 5 tI) r47)]) (out := [(30, .one (.fn 49 [(13, 0)])), (31, aD (.arr 5 tI) [(1 : Int), (2 : Int), (3 : Int), (4 : Int), (0 : Int)]), (32, aD (.arr 5 tI) r45), (33, .one (.fn 49 [(13, 0)])), (34, aD (.arr 5 tI) [(2 : Int), (4 : Int), (1 : Int), (0 : Int), (3 : Int)]), (35, aD (.arr 5 tI) r47)]) (obs := [True, True]) (obs2 := [True, True]) (calls := [(49, [aD (.arr 5 tI) [(1 : Int), (2 : Int), (3 : Int), (4 : Int), (0 : Int)], .one (.ptr 13 0)], aD (.arr 5 tI) r45), (49, [aD (.arr 5 tI) [(2 : Int), (4 : Int), (1 : Int), (0 : Int), (3 : Int)], .one (.ptr 13 0)], aD (.arr 5 tI) r47)]) (by kernel_rfl) (by kernel_rfl) (by kernel_rfl) (by kernel_rfl) (allP2 trivial (allP1 trivial)) (allD2 [(1000, 13)] _ _ (by kernel_rfl) (wide_both_1_ok h46) (by kernel_rfl) (by kernel_rfl) (by kernel_rfl) (by kernel_rfl) (allD2 [(1000, 13)] _ _ (by kernel_rfl) (wide_both_1_ok h48) (by kernel_rfl) (by kernel_rfl) (by kernel_rfl) (by kernel_rfl) allD0)) (by kernel_rfl) (allP2 trivial (allP1 trivial)) ?_
  refine seqQ_norm ?_
  refine W_seq (by kernel_rfl) ?_
  refine W_run 1 [] [0, 1, 2, 4, 11, 12, 15] [11, 12] (fr' := [(0, aD (.slice (.pair tI (.pair tI tI))) a0), (1, aI a1), (2, aI a2), (4, aB a4), (11, .one (.ptr 11 0)), (12, .one (.ptr 12 0)), (15, .one (.nilS))]) (L' := [(11, .one (.arr 5 tI) r45), (12, .one (.arr 5 tI) r47)]) (obs := []) (by kernel_rfl) (by kernel_rfl) (by kernel_rfl) allP0 ?_
  refine seqQ_norm ?_
  refine W_seq (by kernel_rfl) ?_
  refine W_region (by kernel_rfl) ?_
  refine WO_run (j := 5) (k := 5) (orcs := []) (kF := [0, 1, 2, 4, 11, 12, 15, 36, 37, 38, 39, 40]) (kL := [11, 12]) (fr' := [(0, aD (.slice (.pair tI (.pair tI tI))) a0), (1, aI a1), (2, aI a2), (4, aB a4), (11, .one (.ptr 11 0)), (12, .one (.ptr 12 0)), (15, .one (.nilS)), (36, .one (.nilS)), (37, aD (.slice (.pair tI (.pair tI tI))) a0), (38, aI a1), (39, aD (.arr 5 tI) r45), (40, aB a4)]) (L' := [(11, .one (.arr 5 tI) r45), (12, .one (.arr 5 tI) r47)]) (obs := []) rfl (by kernel_rfl) allP0 ?_
  obtain ⟨r49, h50, h⟩ := bind_of h
  refine WO_call0 (us := [none, none, none, none]) (d := 41) (p := True) (j := 6) rfl ⟨by kernel_rfl, by kernel_rfl, by kernel_rfl⟩ trivial ((wide_side_ok ih_wide_build) h50) (by kernel_rfl) ?_
  obtain ⟨_, h51, h⟩ := bind_of h
  replace h51 := ck_some h51
  refine WO_run (j := 8) (k := 2) (orcs := []) (kF := [0, 1, 2, 4, 11, 12, 15]) (kL := [11, 12, 42]) (fr' := [(0, aD (.slice (.pair tI (.pair tI tI))) a0), (1, aI a1), (2, aI a2), (4, aB a4), (11, .one (.ptr 11 0)), (12, .one (.ptr 12 0)), (15, .one (.slc 42))]) (L' := [(11, .one (.arr 5 tI) r45), (12, .one (.arr 5 tI) r47), (42, .seq (.pair tI (.pair (.arr 5 tI) (.arr 5 tI))) r49)]) (obs := [SmallLen (List.length r49)]) rfl (by kernel_rfl) (allP1 h51) ?_
  refine WO_fin [0, 1, 2, 4, 11, 12, 15] [11, 12, 42] (fr' := [(0, aD (.slice (.pair tI (.pair tI tI))) a0), (1, aI a1), (2, aI a2), (4, aB a4), (11, .one (.ptr 11 0)), (12, .one (.ptr 12 0)), (15, .one (.slc 42))]) (L' := [(11, .one (.arr 5 tI) r45), (12, .one (.arr 5 tI) r47), (42, .seq (.pair tI (.pair (.arr 5 tI) (.arr 5 tI))) r49)]) (by kernel_rfl) (by kernel_rfl) ?_
  refine seqQ_norm ?_
  refine W_seq (by kernel_rfl) ?_
  refine W_region (by kernel_rfl) ?_
  refine WO_run (j := 5) (k := 5) (orcs := []) (kF := [0, 1, 2, 4, 11, 12, 15, 43, 44, 45, 46, 47]) (kL := [11, 12, 42]) (fr' := [(0, aD (.slice (.pair tI (.pair tI tI))) a0), (1, aI a1), (2, aI a2), (4, aB a4), (11, .one (.ptr 11 0)), (12, .one (.ptr 12 0)), (15, .one (.slc 42)), (43, .one (.slc 42)), (44, aD (.slice (.pair tI (.pair tI tI))) a0), (45, aI a2), (46, aD (.arr 5 tI) r47), (47, aB a4)]) (L' := [(11, .one (.arr 5 tI) r45), (12, .one (.arr 5 tI) r47), (42, .seq (.pair tI (.pair (.arr 5 tI) (.arr 5 tI))) r49)]) (obs := []) rfl (by kernel_rfl) allP0 ?_
  obtain ⟨r52, h53, h⟩ := bind_of h
  refine WO_call0 (us := [none, none, none, none]) (d := 48) (p := True) (j := 6) rfl ⟨by kernel_rfl, by kernel_rfl, by kernel_rfl⟩ trivial ((wide_side_ok ih_wide_build) h53) (by kernel_rfl) ?_
  obtain ⟨_, h54, h⟩ := bind_of h
  replace h54 := ck_some h54
  refine WO_run (j := 8) (k := 2) (orcs := []) (kF := [0, 1, 2, 4, 11, 12, 15]) (kL := [11, 12, 42]) (fr' := [(0, aD (.slice (.pair tI (.pair tI tI))) a0), (1, aI a1), (2, aI a2), (4, aB a4), (11, .one (.ptr 11 0)), (12, .one (.ptr 12 0)), (15, .one (.slc 42))]) (L' := [(11, .one (.arr 5 tI) r45), (12, .one (.arr 5 tI) r47), (42, .seq (.pair tI (.pair (.arr 5 tI) (.arr 5 tI))) (r49 ++ r52))]) (obs := [SmallLen (List.length r49 + List.length r52)]) rfl (by kernel_rfl) (allP1 h54) ?_
  refine WO_fin [0, 1, 2, 4, 11, 12, 15] [11, 12, 42] (fr' := [(0, aD (.slice (.pair tI (.pair tI tI))) a0), (1, aI a1), (2, aI a2), (4, aB a4), (11, .one (.ptr 11 0)), (12, .one (.ptr 12 0)), (15, .one (.slc 42))]) (L' := [(11, .one (.arr 5 tI) r45), (12, .one (.arr 5 tI) r47), (42, .seq (.pair tI (.pair (.arr 5 tI) (.arr 5 tI))) (r49 ++ r52))]) (by kernel_rfl) (by kernel_rfl) ?_
  refine seqQ_norm ?_
  refine W_seq (by kernel_rfl) ?_
  refine W_region (by kernel_rfl) ?_
  refine WO_run (j := 4) (k := 4) (orcs := []) (kF := [0, 2, 4, 12, 15, 50, 51, 52, 53]) (kL := [11, 12, 42]) (fr' := [(0, aD (.slice (.pair tI (.pair tI tI))) a0), (2, aI a2), (4, aB a4), (12, .one (.ptr 12 0)), (15, .one (.slc 42)), (50, .one (.slc 42)), (51, aD (.slice (.pair tI (.pair tI tI))) a0), (52, aI a1), (53, aD (.arr 5 tI) r45)]) (L' := [(11, .one (.arr 5 tI) r45), (12, .one (.arr 5 tI) r47), (42, .seq (.pair tI (.pair (.arr 5 tI) (.arr 5 tI))) (r49 ++ r52))]) (obs := []) rfl (by kernel_rfl) allP0 ?_
  obtain ⟨r55, h56, h⟩ := bind_of h
  refine WO_call0 (us := [none]) (d := 54) (p := True) (j := 5) rfl ⟨by kernel_rfl, by kernel_rfl, by kernel_rfl⟩ trivial (wide_back_ok h56) (by kernel_rfl) ?_
  refine WO_run (j := 6) (k := 1) (orcs := []) (kF := [0, 2, 4, 12, 15, 50, 51, 52, 54, 55]) (kL := [11, 12, 42]) (fr' := [(0, aD (.slice (.pair tI (.pair tI tI))) a0), (2, aI a2), (4, aB a4), (12, .one (.ptr 12 0)), (15, .one (.slc 42)), (50, .one (.slc 42)), (51, aD (.slice (.pair tI (.pair tI tI))) a0), (52, aI a1), (54, aD (.arr 5 tI) r55), (55, aB a4)]) (L' := [(11, .one (.arr 5 tI) r45), (12, .one (.arr 5 tI) r47), (42, .seq (.pair tI (.pair (.arr 5 tI) (.arr 5 tI))) (r49 ++ r52))]) (obs := []) rfl (by kernel_rfl) allP0 ?_
  obtain ⟨r57, h58, h⟩ := bind_of h
  refine WO_call0 (us := [none, none, none, none]) (d := 56) (p := True) (j := 7) rfl ⟨by kernel_rfl, by kernel_rfl, by kernel_rfl⟩ trivial ((wide_side_ok ih_wide_build) h58) (by kernel_rfl) ?_
  obtain ⟨_, h59, h⟩ := bind_of h
  replace h59 := ck_some h59
  refine WO_run (j := 9) (k := 2) (orcs := []) (kF := [0, 2, 4, 12, 15]) (kL := [11, 12, 42]) (fr' := [(0, aD (.slice (.pair tI (.pair tI tI))) a0), (2, aI a2), (4, aB a4), (12, .one (.ptr 12 0)), (15, .one (.slc 42))]) (L' := [(11, .one (.arr 5 tI) r45), (12, .one (.arr 5 tI) r47), (42, .seq (.pair tI (.pair (.arr 5 tI) (.arr 5 tI))) ((r49 ++ r52) ++ r57))]) (obs := [SmallLen (List.length (r49 ++ r52) + List.length r57)]) rfl (by kernel_rfl) (allP1 h59) ?_
  refine WO_fin [0, 2, 4, 12, 15] [12, 42] (fr' := [(0, aD (.slice (.pair tI (.pair tI tI))) a0), (2, aI a2), (4, aB a4), (12, .one (.ptr 12 0)), (15, .one (.slc 42))]) (L' := [(12, .one (.arr 5 tI) r47), (42, .seq (.pair tI (.pair (.arr 5 tI) (.arr 5 tI))) ((r49 ++ r52) ++ r57))]) (by kernel_rfl) (by kernel_rfl) ?_
  refine seqQ_norm ?_
  refine W_seq (by kernel_rfl) ?_
  refine W_region (by kernel_rfl) ?_
  refine WO_run (j := 4) (k := 4) (orcs := []) (kF := [4, 58, 59, 60, 61]) (kL := [12, 42]) (fr' := [(4, aB a4), (58, .one (.slc 42)), (59, aD (.slice (.pair tI (.pair tI tI))) a0), (60, aI a2), (61, aD (.arr 5 tI) r47)]) (L' := [(12, .one (.arr 5 tI) r47), (42, .seq (.pair tI (.pair (.arr 5 tI) (.arr 5 tI))) ((r49 ++ r52) ++ r57))]) (obs := []) rfl (by kernel_rfl) allP0 ?_
  obtain ⟨r60, h61, h⟩ := bind_of h
  refine WO_call0 (us := [none]) (d := 62) (p := True) (j := 5) rfl ⟨by kernel_rfl, by kernel_rfl, by kernel_rfl⟩ trivial (wide_back_ok h61) (by kernel_rfl) ?_
  refine WO_run (j := 6) (k := 1) (orcs := []) (kF := [58, 59, 60, 62, 63]) (kL := [12, 42]) (fr' := [(58, .one (.slc 42)), (59, aD (.slice (.pair tI (.pair tI tI))) a0), (60, aI a2), (62, aD (.arr 5 tI) r60), (63, aB a4)]) (L' := [(12, .one (.arr 5 tI) r47), (42, .seq (.pair tI (.pair (.arr 5 tI) (.arr 5 tI))) ((r49 ++ r52) ++ r57))]) (obs := []) rfl (by kernel_rfl) allP0 ?_
  obtain ⟨r62, h63, h⟩ := bind_of h
  refine WO_call0 (us := [none, none, none, none]) (d := 64) (p := True) (j := 7) rfl ⟨by kernel_rfl, by kernel_rfl, by kernel_rfl⟩ trivial ((wide_side_ok ih_wide_build) h63) (by kernel_rfl) ?_
  obtain ⟨_, h64, h⟩ := bind_of h
  replace h64 := ck_some h64
  refine WO_run (j := 9) (k := 2) (orcs := []) (kF := [10]) (kL := [12, 42]) (fr' := [(10, .one (.slc 42))]) (L' := [(12, .one (.arr 5 tI) r47), (42, .seq (.pair tI (.pair (.arr 5 tI) (.arr 5 tI))) (((r49 ++ r52) ++ r57) ++ r62))]) (obs := [SmallLen (List.length ((r49 ++ r52) ++ r57) + List.length r62)]) rfl (by kernel_rfl) (allP1 h64) ?_
  refine WO_fin [10] [42] (fr' := [(10, .one (.slc 42))]) (L' := [(42, .seq (.pair tI (.pair (.arr 5 tI) (.arr 5 tI))) (((r49 ++ r52) ++ r57) ++ r62))]) (by kernel_rfl) (by kernel_rfl) ?_
  refine seqQ_norm ?_
  obtain rfl := Option.some.inj h
  refine W_ret [10] [42] (fr' := [(10, .one (.slc 42))]) (L' := [(42, .seq (.pair tI (.pair (.arr 5 tI) (.arr 5 tI))) (((r49 ++ r52) ++ r57) ++ r62))]) (by kernel_rfl) (by kernel_rfl) ?_
  exact retQ_mk (by kernel_rfl) (by kernel_rfl) (by kernel_rfl)

def wide_build_step (rf_wide_build : (List (Int × (Int × Int))) → Int → (List Int) → Option (List (Int × ((List Int) × (List Int))))) (fuel : Nat) (a0 : (List (Int × (Int × Int)))) (a1 : Int) (a2 : (List Int)) : Option (List (Int × ((List Int) × (List Int)))) :=
(idx a0 a1).bind fun v13 =>
bif v13.1 == (1 : Int) then
(some [(v13.2.1, [(0 : Int), (1 : Int), (2 : Int), (3 : Int), (4 : Int)], a2)])
else
(bif v13.1 == (2 : Int) then
((wide_back a2).bind fun r25 =>
(rf_wide_build a0 v13.2.1 r25).bind fun r27 =>
(wide_behind_i2 a2 r27).bind fun r29 =>
some r29.2)
else
(bif v13.1 == (3 : Int) then
((wide_both rf_wide_build a0 v13.2.1 v13.2.2 a2 false).bind fun r32 =>
some r32)
else
((wide_back a2).bind fun r42 =>
(wide_both rf_wide_build a0 v13.2.1 v13.2.2 r42 true).bind fun r44 =>
(wide_behind_i2 a2 r44).bind fun r46 =>
some r46.2)))
def wide_build : Nat → (List (Int × (Int × Int))) → Int → (List Int) → Option (List (Int × ((List Int) × (List Int))))
  | 0 => fun _ _ _ => none
  | fuel + 1 => fun a0 a1 a2 => wide_build_step (wide_build fuel) fuel a0 a1 a2
theorem wide_build_step_ok {rf_wide_build : (List (Int × (Int × Int))) → Int → (List Int) → Option (List (Int × ((List Int) × (List Int))))} (ih_wide_build : ∀ {a0 : (List (Int × (Int × Int)))} {a1 : Int} {a2 : (List Int)} {r : (List (Int × ((List Int) × (List Int))))}, rf_wide_build a0 a1 a2 = some r → FnC Try.prog 38 [aD (.slice (.pair tI (.pair tI tI))) a0, aI a1, aD (.arr 5 tI) a2] [] (.one (.slc 899)) [(899, .seq (.pair tI (.pair (.arr 5 tI) (.arr 5 tI))) r)]) {fuel : Nat} {a0 : (List (Int × (Int × Int)))} {a1 : Int} {a2 : (List Int)} {r : (List (Int × ((List Int) × (List Int))))} (h : wide_build_step rf_wide_build fuel a0 a1 a2 = some r) : FnC Try.prog 38 [aD (.slice (.pair tI (.pair tI tI))) a0, aI a1, aD (.arr 5 tI) a2] [] (.one (.slc 899)) [(899, .seq (.pair tI (.pair (.arr 5 tI) (.arr 5 tI))) r)] := by
  refine fnC_of_W (B := bodyOf Try.f38) (n := 53) Try.func38 (by kernel_rfl) (by kernel_rfl) (by kernel_rfl) (by kernel_rfl) (by kernel_rfl) ?_
  intro K
  refine W_seq (by kernel_rfl) ?_
  refine W_run 2 [] [0, 1, 5] [5] (fr' := [(0, aD (.slice (.pair tI (.pair tI tI))) a0), (1, aI a1), (5, .one (.ptr 5 0))]) (L' := [(5, .one (.arr 5 tI) a2)]) (obs := []) (by kernel_rfl) (by kernel_rfl) (by kernel_rfl) allP0 ?_
  refine seqQ_norm ?_
  refine W_seq (by kernel_rfl) ?_
  obtain ⟨v13, h14, h⟩ := bind_of h
  refine W_run 6 [(5, .val (.dat (.pair tI (.pair tI tI)) v13)), (9, .typed)] [0, 5, 7] [5, 7] (fr' := [(0, aD (.slice (.pair tI (.pair tI tI))) a0), (5, .one (.ptr 5 0)), (7, .one (.ptr 7 0))]) (L' := [(5, .one (.arr 5 tI) a2), (7, .one (.pair tI (.pair tI tI)) v13)]) (obs := [Idx a0 a1 v13, True]) (by kernel_rfl) (by kernel_rfl) (by kernel_rfl) (allP2 (Idx.of h14) (allP1 trivial)) ?_
  refine seqQ_norm ?_
  refine W_seq (by kernel_rfl) ?_
  refine W_run 3 [(3, .typed)] [0, 5, 7, 8] [5, 7, 8] (fr' := [(0, aD (.slice (.pair tI (.pair tI tI))) a0), (5, .one (.ptr 5 0)), (7, .one (.ptr 7 0)), (8, .one (.ptr 8 0))]) (L' := [(5, .one (.arr 5 tI) a2), (7, .one (.pair tI (.pair tI tI)) v13), (8, .one (.arr 5 tI) [(0 : Int), (1 : Int), (2 : Int), (3 : Int), (4 : Int)])]) (obs := [True]) (by kernel_rfl) (by kernel_rfl) (by kernel_rfl) (allP1 trivial) ?_
  refine seqQ_norm ?_
  refine W_seq (by kernel_rfl) ?_
  refine W_seq (by kernel_rfl) ?_
  refine W_run 2 [] [0, 5, 7, 8, 15] [5, 7, 8] (fr' := [(0, aD (.slice (.pair tI (.pair tI tI))) a0), (5, .one (.ptr 5 0)), (7, .one (.ptr 7 0)), (8, .one (.ptr 8 0)), (15, aI v13.1)]) (L' := [(5, .one (.arr 5 tI) a2), (7, .one (.pair tI (.pair tI tI)) v13), (8, .one (.arr 5 tI) [(0 : Int), (1 : Int), (2 : Int), (3 : Int), (4 : Int)])]) (obs := []) (by kernel_rfl) (by kernel_rfl) (by kernel_rfl) allP0 ?_
  refine seqQ_norm ?_
  refine W_block (id := 0) (by kernel_rfl) ?_
  refine W_seq (by kernel_rfl) ?_
  refine W_run 2 [] [0, 5, 7, 8, 15, 16] [5, 7, 8] (fr' := [(0, aD (.slice (.pair tI (.pair tI tI))) a0), (5, .one (.ptr 5 0)), (7, .one (.ptr 7 0)), (8, .one (.ptr 8 0)), (15, aI v13.1), (16, aB (v13.1 == (1 : Int)))]) (L' := [(5, .one (.arr 5 tI) a2), (7, .one (.pair tI (.pair tI tI)) v13), (8, .one (.arr 5 tI) [(0 : Int), (1 : Int), (2 : Int), (3 : Int), (4 : Int)])]) (obs := []) (by kernel_rfl) (by kernel_rfl) (by kernel_rfl) allP0 ?_
  refine seqQ_norm ?_
  refine W_cond (o := .tmp 16) (b := v13.1 == (1 : Int)) (by kernel_rfl) (by kernel_rfl) (fun h15 => ?_) (fun h15 => ?_)
  · replace h := ofT h15 h
    refine W_seq (by kernel_rfl) ?_
    refine W_run 7 [] [6] [23] (fr' := [(6, .one (.slc 23))]) (L' := [(23, .seq (.pair tI (.pair (.arr 5 tI) (.arr 5 tI))) [(v13.2.1, [(0 : Int), (1 : Int), (2 : Int), (3 : Int), (4 : Int)], a2)])]) (obs := []) (by kernel_rfl) (by kernel_rfl) (by kernel_rfl) allP0 ?_
    refine seqQ_norm ?_
    obtain rfl := Option.some.inj h
    refine W_ren 23 899 (by kernel_rfl) ?_
    refine W_ret [6] [899] (fr' := [(6, .one (.slc 899))]) (L' := [(899, .seq (.pair tI (.pair (.arr 5 tI) (.arr 5 tI))) [(v13.2.1, [(0 : Int), (1 : Int), (2 : Int), (3 : Int), (4 : Int)], a2)])]) (by kernel_rfl) (by kernel_rfl) ?_
    refine blockQ_ret ?_
    refine seqQ_ret ?_
    exact retQ_mk (by kernel_rfl) (by kernel_rfl) (by kernel_rfl)
  · replace h := ofF h15 h
    refine W_seq (by kernel_rfl) ?_
    refine W_run 2 [] [0, 5, 7, 15, 24] [5, 7] (fr' := [(0, aD (.slice (.pair tI (.pair tI tI))) a0), (5, .one (.ptr 5 0)), (7, .one (.ptr 7 0)), (15, aI v13.1), (24, aB (v13.1 == (2 : Int)))]) (L' := [(5, .one (.arr 5 tI) a2), (7, .one (.pair tI (.pair tI tI)) v13)]) (obs := []) (by kernel_rfl) (by kernel_rfl) (by kernel_rfl) allP0 ?_
    refine seqQ_norm ?_
    refine W_cond (o := .tmp 24) (b := v13.1 == (2 : Int)) (by kernel_rfl) (by kernel_rfl) (fun h16 => ?_) (fun h16 => ?_)
    · replace h := ofT h16 h
      refine W_seq (by kernel_rfl) ?_
      obtain ⟨r25, h26, h⟩ := bind_of h
      obtain ⟨r27, h28, h⟩ := bind_of h
      refine W_drawC5 7 [(5, [31], [(31, .seq (.pair tI (.pair (.arr 5 tI) (.arr 5 tI))) r27)])] [] [(5, .one (.slc 31))] [] [(4, [none], aD (.arr 5 tI) r25)] [31, 32] [5, 7, 31] (out := [(26, aD (.slice (.pair tI (.pair tI tI))) a0), (27, .one (.ptr 7 1)), (28, aI v13.2.1), (29, aD (.arr 5 tI) a2), (30, aD (.arr 5 tI) r25), (31, .one (.slc 31)), (32, aD (.arr 5 tI) a2)]) (obs := [True]) (calls := [(44, [aD (.arr 5 tI) a2], aD (.arr 5 tI) r25)]) (fr' := [(31, .one (.slc 31)), (32, aD (.arr 5 tI) a2)]) (L' := [(5, .one (.arr 5 tI) a2), (7, .one (.pair tI (.pair tI tI)) v13), (31, .seq (.pair tI (.pair (.arr 5 tI) (.arr 5 tI))) r27)]) (by kernel_rfl) (by kernel_rfl) (by kernel_rfl) (by kernel_rfl) (by kernel_rfl) (allP1 trivial) (allD2 [] _ _ (by kernel_rfl) (wide_back_ok h26) (by kernel_rfl) (by kernel_rfl) (by kernel_rfl) (by kernel_rfl) allD0) (chCall (us := [none, none, none]) (d := 31) (t := 31) (p := True) ⟨by kernel_rfl, by kernel_rfl, by kernel_rfl⟩ trivial (ih_wide_build h28) (by kernel_rfl) (by kernel_rfl) chNil) mkNil (by kernel_rfl) ?_
      obtain ⟨r29, h30, h⟩ := bind_of h
      refine WO_lend2 [(2000, 31)] (us := [none, none]) (d := 33) (p := True) (j := 8) rfl ⟨by kernel_rfl, by kernel_rfl, by kernel_rfl⟩ trivial (wide_behind_i2_ok h30) (by kernel_rfl) (by kernel_rfl) ?_
      refine WO_run (j := 9) (k := 1) (orcs := []) (kF := [6]) (kL := [5, 7, 31]) (fr' := [(6, .one (.slc 31))]) (L' := [(5, .one (.arr 5 tI) a2), (7, .one (.pair tI (.pair tI tI)) v13), (31, .seq (.pair tI (.pair (.arr 5 tI) (.arr 5 tI))) r29.2)]) (obs := []) rfl (by kernel_rfl) allP0 ?_
      refine WO_fin [6] [31] (fr' := [(6, .one (.slc 31))]) (L' := [(31, .seq (.pair tI (.pair (.arr 5 tI) (.arr 5 tI))) r29.2)]) (by kernel_rfl) (by kernel_rfl) ?_
      refine ⟨rfl, ?_⟩
      refine seqQ_norm ?_
      obtain rfl := Option.some.inj h
      refine W_ren 31 899 (by kernel_rfl) ?_
      refine W_ret [6] [899] (fr' := [(6, .one (.slc 899))]) (L' := [(899, .seq (.pair tI (.pair (.arr 5 tI) (.arr 5 tI))) r29.2)]) (by kernel_rfl) (by kernel_rfl) ?_
      refine blockQ_ret ?_
      refine seqQ_ret ?_
      exact retQ_mk (by kernel_rfl) (by kernel_rfl) (by kernel_rfl)
    · replace h := ofF h16 h
      refine W_seq (by kernel_rfl) ?_
      refine W_run 2 [] [0, 5, 7, 34] [5, 7] (fr' := [(0, aD (.slice (.pair tI (.pair tI tI))) a0), (5, .one (.ptr 5 0)), (7, .one (.ptr 7 0)), (34, aB (v13.1 == (3 : Int)))]) (L' := [(5, .one (.arr 5 tI) a2), (7, .one (.pair tI (.pair tI tI)) v13)]) (obs := []) (by kernel_rfl) (by kernel_rfl) (by kernel_rfl) allP0 ?_
      refine seqQ_norm ?_
      refine W_cond (o := .tmp 34) (b := v13.1 == (3 : Int)) (by kernel_rfl) (by kernel_rfl) (fun h31 => ?_) (fun h31 => ?_)
      · replace h := ofT h31 h
        refine W_seq (by kernel_rfl) ?_
        refine W_region (by kernel_rfl) ?_
        refine WO_run (j := 6) (k := 6) (orcs := []) (kF := [36, 38, 40, 41]) (kL := [5, 7]) (fr' := [(36, aD (.slice (.pair tI (.pair tI tI))) a0), (38, aI v13.2.1), (40, aI v13.2.2), (41, aD (.arr 5 tI) a2)]) (L' := [(5, .one (.arr 5 tI) a2), (7, .one (.pair tI (.pair tI tI)) v13)]) (obs := []) rfl (by kernel_rfl) allP0 ?_
        obtain ⟨r32, h33, h⟩ := bind_of h
        refine WO_call1 (us := [none, none, none, none, none]) (d := 42) (t := 42) (p := True) (j := 7) rfl ⟨by kernel_rfl, by kernel_rfl, by kernel_rfl⟩ trivial ((wide_both_ok ih_wide_build) h33) (by kernel_rfl) ?_
        refine WO_run (j := 8) (k := 1) (orcs := []) (kF := [6]) (kL := [5, 7, 42]) (fr' := [(6, .one (.slc 42))]) (L' := [(5, .one (.arr 5 tI) a2), (7, .one (.pair tI (.pair tI tI)) v13), (42, .seq (.pair tI (.pair (.arr 5 tI) (.arr 5 tI))) r32)]) (obs := []) rfl (by kernel_rfl) allP0 ?_
        refine WO_fin [6] [42] (fr' := [(6, .one (.slc 42))]) (L' := [(42, .seq (.pair tI (.pair (.arr 5 tI) (.arr 5 tI))) r32)]) (by kernel_rfl) (by kernel_rfl) ?_
        refine seqQ_norm ?_
        obtain rfl := Option.some.inj h
        refine W_ren 42 899 (by kernel_rfl) ?_
        refine W_ret [6] [899] (fr' := [(6, .one (.slc 899))]) (L' := [(899, .seq (.pair tI (.pair (.arr 5 tI) (.arr 5 tI))) r32)]) (by kernel_rfl) (by kernel_rfl) ?_
        refine blockQ_ret ?_
        refine seqQ_ret ?_
        exact retQ_mk (by kernel_rfl) (by kernel_rfl) (by kernel_rfl)
      · replace h := ofF h31 h
        refine W_skip [0, 5, 7] [5, 7] (fr' := [(0, aD (.slice (.pair tI (.pair tI tI))) a0), (5, .one (.ptr 5 0)), (7, .one (.ptr 7 0))]) (L' := [(5, .one (.arr 5 tI) a2), (7, .one (.pair tI (.pair tI tI)) v13)]) (by kernel_rfl) (by kernel_rfl) ?_
        refine blockQ_norm ?_
        refine seqQ_norm ?_
        refine W_seq (by kernel_rfl) ?_
        obtain ⟨r42, h43, h⟩ := bind_of h
        obtain ⟨r44, h45, h⟩ := bind_of h
        refine W_drawC5 9 [(7, [50], [(50, .seq (.pair tI (.pair (.arr 5 tI) (.arr 5 tI))) r44)])] [] [(7, .one (.slc 50))] [] [(6, [none], aD (.arr 5 tI) r42)] [50, 51] [5, 7, 50] (out := [(43, aD (.slice (.pair tI (.pair tI tI))) a0), (44, .one (.ptr 7 1)), (45, aI v13.2.1), (46, .one (.ptr 7 2)), (47, aI v13.2.2), (48, aD (.arr 5 tI) a2), (49, aD (.arr 5 tI) r42), (50, .one (.slc 50)), (51, aD (.arr 5 tI) a2)]) (obs := [True]) (calls := [(44, [aD (.arr 5 tI) a2], aD (.arr 5 tI) r42)]) (fr' := [(50, .one (.slc 50)), (51, aD (.arr 5 tI) a2)]) (L' := [(5, .one (.arr 5 tI) a2), (7, .one (.pair tI (.pair tI tI)) v13), (50, .seq (.pair tI (.pair (.arr 5 tI) (.arr 5 tI))) r44)]) (by kernel_rfl) (by kernel_rfl) (by kernel_rfl) (by kernel_rfl) (by kernel_rfl) (allP1 trivial) (allD2 [] _ _ (by kernel_rfl) (wide_back_ok h43) (by kernel_rfl) (by kernel_rfl) (by kernel_rfl) (by kernel_rfl) allD0) (chCall (us := [none, none, none, none, none]) (d := 50) (t := 50) (p := True) ⟨by kernel_rfl, by kernel_rfl, by kernel_rfl⟩ trivial ((wide_both_ok ih_wide_build) h45) (by kernel_rfl) (by kernel_rfl) chNil) mkNil (by kernel_rfl) ?_
        obtain ⟨r46, h47, h⟩ := bind_of h
        refine WO_lend2 [(2000, 50)] (us := [none, none]) (d := 52) (p := True) (j := 10) rfl ⟨by kernel_rfl, by kernel_rfl, by kernel_rfl⟩ trivial (wide_behind_i2_ok h47) (by kernel_rfl) (by kernel_rfl) ?_
        refine WO_run (j := 11) (k := 1) (orcs := []) (kF := [6]) (kL := [5, 7, 50]) (fr' := [(6, .one (.slc 50))]) (L' := [(5, .one (.arr 5 tI) a2), (7, .one (.pair tI (.pair tI tI)) v13), (50, .seq (.pair tI (.pair (.arr 5 tI) (.arr 5 tI))) r46.2)]) (obs := []) rfl (by kernel_rfl) allP0 ?_
        refine WO_fin [6] [50] (fr' := [(6, .one (.slc 50))]) (L' := [(50, .seq (.pair tI (.pair (.arr 5 tI) (.arr 5 tI))) r46.2)]) (by kernel_rfl) (by kernel_rfl) ?_
        refine ⟨rfl, ?_⟩
        refine seqQ_norm ?_
        obtain rfl := Option.some.inj h
        refine W_ren 50 899 (by kernel_rfl) ?_
        refine W_ret [6] [899] (fr' := [(6, .one (.slc 899))]) (L' := [(899, .seq (.pair tI (.pair (.arr 5 tI) (.arr 5 tI))) r46.2)]) (by kernel_rfl) (by kernel_rfl) ?_
        exact retQ_mk (by kernel_rfl) (by kernel_rfl) (by kernel_rfl)
theorem wide_build_ok : ∀ {fuel : Nat} {a0 : (List (Int × (Int × Int)))} {a1 : Int} {a2 : (List Int)} {r : (List (Int × ((List Int) × (List Int))))}, wide_build fuel a0 a1 a2 = some r → FnC Try.prog 38 [aD (.slice (.pair tI (.pair tI tI))) a0, aI a1, aD (.arr 5 tI) a2] [] (.one (.slc 899)) [(899, .seq (.pair tI (.pair (.arr 5 tI) (.arr 5 tI))) r)] := by
  intro fuel
  induction fuel with
  | zero => intros a0 a1 a2 r h; cases h
  | succ fuel ih => intros a0 a1 a2 r h; exact wide_build_step_ok (fun h => ih h) (show wide_build_step (wide_build fuel) fuel a0 a1 a2 = some r from h)

def wide_Build (fuel : Nat) (a0 : Int) (a1 : (List (Int × (Int × Int)))) : Option ((List (Int × ((List Int) × (List Int)))) × Int) :=
(gate_Deep a0 a1).bind fun r1 =>
bif r1.2 != (0 : Int) then
(some ([], r1.2))
else
(bif decide (r1.1 > (4 : Int)) then
(some ([], (7 : Int)))
else
((wide_build fuel a1 (w64 ((List.length a1 : Int) - (1 : Int))) [(1 : Int), (2 : Int), (3 : Int), (4 : Int), (0 : Int)]).bind fun r5 =>
some (r5, (0 : Int))))
theorem wide_Build_ok {fuel : Nat} {a0 : Int} {a1 : (List (Int × (Int × Int)))} {r : ((List (Int × ((List Int) × (List Int)))) × Int)} (h : wide_Build fuel a0 a1 = some r) : FnC Try.prog 23 [aI a0, aD (.slice (.pair tI (.pair tI tI))) a1] [] (.tup [.dat (.slice (.pair tI (.pair (.arr 5 tI) (.arr 5 tI)))) r.1, .dat tI r.2]) [] := by
  refine fnC_of_W (B := bodyOf Try.f23) (n := 25) Try.func23 (by kernel_rfl) (by kernel_rfl) (by kernel_rfl) (by kernel_rfl) (by kernel_rfl) ?_
  intro K
  refine W_seq (by kernel_rfl) ?_
  refine W_run 2 [] [0, 1] [] (fr' := [(0, aI a0), (1, aD (.slice (.pair tI (.pair tI tI))) a1)]) (L' := []) (obs := []) (by kernel_rfl) (by kernel_rfl) (by kernel_rfl) allP0 ?_
  refine seqQ_norm ?_
  refine W_seq (by kernel_rfl) ?_
  refine W_region (by kernel_rfl) ?_
  refine WO_run (j := 2) (k := 2) (orcs := []) (kF := [1, 9, 10]) (kL := []) (fr' := [(1, aD (.slice (.pair tI (.pair tI tI))) a1), (9, aI a0), (10, aD (.slice (.pair tI (.pair tI tI))) a1)]) (L' := []) (obs := []) rfl (by kernel_rfl) allP0 ?_
  obtain ⟨r1, h2, h⟩ := bind_of h
  refine WO_call0 (us := [none, none]) (d := 11) (p := True) (j := 3) rfl ⟨by kernel_rfl, by kernel_rfl, by kernel_rfl⟩ trivial (gate_Deep_ok h2) (by kernel_rfl) ?_
  refine WO_run (j := 8) (k := 5) (orcs := []) (kF := [1, 6, 7]) (kL := []) (fr' := [(1, aD (.slice (.pair tI (.pair tI tI))) a1), (6, aI r1.1), (7, aI r1.2)]) (L' := []) (obs := []) rfl (by kernel_rfl) allP0 ?_
  refine WO_fin [1, 6, 7] [] (fr' := [(1, aD (.slice (.pair tI (.pair tI tI))) a1), (6, aI r1.1), (7, aI r1.2)]) (L' := []) (by kernel_rfl) (by kernel_rfl) ?_
  refine seqQ_norm ?_
  refine W_seq (by kernel_rfl) ?_
  refine W_seq (by kernel_rfl) ?_
  refine W_run 2 [] [1, 6, 7, 15] [] (fr' := [(1, aD (.slice (.pair tI (.pair tI tI))) a1), (6, aI r1.1), (7, aI r1.2), (15, aB (r1.2 != (0 : Int)))]) (L' := []) (obs := []) (by kernel_rfl) (by kernel_rfl) (by kernel_rfl) allP0 ?_
  refine seqQ_norm ?_
  refine W_cond (o := .tmp 15) (b := r1.2 != (0 : Int)) (by kernel_rfl) (by kernel_rfl) (fun h3 => ?_) (fun h3 => ?_)
  · replace h := ofT h3 h
    refine W_seq (by kernel_rfl) ?_
    refine W_run 3 [] [4, 5] [] (fr' := [(4, .one (.nilS)), (5, aI r1.2)]) (L' := []) (obs := []) (by kernel_rfl) (by kernel_rfl) (by kernel_rfl) allP0 ?_
    refine seqQ_norm ?_
    obtain rfl := Option.some.inj h
    refine W_cnv 4 (.slice (.pair tI (.pair (.arr 5 tI) (.arr 5 tI)))) (by kernel_rfl) ?_
    refine W_ret [4, 5] [] (fr' := [(4, aD (.slice (.pair tI (.pair (.arr 5 tI) (.arr 5 tI)))) []), (5, aI r1.2)]) (L' := []) (by kernel_rfl) (by kernel_rfl) ?_
    refine seqQ_ret ?_
    exact retQ_mk (by kernel_rfl) (by kernel_rfl) (by kernel_rfl)
  · replace h := ofF h3 h
    refine W_skip [1, 6] [] (fr' := [(1, aD (.slice (.pair tI (.pair tI tI))) a1), (6, aI r1.1)]) (L' := []) (by kernel_rfl) (by kernel_rfl) ?_
    refine seqQ_norm ?_
    refine W_seq (by kernel_rfl) ?_
    refine W_seq (by kernel_rfl) ?_
    refine W_run 2 [] [1, 18] [] (fr' := [(1, aD (.slice (.pair tI (.pair tI tI))) a1), (18, aB (decide (r1.1 > (4 : Int))))]) (L' := []) (obs := []) (by kernel_rfl) (by kernel_rfl) (by kernel_rfl) allP0 ?_
    refine seqQ_norm ?_
    refine W_cond (o := .tmp 18) (b := decide (r1.1 > (4 : Int))) (by kernel_rfl) (by kernel_rfl) (fun h4 => ?_) (fun h4 => ?_)
    · replace h := ofT h4 h
      refine W_seq (by kernel_rfl) ?_
      refine W_run 2 [] [4, 5] [] (fr' := [(4, .one (.nilS)), (5, aI (7 : Int))]) (L' := []) (obs := []) (by kernel_rfl) (by kernel_rfl) (by kernel_rfl) allP0 ?_
      refine seqQ_norm ?_
      obtain rfl := Option.some.inj h
      refine W_cnv 4 (.slice (.pair tI (.pair (.arr 5 tI) (.arr 5 tI)))) (by kernel_rfl) ?_
      refine W_ret [4, 5] [] (fr' := [(4, aD (.slice (.pair tI (.pair (.arr 5 tI) (.arr 5 tI)))) []), (5, aI (7 : Int))]) (L' := []) (by kernel_rfl) (by kernel_rfl) ?_
      refine seqQ_ret ?_
      exact retQ_mk (by kernel_rfl) (by kernel_rfl) (by kernel_rfl)
    · replace h := ofF h4 h
      refine W_skip [1] [] (fr' := [(1, aD (.slice (.pair tI (.pair tI tI))) a1)]) (L' := []) (by kernel_rfl) (by kernel_rfl) ?_
      refine seqQ_norm ?_
      refine W_seq (by kernel_rfl) ?_
      refine W_region (by kernel_rfl) ?_
      refine WO_run (j := 5) (k := 5) (orcs := []) (kF := [19, 22, 23]) (kL := []) (fr' := [(19, aD (.slice (.pair tI (.pair tI tI))) a1), (22, aI (w64 ((List.length a1 : Int) - (1 : Int)))), (23, aD (.arr 5 tI) [(1 : Int), (2 : Int), (3 : Int), (4 : Int), (0 : Int)])]) (L' := []) (obs := []) rfl (by kernel_rfl) allP0 ?_
      obtain ⟨r5, h6, h⟩ := bind_of h
      refine WO_call1 (us := [none, none, none]) (d := 24) (t := 24) (p := True) (j := 6) rfl ⟨by kernel_rfl, by kernel_rfl, by kernel_rfl⟩ trivial (wide_build_ok h6) (by kernel_rfl) ?_
      refine WO_run (j := 8) (k := 2) (orcs := []) (kF := [4, 5]) (kL := [24]) (fr' := [(4, .one (.slc 24)), (5, aI (0 : Int))]) (L' := [(24, .seq (.pair tI (.pair (.arr 5 tI) (.arr 5 tI))) r5)]) (obs := []) rfl (by kernel_rfl) allP0 ?_
      refine WO_fin [4, 5] [24] (fr' := [(4, .one (.slc 24)), (5, aI (0 : Int))]) (L' := [(24, .seq (.pair tI (.pair (.arr 5 tI) (.arr 5 tI))) r5)]) (by kernel_rfl) (by kernel_rfl) ?_
      refine seqQ_norm ?_
      obtain rfl := Option.some.inj h
      refine W_frz 24 (by kernel_rfl) ?_
      refine W_ret [4, 5] [] (fr' := [(4, aD (.slice (.pair tI (.pair (.arr 5 tI) (.arr 5 tI)))) r5), (5, aI (0 : Int))]) (L' := []) (by kernel_rfl) (by kernel_rfl) ?_
      exact retQ_mk (by kernel_rfl) (by kernel_rfl) (by kernel_rfl)

def ref_Within (a0 : Int) (a1 : Int) (a2 : Int) : Option Bool :=
some ((decide (a0 ≤ a1)) && (decide (a1 ≤ a2)))
theorem ref_Within_ok {a0 : Int} {a1 : Int} {a2 : Int} {r : Bool} (h : ref_Within a0 a1 a2 = some r) : FnC Try.prog 10 [aI a0, aI a1, aI a2] [] (aB r) [] := by
  refine fnC_of_W (B := bodyOf Try.f10) (n := 15) Try.func10 (by kernel_rfl) (by kernel_rfl) (by kernel_rfl) (by kernel_rfl) (by kernel_rfl) ?_
  intro K
  refine W_seq (by kernel_rfl) ?_
  refine W_run 1 [] [0, 1, 2] [] (fr' := [(0, aI a0), (1, aI a1), (2, aI a2)]) (L' := []) (obs := []) (by kernel_rfl) (by kernel_rfl) (by kernel_rfl) allP0 ?_
  refine seqQ_norm ?_
  refine W_seq (by kernel_rfl) ?_
  refine W_run 9 [] [6] [] (fr' := [(6, aB ((decide (a0 ≤ a1)) && (decide (a1 ≤ a2))))]) (L' := []) (obs := []) (by kernel_rfl) (by kernel_rfl) (by kernel_rfl) allP0 ?_
  refine seqQ_norm ?_
  obtain rfl := Option.some.inj h
  refine W_ret [6] [] (fr' := [(6, aB ((decide (a0 ≤ a1)) && (decide (a1 ≤ a2))))]) (L' := []) (by kernel_rfl) (by kernel_rfl) ?_
  exact retQ_mk (by kernel_rfl) (by kernel_rfl) (by kernel_rfl)

def ref_Inside_b1 (a0 : Int) (i11 : Int) (v14 : Int) (x12 : Unit) : Option (Flow Unit (Esc Bool Unit)) :=
bif (decide (v14 < (0 : Int))) || (decide (v14 ≥ a0)) then
(some (.done (.ret false)))
else
(some (.next ()))
@[reducible] def ref_Inside_s2 (a0 : Int) (a1 : (List Int)) (v : Int × Unit) : Fr × LL := ([(0, aI a0), (7, aD (.slice tI) a1), (8, aI (List.length a1 : Int)), (9, aI v.1)], [])
@[reducible] def ref_Inside_s3 (v : Bool) : Fr × LL := ([(4, aB v)], [])
@[reducible] def ref_Inside_s4 (v : Unit) : Fr × LL := ([], [])
def ref_Inside (a0 : Int) (a1 : (List Int)) : Option Bool :=
(forL (ref_Inside_b1 a0) (fun x12 => (.brk ())) a1 0 ()).bind fun v19 =>
match v19 with
| .ret v24 =>
(some v24)
| .brk v25 =>
(some true)
theorem ref_Inside_ok {a0 : Int} {a1 : (List Int)} {r : Bool} (h : ref_Inside a0 a1 = some r) : FnC Try.prog 28 [aI a0, aD (.slice tI) a1] [] (aB r) [] := by
  refine fnC_of_W (B := bodyOf Try.f28) (n := 21) Try.func28 (by kernel_rfl) (by kernel_rfl) (by kernel_rfl) (by kernel_rfl) (by kernel_rfl) ?_
  intro K
  refine W_seq (by kernel_rfl) ?_
  refine W_run 1 [] [0, 1] [] (fr' := [(0, aI a0), (1, aD (.slice tI) a1)]) (L' := []) (obs := []) (by kernel_rfl) (by kernel_rfl) (by kernel_rfl) allP0 ?_
  refine seqQ_norm ?_
  refine W_seq (by kernel_rfl) ?_
  refine W_seq (by kernel_rfl) ?_
  refine W_run 3 [] [0, 7, 8, 9] [] (fr' := [(0, aI a0), (7, aD (.slice tI) a1), (8, aI (List.length a1 : Int)), (9, aI (0 : Int))]) (L' := []) (obs := []) (by kernel_rfl) (by kernel_rfl) (by kernel_rfl) allP0 ?_
  refine seqQ_norm ?_
  refine W_block (id := 0) (by kernel_rfl) ?_
  obtain ⟨v19, h20, h⟩ := bind_of h
  refine W_len (t := 7) (u := tI) (xs := a1) (by kernel_rfl) (fun h23 => ?_)
  obtain ⟨h21, h22⟩ := forL_iter h23 h20
  refine W_weaken [0, 7, 8, 9] [] (fr' := ((ref_Inside_s2 a0 a1) ((0 : Int), ())).1) (L' := ((ref_Inside_s2 a0 a1) ((0 : Int), ())).2) (by kernel_rfl) ?_
  refine W_cutK (W_loop (S := (ref_Inside_s2 a0 a1)) (J := (escQ (exQ .ret ref_Inside_s3) (exQ (.exit 0) ref_Inside_s4))) (by kernel_rfl) ?_ h21 _ v19 h22) ?_
  · rintro ⟨i11, x12⟩ s h
    refine W_seq (by kernel_rfl) ?_
    refine W_run 1 [] [0, 7, 8, 9, 10] [] (fr' := [(0, aI a0), (7, aD (.slice tI) a1), (8, aI (List.length a1 : Int)), (9, aI i11), (10, aB (decide (i11 < (List.length a1 : Int))))]) (L' := []) (obs := []) (by kernel_rfl) (by kernel_rfl) (by kernel_rfl) allP0 ?_
    refine seqQ_norm ?_
    refine W_seq (by kernel_rfl) ?_
    refine W_cond (o := .tmp 10) (b := decide (i11 < (List.length a1 : Int))) (by kernel_rfl) (by kernel_rfl) (fun h16 => ?_) (fun h16 => ?_)
    · replace h := stepL_true h16 h
      obtain ⟨v14, _, h15, h, rfl⟩ := h
      refine W_skip [0, 7, 8, 9] [] (fr' := [(0, aI a0), (7, aD (.slice tI) a1), (8, aI (List.length a1 : Int)), (9, aI i11)]) (L' := []) (by kernel_rfl) (by kernel_rfl) ?_
      refine seqQ_norm ?_
      refine W_seq (by kernel_rfl) ?_
      refine W_block (id := 1) (by kernel_rfl) ?_
      refine W_seq (by kernel_rfl) ?_
      refine W_run 3 [(1, .val (.dat tI v14))] [0, 6, 7, 8, 9] [] (fr' := [(0, aI a0), (6, aI v14), (7, aD (.slice tI) a1), (8, aI (List.length a1 : Int)), (9, aI i11)]) (L' := []) (obs := [Idx a1 i11 v14]) (by kernel_rfl) (by kernel_rfl) (by kernel_rfl) (allP1 (Idx.of h15)) ?_
      refine seqQ_norm ?_
      refine W_seq (by kernel_rfl) ?_
      refine W_run 7 [] [0, 7, 8, 9, 19] [] (fr' := [(0, aI a0), (7, aD (.slice tI) a1), (8, aI (List.length a1 : Int)), (9, aI i11), (19, aB ((decide (v14 < (0 : Int))) || (decide (v14 ≥ a0))))]) (L' := []) (obs := []) (by kernel_rfl) (by kernel_rfl) (by kernel_rfl) allP0 ?_
      refine seqQ_norm ?_
      refine W_cond (o := .tmp 19) (b := (decide (v14 < (0 : Int))) || (decide (v14 ≥ a0))) (by kernel_rfl) (by kernel_rfl) (fun h17 => ?_) (fun h17 => ?_)
      · replace h := ofT h17 h
        refine W_seq (by kernel_rfl) ?_
        refine W_run 1 [] [4] [] (fr' := [(4, aB false)]) (L' := []) (obs := []) (by kernel_rfl) (by kernel_rfl) (by kernel_rfl) allP0 ?_
        refine seqQ_norm ?_
        obtain rfl := Option.some.inj h
        refine W_ret [4] [] (fr' := [(4, aB false)]) (L' := []) (by kernel_rfl) (by kernel_rfl) ?_
        refine blockQ_ret ?_
        refine seqQ_ret ?_
        refine round_ret ?_
        refine escQ_ret ?_
        exact exQ_mk (by kernel_rfl) (by kernel_rfl)
      · replace h := ofF h17 h
        refine W_skip [0, 7, 8, 9] [] (fr' := [(0, aI a0), (7, aD (.slice tI) a1), (8, aI (List.length a1 : Int)), (9, aI i11)]) (L' := []) (by kernel_rfl) (by kernel_rfl) ?_
        refine blockQ_norm ?_
        refine seqQ_norm ?_
        obtain rfl := Option.some.inj h
        refine W_run 2 [] [0, 7, 8, 9] [] (fr' := [(0, aI a0), (7, aD (.slice tI) a1), (8, aI (List.length a1 : Int)), (9, aI (w64 (i11 + (1 : Int))))]) (L' := []) (obs := []) (by kernel_rfl) (by kernel_rfl) (by kernel_rfl) allP0 ?_
        exact round_next' (by kernel_rfl) (by kernel_rfl)
    · obtain rfl := stepL_false h16 h
      refine W_exit (id := 0) [] [] (fr' := []) (L' := []) (by kernel_rfl) (by kernel_rfl) ?_
      refine seqQ_exit ?_
      refine round_exit ?_
      refine escQ_brk ?_
      exact exQ_mk (by kernel_rfl) (by kernel_rfl)
  · intro e fr L hJ
    rcases v19 with v24 | v25
    · obtain ⟨rfl, rfl, rfl⟩ := hJ
      obtain rfl := Option.some.inj h
      refine LT_keep [4] [] (fr' := [(4, aB v24)]) (L' := []) (by kernel_rfl) ?_
      refine blockQ_ret ?_
      refine seqQ_ret ?_
      exact retQ_mk (by kernel_rfl) (by kernel_rfl) (by kernel_rfl)
    · obtain ⟨rfl, rfl, rfl⟩ := hJ
      refine LT_keep [] [] (fr' := []) (L' := []) (by kernel_rfl) ?_
      refine blockQ_hit ?_
      refine seqQ_norm ?_
      refine W_seq (by kernel_rfl) ?_
      refine W_run 1 [] [4] [] (fr' := [(4, aB true)]) (L' := []) (obs := []) (by kernel_rfl) (by kernel_rfl) (by kernel_rfl) allP0 ?_
      refine seqQ_norm ?_
      obtain rfl := Option.some.inj h
      refine W_ret [4] [] (fr' := [(4, aB true)]) (L' := []) (by kernel_rfl) (by kernel_rfl) ?_
      exact retQ_mk (by kernel_rfl) (by kernel_rfl) (by kernel_rfl)

def ref_GatesCheck_g7 (i105 : Int) (v108 : (Int × (Int × Int))) : Option Bool :=
bif v108.1 != (1 : Int) then
((ref_Inside i105 [v108.2.1]).bind fun r147 =>
bif !r147 then
(some true)
else
(bif decide (v108.1 ≥ (3 : Int)) then
((ref_Inside i105 [v108.2.2]).bind fun r151 =>
some (!r151))
else
(some false)))
else
(bif decide (v108.1 ≥ (3 : Int)) then
((ref_Inside i105 [v108.2.2]).bind fun r154 =>
some (!r154))
else
(some false))
@[reducible] def ref_GatesCheck_s8 (a0 : Int) (a1 : (List (Int × (Int × Int)))) (i105 : Int) (v : Bool) : Fr × LL := ([(0, aI a0), (7, aD (.slice (.pair tI (.pair tI tI))) a1), (8, aI (List.length a1 : Int)), (9, aI i105), (52, aB v)], [])
@[reducible] def ref_GatesCheck_s9 (a0 : Int) (a1 : (List (Int × (Int × Int)))) (i105 : Int) (v108 : (Int × (Int × Int))) (v : Bool) : Fr × LL := ([(0, aI a0), (5, aI i105), (6, .one (.ptr 6 0)), (7, aD (.slice (.pair tI (.pair tI tI))) a1), (8, aI (List.length a1 : Int)), (9, aI i105), (28, aB v)], [(6, .one (.pair tI (.pair tI tI)) v108)])
def ref_GatesCheck_b10 (a0 : Int) (i105 : Int) (v108 : (Int × (Int × Int))) (x106 : Unit) : Option (Flow Unit (Esc Int Unit)) :=
(ref_Within (1 : Int) v108.1 (4 : Int)).bind fun r111 =>
bif !r111 then
(some (.done (.ret (6 : Int))))
else
((bif v108.1 == (1 : Int) then
((ref_Inside a0 [v108.2.1]).bind fun r121 =>
some (!r121))
else
(some false)).bind fun v123 =>
bif v123 then
(some (.done (.ret (4 : Int))))
else
((ref_GatesCheck_g7 i105 v108).bind fun v156 =>
bif v156 then
(some (.done (.ret (2 : Int))))
else
(some (.next ()))))
@[reducible] def ref_GatesCheck_s11 (a0 : Int) (a1 : (List (Int × (Int × Int)))) (v : Int × Unit) : Fr × LL := ([(0, aI a0), (7, aD (.slice (.pair tI (.pair tI tI))) a1), (8, aI (List.length a1 : Int)), (9, aI v.1)], [])
@[reducible] def ref_GatesCheck_s12 (v : Int) : Fr × LL := ([(4, aI v)], [])
@[reducible] def ref_GatesCheck_s13 (v : Unit) : Fr × LL := ([], [])
def ref_GatesCheck (a0 : Int) (a1 : (List (Int × (Int × Int)))) : Option Int :=
(forL (ref_GatesCheck_b10 a0) (fun x106 => (.brk ())) a1 0 ()).bind fun v160 =>
match v160 with
| .ret v165 =>
(some v165)
| .brk v166 =>
(some (0 : Int))
theorem ref_GatesCheck_ok {a0 : Int} {a1 : (List (Int × (Int × Int)))} {r : Int} (h : ref_GatesCheck a0 a1 = some r) : FnC Try.prog 16 [aI a0, aD (.slice (.pair tI (.pair tI tI))) a1] [] (aI r) [] := by
  refine fnC_of_W (B := bodyOf Try.f16) (n := 54) Try.func16 (by kernel_rfl) (by kernel_rfl) (by kernel_rfl) (by kernel_rfl) (by kernel_rfl) ?_
  intro K
  refine W_seq (by kernel_rfl) ?_
  refine W_run 1 [] [0, 1] [] (fr' := [(0, aI a0), (1, aD (.slice (.pair tI (.pair tI tI))) a1)]) (L' := []) (obs := []) (by kernel_rfl) (by kernel_rfl) (by kernel_rfl) allP0 ?_
  refine seqQ_norm ?_
  refine W_seq (by kernel_rfl) ?_
  refine W_seq (by kernel_rfl) ?_
  refine W_run 3 [] [0, 7, 8, 9] [] (fr' := [(0, aI a0), (7, aD (.slice (.pair tI (.pair tI tI))) a1), (8, aI (List.length a1 : Int)), (9, aI (0 : Int))]) (L' := []) (obs := []) (by kernel_rfl) (by kernel_rfl) (by kernel_rfl) allP0 ?_
  refine seqQ_norm ?_
  refine W_block (id := 0) (by kernel_rfl) ?_
  obtain ⟨v160, h161, h⟩ := bind_of h
  refine W_len (t := 7) (u := (.pair tI (.pair tI tI))) (xs := a1) (by kernel_rfl) (fun h164 => ?_)
  obtain ⟨h162, h163⟩ := forL_iter h164 h161
  refine W_weaken [0, 7, 8, 9] [] (fr' := ((ref_GatesCheck_s11 a0 a1) ((0 : Int), ())).1) (L' := ((ref_GatesCheck_s11 a0 a1) ((0 : Int), ())).2) (by kernel_rfl) ?_
  refine W_cutK (W_loop (S := (ref_GatesCheck_s11 a0 a1)) (J := (escQ (exQ .ret ref_GatesCheck_s12) (exQ (.exit 0) ref_GatesCheck_s13))) (by kernel_rfl) ?_ h162 _ v160 h163) ?_
  · rintro ⟨i105, x106⟩ s h
    refine W_seq (by kernel_rfl) ?_
    refine W_run 1 [] [0, 7, 8, 9, 10] [] (fr' := [(0, aI a0), (7, aD (.slice (.pair tI (.pair tI tI))) a1), (8, aI (List.length a1 : Int)), (9, aI i105), (10, aB (decide (i105 < (List.length a1 : Int))))]) (L' := []) (obs := []) (by kernel_rfl) (by kernel_rfl) (by kernel_rfl) allP0 ?_
    refine seqQ_norm ?_
    refine W_seq (by kernel_rfl) ?_
    refine W_cond (o := .tmp 10) (b := decide (i105 < (List.length a1 : Int))) (by kernel_rfl) (by kernel_rfl) (fun h110 => ?_) (fun h110 => ?_)
    · replace h := stepL_true h110 h
      obtain ⟨v108, _, h109, h, rfl⟩ := h
      refine W_skip [0, 7, 8, 9] [] (fr' := [(0, aI a0), (7, aD (.slice (.pair tI (.pair tI tI))) a1), (8, aI (List.length a1 : Int)), (9, aI i105)]) (L' := []) (by kernel_rfl) (by kernel_rfl) ?_
      refine seqQ_norm ?_
      refine W_seq (by kernel_rfl) ?_
      refine W_block (id := 1) (by kernel_rfl) ?_
      refine W_seq (by kernel_rfl) ?_
      refine W_run 6 [(3, .val (.dat (.pair tI (.pair tI tI)) v108)), (7, .typed)] [0, 5, 6, 7, 8, 9] [6] (fr' := [(0, aI a0), (5, aI i105), (6, .one (.ptr 6 0)), (7, aD (.slice (.pair tI (.pair tI tI))) a1), (8, aI (List.length a1 : Int)), (9, aI i105)]) (L' := [(6, .one (.pair tI (.pair tI tI)) v108)]) (obs := [Idx a1 i105 v108, True]) (by kernel_rfl) (by kernel_rfl) (by kernel_rfl) (allP2 (Idx.of h109) (allP1 trivial)) ?_
      refine seqQ_norm ?_
      refine W_seq (by kernel_rfl) ?_
      refine W_seq (by kernel_rfl) ?_
      refine W_region (by kernel_rfl) ?_
      refine WO_run (j := 2) (k := 2) (orcs := []) (kF := [0, 5, 6, 7, 8, 9, 15]) (kL := [6]) (fr' := [(0, aI a0), (5, aI i105), (6, .one (.ptr 6 0)), (7, aD (.slice (.pair tI (.pair tI tI))) a1), (8, aI (List.length a1 : Int)), (9, aI i105), (15, aI v108.1)]) (L' := [(6, .one (.pair tI (.pair tI tI)) v108)]) (obs := []) rfl (by kernel_rfl) allP0 ?_
      obtain ⟨r111, h112, h⟩ := bind_of h
      refine WO_call0 (us := [none, none, none]) (d := 16) (p := True) (j := 3) rfl ⟨by kernel_rfl, by kernel_rfl, by kernel_rfl⟩ trivial (ref_Within_ok h112) (by kernel_rfl) ?_
      refine WO_run (j := 4) (k := 1) (orcs := []) (kF := [0, 5, 6, 7, 8, 9, 17]) (kL := [6]) (fr' := [(0, aI a0), (5, aI i105), (6, .one (.ptr 6 0)), (7, aD (.slice (.pair tI (.pair tI tI))) a1), (8, aI (List.length a1 : Int)), (9, aI i105), (17, aB (!r111))]) (L' := [(6, .one (.pair tI (.pair tI tI)) v108)]) (obs := []) rfl (by kernel_rfl) allP0 ?_
      refine WO_fin [0, 5, 6, 7, 8, 9, 17] [6] (fr' := [(0, aI a0), (5, aI i105), (6, .one (.ptr 6 0)), (7, aD (.slice (.pair tI (.pair tI tI))) a1), (8, aI (List.length a1 : Int)), (9, aI i105), (17, aB (!r111))]) (L' := [(6, .one (.pair tI (.pair tI tI)) v108)]) (by kernel_rfl) (by kernel_rfl) ?_
      refine seqQ_norm ?_
      refine W_cond (o := .tmp 17) (b := !r111) (by kernel_rfl) (by kernel_rfl) (fun h113 => ?_) (fun h113 => ?_)
      · replace h := ofT h113 h
        refine W_seq (by kernel_rfl) ?_
        refine W_run 1 [] [4] [] (fr' := [(4, aI (6 : Int))]) (L' := []) (obs := []) (by kernel_rfl) (by kernel_rfl) (by kernel_rfl) allP0 ?_
        refine seqQ_norm ?_
        obtain rfl := Option.some.inj h
        refine W_ret [4] [] (fr' := [(4, aI (6 : Int))]) (L' := []) (by kernel_rfl) (by kernel_rfl) ?_
        refine seqQ_ret ?_
        refine blockQ_ret ?_
        refine seqQ_ret ?_
        refine round_ret ?_
        refine escQ_ret ?_
        exact exQ_mk (by kernel_rfl) (by kernel_rfl)
      · replace h := ofF h113 h
        refine W_skip [0, 5, 6, 7, 8, 9] [6] (fr' := [(0, aI a0), (5, aI i105), (6, .one (.ptr 6 0)), (7, aD (.slice (.pair tI (.pair tI tI))) a1), (8, aI (List.length a1 : Int)), (9, aI i105)]) (L' := [(6, .one (.pair tI (.pair tI tI)) v108)]) (by kernel_rfl) (by kernel_rfl) ?_
        refine seqQ_norm ?_
        refine W_seq (by kernel_rfl) ?_
        refine W_seq (by kernel_rfl) ?_
        obtain ⟨v123, h124, h⟩ := bind_of h
        refine W_cutK (Q' := (exQ .normal (ref_GatesCheck_s9 a0 a1 i105 v108)) v123) ?_ ?_
        · replace h := h124
          refine W_region (by kernel_rfl) ?_
          refine WO_run (j := 4) (k := 4) (orcs := []) (kF := [0, 5, 6, 7, 8, 9, 21]) (kL := [6]) (fr' := [(0, aI a0), (5, aI i105), (6, .one (.ptr 6 0)), (7, aD (.slice (.pair tI (.pair tI tI))) a1), (8, aI (List.length a1 : Int)), (9, aI i105), (21, aB (v108.1 == (1 : Int)))]) (L' := [(6, .one (.pair tI (.pair tI tI)) v108)]) (obs := []) rfl (by kernel_rfl) allP0 ?_
          rcases Bool.eq_false_or_eq_true (v108.1 == (1 : Int)) with h120 | h120
          · replace h := ofT h120 h
            refine WO_run (j := 8) (k := 4) (orcs := [(8, .known true), (10, .known true), (12, .known true), (14, .known true)]) (kF := [0, 5, 6, 7, 8, 9, 21, 22, 25]) (kL := [6, 25]) (fr' := [(0, aI a0), (5, aI i105), (6, .one (.ptr 6 0)), (7, aD (.slice (.pair tI (.pair tI tI))) a1), (8, aI (List.length a1 : Int)), (9, aI i105), (21, aB (v108.1 == (1 : Int))), (22, aI a0), (25, .one (.slc 25))]) (L' := [(6, .one (.pair tI (.pair tI tI)) v108), (25, .seq tI [v108.2.1])]) (obs := [((v108.1 == (1 : Int)) = true), ((v108.1 == (1 : Int)) = true), ((v108.1 == (1 : Int)) = true), ((v108.1 == (1 : Int)) = true)]) rfl (by kernel_rfl) (allP2 h120 (allP2 h120 (allP2 h120 (allP1 h120)))) ?_
            obtain ⟨r121, h122, h⟩ := bind_of h
            refine WO_frz 25 (by kernel_rfl) ?_
            refine WO_call0 (us := [none, none]) (d := 26) (p := ((v108.1 == (1 : Int)) = true)) (j := 9) rfl ⟨by kernel_rfl, by kernel_rfl, by kernel_rfl⟩ h120 (ref_Inside_ok h122) (by kernel_rfl) ?_
            refine WO_run (j := 11) (k := 2) (orcs := [(18, .known true), (21, .val (.dat .bool true))]) (kF := [0, 5, 6, 7, 8, 9, 28]) (kL := [6]) (fr' := [(0, aI a0), (5, aI i105), (6, .one (.ptr 6 0)), (7, aD (.slice (.pair tI (.pair tI tI))) a1), (8, aI (List.length a1 : Int)), (9, aI i105), (28, aB (!r121))]) (L' := [(6, .one (.pair tI (.pair tI tI)) v108)]) (obs := [((v108.1 == (1 : Int)) = true), ((v108.1 == (1 : Int)) = true)]) rfl (by kernel_rfl) (allP2 h120 (allP1 h120)) ?_
            obtain rfl := Option.some.inj h
            refine WO_fin [0, 5, 6, 7, 8, 9, 28] [6] (fr' := [(0, aI a0), (5, aI i105), (6, .one (.ptr 6 0)), (7, aD (.slice (.pair tI (.pair tI tI))) a1), (8, aI (List.length a1 : Int)), (9, aI i105), (28, aB (!r121))]) (L' := [(6, .one (.pair tI (.pair tI tI)) v108)]) (by kernel_rfl) (by kernel_rfl) ?_
            exact exQ_mk (by kernel_rfl) (by kernel_rfl)
          · replace h := ofF h120 h
            refine WO_run (j := 11) (k := 7) (orcs := [(8, .known false), (10, .known false), (12, .known false), (14, .known false), (16, .known false), (18, .known false), (21, .val (.dat .bool false))]) (kF := [0, 5, 6, 7, 8, 9, 28]) (kL := [6]) (fr' := [(0, aI a0), (5, aI i105), (6, .one (.ptr 6 0)), (7, aD (.slice (.pair tI (.pair tI tI))) a1), (8, aI (List.length a1 : Int)), (9, aI i105), (28, aB false)]) (L' := [(6, .one (.pair tI (.pair tI tI)) v108)]) (obs := [((v108.1 == (1 : Int)) = false), ((v108.1 == (1 : Int)) = false), ((v108.1 == (1 : Int)) = false), ((v108.1 == (1 : Int)) = false), ((v108.1 == (1 : Int)) = false), ((v108.1 == (1 : Int)) = false), ((v108.1 == (1 : Int)) = false)]) rfl (by kernel_rfl) (allP2 h120 (allP2 h120 (allP2 h120 (allP2 h120 (allP2 h120 (allP2 h120 (allP1 h120))))))) ?_
            obtain rfl := Option.some.inj h
            refine WO_fin [0, 5, 6, 7, 8, 9, 28] [6] (fr' := [(0, aI a0), (5, aI i105), (6, .one (.ptr 6 0)), (7, aD (.slice (.pair tI (.pair tI tI))) a1), (8, aI (List.length a1 : Int)), (9, aI i105), (28, aB false)]) (L' := [(6, .one (.pair tI (.pair tI tI)) v108)]) (by kernel_rfl) (by kernel_rfl) ?_
            exact exQ_mk (by kernel_rfl) (by kernel_rfl)
        · intro e fr L hJ
          obtain ⟨rfl, rfl, rfl⟩ := hJ
          refine LT_keep [0, 5, 6, 7, 8, 9, 28] [6] (fr' := [(0, aI a0), (5, aI i105), (6, .one (.ptr 6 0)), (7, aD (.slice (.pair tI (.pair tI tI))) a1), (8, aI (List.length a1 : Int)), (9, aI i105), (28, aB v123)]) (L' := [(6, .one (.pair tI (.pair tI tI)) v108)]) (by kernel_rfl) ?_
          refine seqQ_norm ?_
          refine W_cond (o := .tmp 28) (b := v123) (by kernel_rfl) (by kernel_rfl) (fun h125 => ?_) (fun h125 => ?_)
          · replace h := ofT h125 h
            refine W_seq (by kernel_rfl) ?_
            refine W_run 1 [] [4] [] (fr' := [(4, aI (4 : Int))]) (L' := []) (obs := []) (by kernel_rfl) (by kernel_rfl) (by kernel_rfl) allP0 ?_
            refine seqQ_norm ?_
            obtain rfl := Option.some.inj h
            refine W_ret [4] [] (fr' := [(4, aI (4 : Int))]) (L' := []) (by kernel_rfl) (by kernel_rfl) ?_
            refine seqQ_ret ?_
            refine blockQ_ret ?_
            refine seqQ_ret ?_
            refine round_ret ?_
            refine escQ_ret ?_
            exact exQ_mk (by kernel_rfl) (by kernel_rfl)
          · replace h := ofF h125 h
            refine W_skip [0, 5, 6, 7, 8, 9] [6] (fr' := [(0, aI a0), (5, aI i105), (6, .one (.ptr 6 0)), (7, aD (.slice (.pair tI (.pair tI tI))) a1), (8, aI (List.length a1 : Int)), (9, aI i105)]) (L' := [(6, .one (.pair tI (.pair tI tI)) v108)]) (by kernel_rfl) (by kernel_rfl) ?_
            refine seqQ_norm ?_
            refine W_seq (by kernel_rfl) ?_
            obtain ⟨v156, h157, h⟩ := bind_of h
            refine W_cutK (Q' := (exQ .normal (ref_GatesCheck_s8 a0 a1 i105)) v156) ?_ ?_
            · replace h := h157
              refine W_region (by kernel_rfl) ?_
              refine WO_run (j := 4) (k := 4) (orcs := []) (kF := [0, 5, 6, 7, 8, 9, 32]) (kL := [6]) (fr' := [(0, aI a0), (5, aI i105), (6, .one (.ptr 6 0)), (7, aD (.slice (.pair tI (.pair tI tI))) a1), (8, aI (List.length a1 : Int)), (9, aI i105), (32, aB (v108.1 != (1 : Int)))]) (L' := [(6, .one (.pair tI (.pair tI tI)) v108)]) (obs := []) rfl (by kernel_rfl) allP0 ?_
              rcases Bool.eq_false_or_eq_true (v108.1 != (1 : Int)) with h146 | h146
              · replace h := ofT h146 h
                refine WO_run (j := 8) (k := 4) (orcs := [(8, .known true), (10, .known true), (12, .known true), (14, .known true)]) (kF := [0, 5, 6, 7, 8, 9, 32, 33, 36]) (kL := [6, 36]) (fr' := [(0, aI a0), (5, aI i105), (6, .one (.ptr 6 0)), (7, aD (.slice (.pair tI (.pair tI tI))) a1), (8, aI (List.length a1 : Int)), (9, aI i105), (32, aB (v108.1 != (1 : Int))), (33, aI i105), (36, .one (.slc 36))]) (L' := [(6, .one (.pair tI (.pair tI tI)) v108), (36, .seq tI [v108.2.1])]) (obs := [((v108.1 != (1 : Int)) = true), ((v108.1 != (1 : Int)) = true), ((v108.1 != (1 : Int)) = true), ((v108.1 != (1 : Int)) = true)]) rfl (by kernel_rfl) (allP2 h146 (allP2 h146 (allP2 h146 (allP1 h146)))) ?_
                obtain ⟨r147, h148, h⟩ := bind_of h
                refine WO_frz 36 (by kernel_rfl) ?_
                refine WO_call0 (us := [none, none]) (d := 37) (p := ((v108.1 != (1 : Int)) = true)) (j := 9) rfl ⟨by kernel_rfl, by kernel_rfl, by kernel_rfl⟩ h146 (ref_Inside_ok h148) (by kernel_rfl) ?_
                refine WO_run (j := 12) (k := 3) (orcs := [(18, .known true), (21, .val (.dat .bool true))]) (kF := [0, 5, 6, 7, 8, 9, 40]) (kL := [6]) (fr' := [(0, aI a0), (5, aI i105), (6, .one (.ptr 6 0)), (7, aD (.slice (.pair tI (.pair tI tI))) a1), (8, aI (List.length a1 : Int)), (9, aI i105), (40, aB (!r147))]) (L' := [(6, .one (.pair tI (.pair tI tI)) v108)]) (obs := [((v108.1 != (1 : Int)) = true), ((v108.1 != (1 : Int)) = true)]) rfl (by kernel_rfl) (allP2 h146 (allP1 h146)) ?_
                rcases Bool.eq_false_or_eq_true (!r147) with h149 | h149
                · replace h := ofT h149 h
                  refine WO_run (j := 24) (k := 12) (orcs := [(24, .known true), (26, .known true), (28, .known true), (30, .known true), (32, .known true), (34, .known true), (36, .known true), (38, .known true), (40, .known true), (42, .known true), (44, .known true), (47, .val (.dat .bool true))]) (kF := [0, 7, 8, 9, 52]) (kL := [6]) (fr' := [(0, aI a0), (7, aD (.slice (.pair tI (.pair tI tI))) a1), (8, aI (List.length a1 : Int)), (9, aI i105), (52, aB true)]) (L' := [(6, .one (.pair tI (.pair tI tI)) v108)]) (obs := [((!r147) = true), ((!r147) = true), ((!r147) = true), ((!r147) = true), ((!r147) = true), ((!r147) = true)]) rfl (by kernel_rfl) (allP2 h149 (allP2 h149 (allP2 h149 (allP2 h149 (allP2 h149 (allP1 h149)))))) ?_
                  obtain rfl := Option.some.inj h
                  refine WO_fin [0, 7, 8, 9, 52] [] (fr' := [(0, aI a0), (7, aD (.slice (.pair tI (.pair tI tI))) a1), (8, aI (List.length a1 : Int)), (9, aI i105), (52, aB true)]) (L' := []) (by kernel_rfl) (by kernel_rfl) ?_
                  exact exQ_mk (by kernel_rfl) (by kernel_rfl)
                · replace h := ofF h149 h
                  refine WO_run (j := 16) (k := 4) (orcs := [(24, .known false), (26, .known false), (28, .known false), (30, .known false)]) (kF := [0, 5, 6, 7, 8, 9, 40, 44]) (kL := [6]) (fr' := [(0, aI a0), (5, aI i105), (6, .one (.ptr 6 0)), (7, aD (.slice (.pair tI (.pair tI tI))) a1), (8, aI (List.length a1 : Int)), (9, aI i105), (40, aB (!r147)), (44, aB (decide (v108.1 ≥ (3 : Int))))]) (L' := [(6, .one (.pair tI (.pair tI tI)) v108)]) (obs := [((!r147) = false), ((!r147) = false), ((!r147) = false), ((!r147) = false)]) rfl (by kernel_rfl) (allP2 h149 (allP2 h149 (allP2 h149 (allP1 h149)))) ?_
                  rcases Bool.eq_false_or_eq_true (decide (v108.1 ≥ (3 : Int))) with h150 | h150
                  · replace h := ofT h150 h
                    refine WO_run (j := 20) (k := 4) (orcs := [(32, .known true), (34, .known true), (36, .known true), (38, .known true)]) (kF := [0, 7, 8, 9, 40, 44, 45, 48]) (kL := [6, 48]) (fr' := [(0, aI a0), (7, aD (.slice (.pair tI (.pair tI tI))) a1), (8, aI (List.length a1 : Int)), (9, aI i105), (40, aB (!r147)), (44, aB (decide (v108.1 ≥ (3 : Int)))), (45, aI i105), (48, .one (.slc 48))]) (L' := [(6, .one (.pair tI (.pair tI tI)) v108), (48, .seq tI [v108.2.2])]) (obs := [((decide (v108.1 ≥ (3 : Int))) = true), ((decide (v108.1 ≥ (3 : Int))) = true), ((decide (v108.1 ≥ (3 : Int))) = true), ((decide (v108.1 ≥ (3 : Int))) = true)]) rfl (by kernel_rfl) (allP2 h150 (allP2 h150 (allP2 h150 (allP1 h150)))) ?_
                    obtain ⟨r151, h152, h⟩ := bind_of h
                    refine WO_frz 48 (by kernel_rfl) ?_
                    refine WO_call0 (us := [none, none]) (d := 49) (p := ((decide (v108.1 ≥ (3 : Int))) = true)) (j := 21) rfl ⟨by kernel_rfl, by kernel_rfl, by kernel_rfl⟩ h150 (ref_Inside_ok h152) (by kernel_rfl) ?_
                    refine WO_run (j := 24) (k := 3) (orcs := [(42, .known true), (44, .known false), (45, .val (.dat .bool true)), (47, .val (.dat .bool false))]) (kF := [0, 7, 8, 9, 52]) (kL := [6]) (fr' := [(0, aI a0), (7, aD (.slice (.pair tI (.pair tI tI))) a1), (8, aI (List.length a1 : Int)), (9, aI i105), (52, aB (!r151))]) (L' := [(6, .one (.pair tI (.pair tI tI)) v108)]) (obs := [((decide (v108.1 ≥ (3 : Int))) = true), ((!r147) = false), ((decide (v108.1 ≥ (3 : Int))) = true), ((!r147) = false)]) rfl (by kernel_rfl) (allP2 h150 (allP2 h149 (allP2 h150 (allP1 h149)))) ?_
                    obtain rfl := Option.some.inj h
                    refine WO_fin [0, 7, 8, 9, 52] [] (fr' := [(0, aI a0), (7, aD (.slice (.pair tI (.pair tI tI))) a1), (8, aI (List.length a1 : Int)), (9, aI i105), (52, aB (!r151))]) (L' := []) (by kernel_rfl) (by kernel_rfl) ?_
                    exact exQ_mk (by kernel_rfl) (by kernel_rfl)
                  · replace h := ofF h150 h
                    refine WO_run (j := 24) (k := 8) (orcs := [(32, .known false), (34, .known false), (36, .known false), (38, .known false), (40, .known false), (42, .known false), (44, .known false), (45, .val (.dat .bool false)), (47, .val (.dat .bool false))]) (kF := [0, 7, 8, 9, 52]) (kL := [6]) (fr' := [(0, aI a0), (7, aD (.slice (.pair tI (.pair tI tI))) a1), (8, aI (List.length a1 : Int)), (9, aI i105), (52, aB false)]) (L' := [(6, .one (.pair tI (.pair tI tI)) v108)]) (obs := [((decide (v108.1 ≥ (3 : Int))) = false), ((decide (v108.1 ≥ (3 : Int))) = false), ((decide (v108.1 ≥ (3 : Int))) = false), ((decide (v108.1 ≥ (3 : Int))) = false), ((decide (v108.1 ≥ (3 : Int))) = false), ((decide (v108.1 ≥ (3 : Int))) = false), ((!r147) = false), ((decide (v108.1 ≥ (3 : Int))) = false), ((!r147) = false)]) rfl (by kernel_rfl) (allP2 h150 (allP2 h150 (allP2 h150 (allP2 h150 (allP2 h150 (allP2 h150 (allP2 h149 (allP2 h150 (allP1 h149))))))))) ?_
                    obtain rfl := Option.some.inj h
                    refine WO_fin [0, 7, 8, 9, 52] [] (fr' := [(0, aI a0), (7, aD (.slice (.pair tI (.pair tI tI))) a1), (8, aI (List.length a1 : Int)), (9, aI i105), (52, aB false)]) (L' := []) (by kernel_rfl) (by kernel_rfl) ?_
                    exact exQ_mk (by kernel_rfl) (by kernel_rfl)
              · replace h := ofF h146 h
                refine WO_run (j := 16) (k := 12) (orcs := [(8, .known false), (10, .known false), (12, .known false), (14, .known false), (16, .known false), (18, .known false), (21, .val (.dat .bool false)), (24, .known false), (26, .known false), (28, .known false), (30, .known false)]) (kF := [0, 5, 6, 7, 8, 9, 40, 44]) (kL := [6]) (fr' := [(0, aI a0), (5, aI i105), (6, .one (.ptr 6 0)), (7, aD (.slice (.pair tI (.pair tI tI))) a1), (8, aI (List.length a1 : Int)), (9, aI i105), (40, aB false), (44, aB (decide (v108.1 ≥ (3 : Int))))]) (L' := [(6, .one (.pair tI (.pair tI tI)) v108)]) (obs := [((v108.1 != (1 : Int)) = false), ((v108.1 != (1 : Int)) = false), ((v108.1 != (1 : Int)) = false), ((v108.1 != (1 : Int)) = false), ((v108.1 != (1 : Int)) = false), ((v108.1 != (1 : Int)) = false), ((v108.1 != (1 : Int)) = false), (false = false), (false = false), (false = false), (false = false)]) rfl (by kernel_rfl) (allP2 h146 (allP2 h146 (allP2 h146 (allP2 h146 (allP2 h146 (allP2 h146 (allP2 h146 (allP2 rfl (allP2 rfl (allP2 rfl (allP1 rfl))))))))))) ?_
                rcases Bool.eq_false_or_eq_true (decide (v108.1 ≥ (3 : Int))) with h153 | h153
                · replace h := ofT h153 h
                  refine WO_run (j := 20) (k := 4) (orcs := [(32, .known true), (34, .known true), (36, .known true), (38, .known true)]) (kF := [0, 7, 8, 9, 40, 44, 45, 48]) (kL := [6, 48]) (fr' := [(0, aI a0), (7, aD (.slice (.pair tI (.pair tI tI))) a1), (8, aI (List.length a1 : Int)), (9, aI i105), (40, aB false), (44, aB (decide (v108.1 ≥ (3 : Int)))), (45, aI i105), (48, .one (.slc 48))]) (L' := [(6, .one (.pair tI (.pair tI tI)) v108), (48, .seq tI [v108.2.2])]) (obs := [((decide (v108.1 ≥ (3 : Int))) = true), ((decide (v108.1 ≥ (3 : Int))) = true), ((decide (v108.1 ≥ (3 : Int))) = true), ((decide (v108.1 ≥ (3 : Int))) = true)]) rfl (by kernel_rfl) (allP2 h153 (allP2 h153 (allP2 h153 (allP1 h153)))) ?_
                  obtain ⟨r154, h155, h⟩ := bind_of h
                  refine WO_frz 48 (by kernel_rfl) ?_
                  refine WO_call0 (us := [none, none]) (d := 49) (p := ((decide (v108.1 ≥ (3 : Int))) = true)) (j := 21) rfl ⟨by kernel_rfl, by kernel_rfl, by kernel_rfl⟩ h153 (ref_Inside_ok h155) (by kernel_rfl) ?_
                  refine WO_run (j := 24) (k := 3) (orcs := [(42, .known true), (44, .known false), (45, .val (.dat .bool true)), (47, .val (.dat .bool false))]) (kF := [0, 7, 8, 9, 52]) (kL := [6]) (fr' := [(0, aI a0), (7, aD (.slice (.pair tI (.pair tI tI))) a1), (8, aI (List.length a1 : Int)), (9, aI i105), (52, aB (!r154))]) (L' := [(6, .one (.pair tI (.pair tI tI)) v108)]) (obs := [((decide (v108.1 ≥ (3 : Int))) = true), (false = false), ((decide (v108.1 ≥ (3 : Int))) = true), (false = false)]) rfl (by kernel_rfl) (allP2 h153 (allP2 rfl (allP2 h153 (allP1 rfl)))) ?_
                  obtain rfl := Option.some.inj h
                  refine WO_fin [0, 7, 8, 9, 52] [] (fr' := [(0, aI a0), (7, aD (.slice (.pair tI (.pair tI tI))) a1), (8, aI (List.length a1 : Int)), (9, aI i105), (52, aB (!r154))]) (L' := []) (by kernel_rfl) (by kernel_rfl) ?_
                  exact exQ_mk (by kernel_rfl) (by kernel_rfl)
                · replace h := ofF h153 h
                  refine WO_run (j := 24) (k := 8) (orcs := [(32, .known false), (34, .known false), (36, .known false), (38, .known false), (40, .known false), (42, .known false), (44, .known false), (45, .val (.dat .bool false)), (47, .val (.dat .bool false))]) (kF := [0, 7, 8, 9, 52]) (kL := [6]) (fr' := [(0, aI a0), (7, aD (.slice (.pair tI (.pair tI tI))) a1), (8, aI (List.length a1 : Int)), (9, aI i105), (52, aB false)]) (L' := [(6, .one (.pair tI (.pair tI tI)) v108)]) (obs := [((decide (v108.1 ≥ (3 : Int))) = false), ((decide (v108.1 ≥ (3 : Int))) = false), ((decide (v108.1 ≥ (3 : Int))) = false), ((decide (v108.1 ≥ (3 : Int))) = false), ((decide (v108.1 ≥ (3 : Int))) = false), ((decide (v108.1 ≥ (3 : Int))) = false), (false = false), ((decide (v108.1 ≥ (3 : Int))) = false), (false = false)]) rfl (by kernel_rfl) (allP2 h153 (allP2 h153 (allP2 h153 (allP2 h153 (allP2 h153 (allP2 h153 (allP2 rfl (allP2 h153 (allP1 rfl))))))))) ?_
                  obtain rfl := Option.some.inj h
                  refine WO_fin [0, 7, 8, 9, 52] [] (fr' := [(0, aI a0), (7, aD (.slice (.pair tI (.pair tI tI))) a1), (8, aI (List.length a1 : Int)), (9, aI i105), (52, aB false)]) (L' := []) (by kernel_rfl) (by kernel_rfl) ?_
                  exact exQ_mk (by kernel_rfl) (by kernel_rfl)
            · intro e fr L hJ
              obtain ⟨rfl, rfl, rfl⟩ := hJ
              refine LT_keep [0, 7, 8, 9, 52] [] (fr' := [(0, aI a0), (7, aD (.slice (.pair tI (.pair tI tI))) a1), (8, aI (List.length a1 : Int)), (9, aI i105), (52, aB v156)]) (L' := []) (by kernel_rfl) ?_
              refine seqQ_norm ?_
              refine W_cond (o := .tmp 52) (b := v156) (by kernel_rfl) (by kernel_rfl) (fun h158 => ?_) (fun h158 => ?_)
              · replace h := ofT h158 h
                refine W_seq (by kernel_rfl) ?_
                refine W_run 1 [] [4] [] (fr' := [(4, aI (2 : Int))]) (L' := []) (obs := []) (by kernel_rfl) (by kernel_rfl) (by kernel_rfl) allP0 ?_
                refine seqQ_norm ?_
                obtain rfl := Option.some.inj h
                refine W_ret [4] [] (fr' := [(4, aI (2 : Int))]) (L' := []) (by kernel_rfl) (by kernel_rfl) ?_
                refine blockQ_ret ?_
                refine seqQ_ret ?_
                refine round_ret ?_
                refine escQ_ret ?_
                exact exQ_mk (by kernel_rfl) (by kernel_rfl)
              · replace h := ofF h158 h
                refine W_skip [0, 7, 8, 9] [] (fr' := [(0, aI a0), (7, aD (.slice (.pair tI (.pair tI tI))) a1), (8, aI (List.length a1 : Int)), (9, aI i105)]) (L' := []) (by kernel_rfl) (by kernel_rfl) ?_
                refine blockQ_norm ?_
                refine seqQ_norm ?_
                obtain rfl := Option.some.inj h
                refine W_run 2 [] [0, 7, 8, 9] [] (fr' := [(0, aI a0), (7, aD (.slice (.pair tI (.pair tI tI))) a1), (8, aI (List.length a1 : Int)), (9, aI (w64 (i105 + (1 : Int))))]) (L' := []) (obs := []) (by kernel_rfl) (by kernel_rfl) (by kernel_rfl) allP0 ?_
                exact round_next' (by kernel_rfl) (by kernel_rfl)
    · obtain rfl := stepL_false h110 h
      refine W_exit (id := 0) [] [] (fr' := []) (L' := []) (by kernel_rfl) (by kernel_rfl) ?_
      refine seqQ_exit ?_
      refine round_exit ?_
      refine escQ_brk ?_
      exact exQ_mk (by kernel_rfl) (by kernel_rfl)
  · intro e fr L hJ
    rcases v160 with v165 | v166
    · obtain ⟨rfl, rfl, rfl⟩ := hJ
      obtain rfl := Option.some.inj h
      refine LT_keep [4] [] (fr' := [(4, aI v165)]) (L' := []) (by kernel_rfl) ?_
      refine blockQ_ret ?_
      refine seqQ_ret ?_
      exact retQ_mk (by kernel_rfl) (by kernel_rfl) (by kernel_rfl)
    · obtain ⟨rfl, rfl, rfl⟩ := hJ
      refine LT_keep [] [] (fr' := []) (L' := []) (by kernel_rfl) ?_
      refine blockQ_hit ?_
      refine seqQ_norm ?_
      refine W_seq (by kernel_rfl) ?_
      refine W_run 1 [] [4] [] (fr' := [(4, aI (0 : Int))]) (L' := []) (obs := []) (by kernel_rfl) (by kernel_rfl) (by kernel_rfl) allP0 ?_
      refine seqQ_norm ?_
      obtain rfl := Option.some.inj h
      refine W_ret [4] [] (fr' := [(4, aI (0 : Int))]) (L' := []) (by kernel_rfl) (by kernel_rfl) ?_
      exact retQ_mk (by kernel_rfl) (by kernel_rfl) (by kernel_rfl)

def ref_GateCheck_g1 (a0 : Int) (a1 : (List (Int × (Int × Int)))) : Option Bool :=
(ref_Within (0 : Int) a0 (5 : Int)).bind fun r11 =>
bif !r11 then
(some true)
else
((ref_Within (1 : Int) (List.length a1 : Int) (40 : Int)).bind fun r14 =>
some (!r14))
@[reducible] def ref_GateCheck_s2 (a0 : Int) (a1 : (List (Int × (Int × Int)))) (v : Bool) : Fr × LL := ([(0, aI a0), (1, aD (.slice (.pair tI (.pair tI tI))) a1), (13, aB v)], [])
def ref_GateCheck (a0 : Int) (a1 : (List (Int × (Int × Int)))) : Option Int :=
(ref_GateCheck_g1 a0 a1).bind fun v16 =>
bif v16 then
(some (1 : Int))
else
((ref_GatesCheck a0 a1).bind fun r19 =>
some r19)
theorem ref_GateCheck_ok {a0 : Int} {a1 : (List (Int × (Int × Int)))} {r : Int} (h : ref_GateCheck a0 a1 = some r) : FnC Try.prog 15 [aI a0, aD (.slice (.pair tI (.pair tI tI))) a1] [] (aI r) [] := by
  refine fnC_of_W (B := bodyOf Try.f15) (n := 17) Try.func15 (by kernel_rfl) (by kernel_rfl) (by kernel_rfl) (by kernel_rfl) (by kernel_rfl) ?_
  intro K
  refine W_seq (by kernel_rfl) ?_
  refine W_run 1 [] [0, 1] [] (fr' := [(0, aI a0), (1, aD (.slice (.pair tI (.pair tI tI))) a1)]) (L' := []) (obs := []) (by kernel_rfl) (by kernel_rfl) (by kernel_rfl) allP0 ?_
  refine seqQ_norm ?_
  refine W_seq (by kernel_rfl) ?_
  refine W_seq (by kernel_rfl) ?_
  obtain ⟨v16, h17, h⟩ := bind_of h
  refine W_cutK (Q' := (exQ .normal (ref_GateCheck_s2 a0 a1)) v16) ?_ ?_
  · replace h := h17
    refine W_region (by kernel_rfl) ?_
    refine WO_run (j := 1) (k := 1) (orcs := []) (kF := [0, 1, 5]) (kL := []) (fr' := [(0, aI a0), (1, aD (.slice (.pair tI (.pair tI tI))) a1), (5, aI a0)]) (L' := []) (obs := []) rfl (by kernel_rfl) allP0 ?_
    obtain ⟨r11, h12, h⟩ := bind_of h
    refine WO_call0 (us := [none, none, none]) (d := 6) (p := True) (j := 2) rfl ⟨by kernel_rfl, by kernel_rfl, by kernel_rfl⟩ trivial (ref_Within_ok h12) (by kernel_rfl) ?_
    refine WO_run (j := 4) (k := 2) (orcs := []) (kF := [0, 1, 8]) (kL := []) (fr' := [(0, aI a0), (1, aD (.slice (.pair tI (.pair tI tI))) a1), (8, aB (!r11))]) (L' := []) (obs := []) rfl (by kernel_rfl) allP0 ?_
    rcases Bool.eq_false_or_eq_true (!r11) with h13 | h13
    · replace h := ofT h13 h
      refine WO_run (j := 9) (k := 5) (orcs := [(8, .known true), (10, .known true), (12, .known true), (14, .known true), (17, .val (.dat .bool true))]) (kF := [0, 1, 13]) (kL := []) (fr' := [(0, aI a0), (1, aD (.slice (.pair tI (.pair tI tI))) a1), (13, aB true)]) (L' := []) (obs := [((!r11) = true), ((!r11) = true), ((!r11) = true), ((!r11) = true), ((!r11) = true)]) rfl (by kernel_rfl) (allP2 h13 (allP2 h13 (allP2 h13 (allP2 h13 (allP1 h13))))) ?_
      obtain rfl := Option.some.inj h
      refine WO_fin [0, 1, 13] [] (fr' := [(0, aI a0), (1, aD (.slice (.pair tI (.pair tI tI))) a1), (13, aB true)]) (L' := []) (by kernel_rfl) (by kernel_rfl) ?_
      exact exQ_mk (by kernel_rfl) (by kernel_rfl)
    · replace h := ofF h13 h
      refine WO_run (j := 6) (k := 2) (orcs := [(8, .known false), (10, .known false)]) (kF := [0, 1, 8, 10]) (kL := []) (fr' := [(0, aI a0), (1, aD (.slice (.pair tI (.pair tI tI))) a1), (8, aB (!r11)), (10, aI (List.length a1 : Int))]) (L' := []) (obs := [((!r11) = false), ((!r11) = false)]) rfl (by kernel_rfl) (allP2 h13 (allP1 h13)) ?_
      obtain ⟨r14, h15, h⟩ := bind_of h
      refine WO_call0 (us := [none, none, none]) (d := 11) (p := ((!r11) = false)) (j := 7) rfl ⟨by kernel_rfl, by kernel_rfl, by kernel_rfl⟩ h13 (ref_Within_ok h15) (by kernel_rfl) ?_
      refine WO_run (j := 9) (k := 2) (orcs := [(14, .known false), (17, .val (.dat .bool false))]) (kF := [0, 1, 13]) (kL := []) (fr' := [(0, aI a0), (1, aD (.slice (.pair tI (.pair tI tI))) a1), (13, aB (!r14))]) (L' := []) (obs := [((!r11) = false), ((!r11) = false)]) rfl (by kernel_rfl) (allP2 h13 (allP1 h13)) ?_
      obtain rfl := Option.some.inj h
      refine WO_fin [0, 1, 13] [] (fr' := [(0, aI a0), (1, aD (.slice (.pair tI (.pair tI tI))) a1), (13, aB (!r14))]) (L' := []) (by kernel_rfl) (by kernel_rfl) ?_
      exact exQ_mk (by kernel_rfl) (by kernel_rfl)
  · intro e fr L hJ
    obtain ⟨rfl, rfl, rfl⟩ := hJ
    refine LT_keep [0, 1, 13] [] (fr' := [(0, aI a0), (1, aD (.slice (.pair tI (.pair tI tI))) a1), (13, aB v16)]) (L' := []) (by kernel_rfl) ?_
    refine seqQ_norm ?_
    refine W_cond (o := .tmp 13) (b := v16) (by kernel_rfl) (by kernel_rfl) (fun h18 => ?_) (fun h18 => ?_)
    · replace h := ofT h18 h
      refine W_seq (by kernel_rfl) ?_
      refine W_run 1 [] [4] [] (fr' := [(4, aI (1 : Int))]) (L' := []) (obs := []) (by kernel_rfl) (by kernel_rfl) (by kernel_rfl) allP0 ?_
      refine seqQ_norm ?_
      obtain rfl := Option.some.inj h
      refine W_ret [4] [] (fr' := [(4, aI (1 : Int))]) (L' := []) (by kernel_rfl) (by kernel_rfl) ?_
      refine seqQ_ret ?_
      exact retQ_mk (by kernel_rfl) (by kernel_rfl) (by kernel_rfl)
    · replace h := ofF h18 h
      refine W_skip [0, 1] [] (fr' := [(0, aI a0), (1, aD (.slice (.pair tI (.pair tI tI))) a1)]) (L' := []) (by kernel_rfl) (by kernel_rfl) ?_
      refine seqQ_norm ?_
      refine W_seq (by kernel_rfl) ?_
      refine W_region (by kernel_rfl) ?_
      refine WO_run (j := 2) (k := 2) (orcs := []) (kF := [14, 15]) (kL := []) (fr' := [(14, aI a0), (15, aD (.slice (.pair tI (.pair tI tI))) a1)]) (L' := []) (obs := []) rfl (by kernel_rfl) allP0 ?_
      obtain ⟨r19, h20, h⟩ := bind_of h
      refine WO_call0 (us := [none, none]) (d := 16) (p := True) (j := 3) rfl ⟨by kernel_rfl, by kernel_rfl, by kernel_rfl⟩ trivial (ref_GatesCheck_ok h20) (by kernel_rfl) ?_
      refine WO_run (j := 4) (k := 1) (orcs := []) (kF := [4]) (kL := []) (fr' := [(4, aI r19)]) (L' := []) (obs := []) rfl (by kernel_rfl) allP0 ?_
      refine WO_fin [4] [] (fr' := [(4, aI r19)]) (L' := []) (by kernel_rfl) (by kernel_rfl) ?_
      refine seqQ_norm ?_
      obtain rfl := Option.some.inj h
      refine W_ret [4] [] (fr' := [(4, aI r19)]) (L' := []) (by kernel_rfl) (by kernel_rfl) ?_
      exact retQ_mk (by kernel_rfl) (by kernel_rfl) (by kernel_rfl)

def ref_Deep_g21 (i184 : Int) (x185 : (List Int)) (v187 : (Int × (Int × Int))) (v245 : Int) : Option Bool :=
bif decide (v187.1 ≥ (3 : Int)) then
((idx (List.set x185 (Int.toNat i184) (w64 (v245 + (1 : Int)))) v187.2.2).bind fun v260 =>
(idx (List.set x185 (Int.toNat i184) (w64 (v245 + (1 : Int)))) i184).bind fun v262 =>
some (decide (v260 ≥ v262)))
else
(some false)
@[reducible] def ref_Deep_s22 (a0 : (List (Int × (Int × Int)))) (i184 : Int) (x185 : (List Int)) (v187 : (Int × (Int × Int))) (v245 : Int) (v : Bool) : Fr × LL := ([(3, .one (.slc 8)), (4, aI i184), (5, .one (.ptr 5 0)), (9, aD (.slice (.pair tI (.pair tI tI))) a0), (10, aI (List.length a0 : Int)), (11, aI i184), (42, aB v)], [(8, .seq tI (List.set x185 (Int.toNat i184) (w64 (v245 + (1 : Int))))), (5, .one (.pair tI (.pair tI tI)) v187)])
def ref_Deep_g23 (i184 : Int) (x185 : (List Int)) (v187 : (Int × (Int × Int))) : Option (List Int) :=
bif v187.1 == (1 : Int) then
(some x185)
else
((idx x185 v187.2.1).bind fun v245 =>
(idx x185 i184).bind fun v247 =>
(ref_Deep_g21 i184 x185 v187 v245).bind fun v264 =>
bif v264 then
((idx (List.set x185 (Int.toNat i184) (w64 (v245 + (1 : Int)))) v187.2.2).bind fun v267 =>
(idx (List.set x185 (Int.toNat i184) (w64 (v245 + (1 : Int)))) i184).bind fun v269 =>
some (List.set (List.set x185 (Int.toNat i184) (w64 (v245 + (1 : Int)))) (Int.toNat i184) (w64 (v267 + (1 : Int)))))
else
(some (List.set x185 (Int.toNat i184) (w64 (v245 + (1 : Int))))))
@[reducible] def ref_Deep_s24 (a0 : (List (Int × (Int × Int)))) (i184 : Int) (v : (List Int)) : Fr × LL := ([(3, .one (.slc 8)), (9, aD (.slice (.pair tI (.pair tI tI))) a0), (10, aI (List.length a0 : Int)), (11, aI i184)], [(8, .seq tI v)])
def ref_Deep_b25 (i184 : Int) (v187 : (Int × (Int × Int))) (x185 : (List Int)) : Option (Flow (List Int) (List Int)) :=
(ref_Deep_g23 i184 x185 v187).bind fun v271 =>
some (.next v271)
@[reducible] def ref_Deep_s26 (a0 : (List (Int × (Int × Int)))) (v : Int × (List Int)) : Fr × LL := ([(3, .one (.slc 8)), (9, aD (.slice (.pair tI (.pair tI tI))) a0), (10, aI (List.length a0 : Int)), (11, aI v.1)], [(8, .seq tI v.2)])
@[reducible] def ref_Deep_s27 (v : (List Int)) : Fr × LL := ([(3, .one (.slc 8))], [(8, .seq tI v)])
def ref_Deep (a0 : (List (Int × (Int × Int)))) : Option (List Int) :=
(ck (0 ≤ (List.length a0 : Int) ∧ (List.length a0 : Int) = (List.length a0 : Int) ∧ (List.length a0 : Int) ≤ 4294967296)).bind fun _ =>
(forL ref_Deep_b25 (fun x185 => x185) a0 0 (List.replicate (Int.toNat (List.length a0 : Int)) (0 : Int))).bind fun v274 =>
some v274
theorem ref_Deep_ok {a0 : (List (Int × (Int × Int)))} {r : (List Int)} (h : ref_Deep a0 = some r) : FnC Try.prog 24 [aD (.slice (.pair tI (.pair tI tI))) a0] [] (aD (.slice tI) r) [] := by
  refine fnC_of_W (B := bodyOf Try.f24) (n := 54) Try.func24 (by kernel_rfl) (by kernel_rfl) (by kernel_rfl) (by kernel_rfl) (by kernel_rfl) ?_
  intro K
  refine W_seq (by kernel_rfl) ?_
  refine W_run 1 [] [0] [] (fr' := [(0, aD (.slice (.pair tI (.pair tI tI))) a0)]) (L' := []) (obs := []) (by kernel_rfl) (by kernel_rfl) (by kernel_rfl) allP0 ?_
  refine seqQ_norm ?_
  refine W_seq (by kernel_rfl) ?_
  obtain ⟨_, h1, h⟩ := bind_of h
  replace h1 := ck_some h1
  refine W_run 4 [] [0, 3] [8] (fr' := [(0, aD (.slice (.pair tI (.pair tI tI))) a0), (3, .one (.slc 8))]) (L' := [(8, .seq tI (List.replicate (Int.toNat (List.length a0 : Int)) (0 : Int)))]) (obs := [0 ≤ (List.length a0 : Int) ∧ (List.length a0 : Int) = (List.length a0 : Int) ∧ SmallLen (List.length a0 : Int)]) (by kernel_rfl) (by kernel_rfl) (by kernel_rfl) (allP1 h1) ?_
  refine seqQ_norm ?_
  refine W_seq (by kernel_rfl) ?_
  refine W_seq (by kernel_rfl) ?_
  refine W_run 3 [] [3, 9, 10, 11] [8] (fr' := [(3, .one (.slc 8)), (9, aD (.slice (.pair tI (.pair tI tI))) a0), (10, aI (List.length a0 : Int)), (11, aI (0 : Int))]) (L' := [(8, .seq tI (List.replicate (Int.toNat (List.length a0 : Int)) (0 : Int)))]) (obs := []) (by kernel_rfl) (by kernel_rfl) (by kernel_rfl) allP0 ?_
  refine seqQ_norm ?_
  refine W_block (id := 0) (by kernel_rfl) ?_
  obtain ⟨v274, h275, h⟩ := bind_of h
  refine W_len (t := 9) (u := (.pair tI (.pair tI tI))) (xs := a0) (by kernel_rfl) (fun h278 => ?_)
  obtain ⟨h276, h277⟩ := forL_iter h278 h275
  refine W_weaken [3, 9, 10, 11] [8] (fr' := ((ref_Deep_s26 a0) ((0 : Int), List.replicate (Int.toNat (List.length a0 : Int)) (0 : Int))).1) (L' := ((ref_Deep_s26 a0) ((0 : Int), List.replicate (Int.toNat (List.length a0 : Int)) (0 : Int))).2) (by kernel_rfl) ?_
  refine W_cutK (W_loop (S := (ref_Deep_s26 a0)) (J := (exQ (.exit 0) ref_Deep_s27)) (by kernel_rfl) ?_ h276 _ v274 h277) ?_
  · rintro ⟨i184, x185⟩ s h
    refine W_seq (by kernel_rfl) ?_
    refine W_run 1 [] [3, 9, 10, 11, 12] [8] (fr' := [(3, .one (.slc 8)), (9, aD (.slice (.pair tI (.pair tI tI))) a0), (10, aI (List.length a0 : Int)), (11, aI i184), (12, aB (decide (i184 < (List.length a0 : Int))))]) (L' := [(8, .seq tI x185)]) (obs := []) (by kernel_rfl) (by kernel_rfl) (by kernel_rfl) allP0 ?_
    refine seqQ_norm ?_
    refine W_seq (by kernel_rfl) ?_
    refine W_cond (o := .tmp 12) (b := decide (i184 < (List.length a0 : Int))) (by kernel_rfl) (by kernel_rfl) (fun h189 => ?_) (fun h189 => ?_)
    · replace h := stepL_true h189 h
      obtain ⟨v187, _, h188, h, rfl⟩ := h
      refine W_skip [3, 9, 10, 11] [8] (fr' := [(3, .one (.slc 8)), (9, aD (.slice (.pair tI (.pair tI tI))) a0), (10, aI (List.length a0 : Int)), (11, aI i184)]) (L' := [(8, .seq tI x185)]) (by kernel_rfl) (by kernel_rfl) ?_
      refine seqQ_norm ?_
      refine W_seq (by kernel_rfl) ?_
      obtain ⟨v271, h272, h⟩ := bind_of h
      refine W_cutK (Q' := (exQ .normal (ref_Deep_s24 a0 i184)) v271) ?_ ?_
      · replace h := h272
        refine W_block (id := 1) (by kernel_rfl) ?_
        refine W_seq (by kernel_rfl) ?_
        refine W_run 6 [(3, .val (.dat (.pair tI (.pair tI tI)) v187)), (7, .typed)] [3, 4, 5, 9, 10, 11] [8, 5] (fr' := [(3, .one (.slc 8)), (4, aI i184), (5, .one (.ptr 5 0)), (9, aD (.slice (.pair tI (.pair tI tI))) a0), (10, aI (List.length a0 : Int)), (11, aI i184)]) (L' := [(8, .seq tI x185), (5, .one (.pair tI (.pair tI tI)) v187)]) (obs := [Idx a0 i184 v187, True]) (by kernel_rfl) (by kernel_rfl) (by kernel_rfl) (allP2 (Idx.of h188) (allP1 trivial)) ?_
        refine seqQ_norm ?_
        refine W_seq (by kernel_rfl) ?_
        refine W_seq (by kernel_rfl) ?_
        refine W_run 3 [] [3, 4, 5, 9, 10, 11, 18] [8, 5] (fr' := [(3, .one (.slc 8)), (4, aI i184), (5, .one (.ptr 5 0)), (9, aD (.slice (.pair tI (.pair tI tI))) a0), (10, aI (List.length a0 : Int)), (11, aI i184), (18, aB (v187.1 == (1 : Int)))]) (L' := [(8, .seq tI x185), (5, .one (.pair tI (.pair tI tI)) v187)]) (obs := []) (by kernel_rfl) (by kernel_rfl) (by kernel_rfl) allP0 ?_
        refine seqQ_norm ?_
        refine W_cond (o := .tmp 18) (b := v187.1 == (1 : Int)) (by kernel_rfl) (by kernel_rfl) (fun h244 => ?_) (fun h244 => ?_)
        · replace h := ofT h244 h
          obtain rfl := Option.some.inj h
          refine W_exit (id := 1) [3, 9, 10, 11] [8] (fr' := [(3, .one (.slc 8)), (9, aD (.slice (.pair tI (.pair tI tI))) a0), (10, aI (List.length a0 : Int)), (11, aI i184)]) (L' := [(8, .seq tI x185)]) (by kernel_rfl) (by kernel_rfl) ?_
          refine seqQ_exit ?_
          refine blockQ_hit ?_
          exact exQ_mk (by kernel_rfl) (by kernel_rfl)
        · replace h := ofF h244 h
          refine W_skip [3, 4, 5, 9, 10, 11] [8, 5] (fr' := [(3, .one (.slc 8)), (4, aI i184), (5, .one (.ptr 5 0)), (9, aD (.slice (.pair tI (.pair tI tI))) a0), (10, aI (List.length a0 : Int)), (11, aI i184)]) (L' := [(8, .seq tI x185), (5, .one (.pair tI (.pair tI tI)) v187)]) (by kernel_rfl) (by kernel_rfl) ?_
          refine seqQ_norm ?_
          refine W_seq (by kernel_rfl) ?_
          obtain ⟨v245, h246, h⟩ := bind_of h
          obtain ⟨v247, h248, h⟩ := bind_of h
          refine W_run 10 [(13, .val (.dat tI v245))] [3, 4, 5, 9, 10, 11] [8, 5] (fr' := [(3, .one (.slc 8)), (4, aI i184), (5, .one (.ptr 5 0)), (9, aD (.slice (.pair tI (.pair tI tI))) a0), (10, aI (List.length a0 : Int)), (11, aI i184)]) (L' := [(8, .seq tI (List.set x185 (Int.toNat i184) (w64 (v245 + (1 : Int))))), (5, .one (.pair tI (.pair tI tI)) v187)]) (obs := [InR v187.2.1 (List.length x185), Idx x185 v187.2.1 v245, InR i184 (List.length x185), InR i184 (List.length x185)]) (by kernel_rfl) (by kernel_rfl) (by kernel_rfl) (allP2 (InR.of h246) (allP2 (Idx.of h246) (allP2 (InR.of h248) (allP1 (InR.of h248))))) ?_
          refine seqQ_norm ?_
          refine W_seq (by kernel_rfl) ?_
          obtain ⟨v264, h265, h⟩ := bind_of h
          refine W_cutK (Q' := (exQ .normal (ref_Deep_s22 a0 i184 x185 v187 v245)) v264) ?_ ?_
          · replace h := h265
            rcases Bool.eq_false_or_eq_true (decide (v187.1 ≥ (3 : Int))) with h259 | h259
            · replace h := ofT h259 h
              obtain ⟨v260, h261, h⟩ := bind_of h
              obtain ⟨v262, h263, h⟩ := bind_of h
              obtain rfl := Option.some.inj h
              refine W_draw2 15 [(8, .known true), (10, .known true), (12, .known true), (14, .known true), (16, .known true), (17, .val (.dat tI v260)), (18, .known true), (20, .known true), (22, .known true), (24, .known true), (25, .val (.dat tI v262)), (26, .known true), (29, .val (.dat .bool true))] [] [3, 4, 5, 9, 10, 11, 42] [8, 5] (fr' := [(3, .one (.slc 8)), (4, aI i184), (5, .one (.ptr 5 0)), (9, aD (.slice (.pair tI (.pair tI tI))) a0), (10, aI (List.length a0 : Int)), (11, aI i184), (42, aB (decide (v260 ≥ v262)))]) (L' := [(8, .seq tI (List.set x185 (Int.toNat i184) (w64 (v245 + (1 : Int))))), (5, .one (.pair tI (.pair tI tI)) v187)]) (out := [(28, .one (.ptr 5 0)), (29, aI v187.1), (30, aB (decide (v187.1 ≥ (3 : Int)))), (31, aB (decide (v187.1 ≥ (3 : Int)))), (32, .one (.slc 8)), (33, .one (.ptr 5 2)), (34, aI v187.2.2), (35, .one (.eptr 8 1 v187.2.2 0)), (36, aI v260), (37, .one (.slc 8)), (38, aI i184), (39, .one (.eptr 8 1 i184 0)), (40, aI v262), (41, aB (decide (v260 ≥ v262))), (42, aB (decide (v260 ≥ v262)))]) (obs := [((decide (v187.1 ≥ (3 : Int))) = true), ((decide (v187.1 ≥ (3 : Int))) = true), ((decide (v187.1 ≥ (3 : Int))) = true), ((decide (v187.1 ≥ (3 : Int))) = true), InR v187.2.2 (List.length (List.set x185 (Int.toNat i184) (w64 (v245 + (1 : Int))))), ((decide (v187.1 ≥ (3 : Int))) = true), Idx (List.set x185 (Int.toNat i184) (w64 (v245 + (1 : Int)))) v187.2.2 v260, ((decide (v187.1 ≥ (3 : Int))) = true), ((decide (v187.1 ≥ (3 : Int))) = true), ((decide (v187.1 ≥ (3 : Int))) = true), InR i184 (List.length (List.set x185 (Int.toNat i184) (w64 (v245 + (1 : Int))))), ((decide (v187.1 ≥ (3 : Int))) = true), Idx (List.set x185 (Int.toNat i184) (w64 (v245 + (1 : Int)))) i184 v262, ((decide (v187.1 ≥ (3 : Int))) = true), ((decide (v187.1 ≥ (3 : Int))) = true)]) (obs2 := []) (calls := []) (by kernel_rfl) (by kernel_rfl) (by kernel_rfl) (by kernel_rfl) (allP2 h259 (allP2 h259 (allP2 h259 (allP2 h259 (allP2 (InR.of h261) (allP2 h259 (allP2 (Idx.of h261) (allP2 h259 (allP2 h259 (allP2 h259 (allP2 (InR.of h263) (allP2 h259 (allP2 (Idx.of h263) (allP2 h259 (allP1 h259))))))))))))))) allC0 (by kernel_rfl) allP0 ?_
              exact exQ_mk (by kernel_rfl) (by kernel_rfl)
            · replace h := ofF h259 h
              obtain rfl := Option.some.inj h
              refine W_draw2 15 [(8, .known false), (10, .known false), (12, .known false), (14, .known false), (16, .known false), (18, .known false), (20, .known false), (22, .known false), (24, .known false), (26, .known false), (29, .val (.dat .bool false))] [] [3, 4, 5, 9, 10, 11, 42] [8, 5] (fr' := [(3, .one (.slc 8)), (4, aI i184), (5, .one (.ptr 5 0)), (9, aD (.slice (.pair tI (.pair tI tI))) a0), (10, aI (List.length a0 : Int)), (11, aI i184), (42, aB false)]) (L' := [(8, .seq tI (List.set x185 (Int.toNat i184) (w64 (v245 + (1 : Int))))), (5, .one (.pair tI (.pair tI tI)) v187)]) (out := [(28, .one (.ptr 5 0)), (29, aI v187.1), (30, aB (decide (v187.1 ≥ (3 : Int)))), (31, aB (decide (v187.1 ≥ (3 : Int)))), (32, .tup []), (33, .tup []), (34, .tup []), (35, .tup []), (36, .tup []), (37, .tup []), (38, .tup []), (39, .tup []), (40, .tup []), (41, .tup []), (42, aB false)]) (obs := [((decide (v187.1 ≥ (3 : Int))) = false), ((decide (v187.1 ≥ (3 : Int))) = false), ((decide (v187.1 ≥ (3 : Int))) = false), ((decide (v187.1 ≥ (3 : Int))) = false), ((decide (v187.1 ≥ (3 : Int))) = false), ((decide (v187.1 ≥ (3 : Int))) = false), ((decide (v187.1 ≥ (3 : Int))) = false), ((decide (v187.1 ≥ (3 : Int))) = false), ((decide (v187.1 ≥ (3 : Int))) = false), ((decide (v187.1 ≥ (3 : Int))) = false), ((decide (v187.1 ≥ (3 : Int))) = false)]) (obs2 := []) (calls := []) (by kernel_rfl) (by kernel_rfl) (by kernel_rfl) (by kernel_rfl) (allP2 h259 (allP2 h259 (allP2 h259 (allP2 h259 (allP2 h259 (allP2 h259 (allP2 h259 (allP2 h259 (allP2 h259 (allP2 h259 (allP1 h259))))))))))) allC0 (by kernel_rfl) allP0 ?_
              exact exQ_mk (by kernel_rfl) (by kernel_rfl)
          · intro e fr L hJ
            obtain ⟨rfl, rfl, rfl⟩ := hJ
            refine LT_keep [3, 4, 5, 9, 10, 11, 42] [8, 5] (fr' := [(3, .one (.slc 8)), (4, aI i184), (5, .one (.ptr 5 0)), (9, aD (.slice (.pair tI (.pair tI tI))) a0), (10, aI (List.length a0 : Int)), (11, aI i184), (42, aB v264)]) (L' := [(8, .seq tI (List.set x185 (Int.toNat i184) (w64 (v245 + (1 : Int))))), (5, .one (.pair tI (.pair tI tI)) v187)]) (by kernel_rfl) ?_
            refine seqQ_norm ?_
            refine W_cond (o := .tmp 42) (b := v264) (by kernel_rfl) (by kernel_rfl) (fun h266 => ?_) (fun h266 => ?_)
            · replace h := ofT h266 h
              obtain ⟨v267, h268, h⟩ := bind_of h
              obtain ⟨v269, h270, h⟩ := bind_of h
              obtain rfl := Option.some.inj h
              refine W_run 10 [(13, .val (.dat tI v267))] [3, 9, 10, 11] [8] (fr' := [(3, .one (.slc 8)), (9, aD (.slice (.pair tI (.pair tI tI))) a0), (10, aI (List.length a0 : Int)), (11, aI i184)]) (L' := [(8, .seq tI (List.set (List.set x185 (Int.toNat i184) (w64 (v245 + (1 : Int)))) (Int.toNat i184) (w64 (v267 + (1 : Int)))))]) (obs := [InR v187.2.2 (List.length (List.set x185 (Int.toNat i184) (w64 (v245 + (1 : Int))))), Idx (List.set x185 (Int.toNat i184) (w64 (v245 + (1 : Int)))) v187.2.2 v267, InR i184 (List.length (List.set x185 (Int.toNat i184) (w64 (v245 + (1 : Int))))), InR i184 (List.length (List.set x185 (Int.toNat i184) (w64 (v245 + (1 : Int)))))]) (by kernel_rfl) (by kernel_rfl) (by kernel_rfl) (allP2 (InR.of h268) (allP2 (Idx.of h268) (allP2 (InR.of h270) (allP1 (InR.of h270))))) ?_
              refine blockQ_norm ?_
              exact exQ_mk (by kernel_rfl) (by kernel_rfl)
            · replace h := ofF h266 h
              obtain rfl := Option.some.inj h
              refine W_skip [3, 9, 10, 11] [8] (fr' := [(3, .one (.slc 8)), (9, aD (.slice (.pair tI (.pair tI tI))) a0), (10, aI (List.length a0 : Int)), (11, aI i184)]) (L' := [(8, .seq tI (List.set x185 (Int.toNat i184) (w64 (v245 + (1 : Int)))))]) (by kernel_rfl) (by kernel_rfl) ?_
              refine blockQ_norm ?_
              exact exQ_mk (by kernel_rfl) (by kernel_rfl)
      · intro e fr L hJ
        obtain ⟨rfl, rfl, rfl⟩ := hJ
        refine LT_keep [3, 9, 10, 11] [8] (fr' := [(3, .one (.slc 8)), (9, aD (.slice (.pair tI (.pair tI tI))) a0), (10, aI (List.length a0 : Int)), (11, aI i184)]) (L' := [(8, .seq tI v271)]) (by kernel_rfl) ?_
        refine seqQ_norm ?_
        obtain rfl := Option.some.inj h
        refine W_run 2 [] [3, 9, 10, 11] [8] (fr' := [(3, .one (.slc 8)), (9, aD (.slice (.pair tI (.pair tI tI))) a0), (10, aI (List.length a0 : Int)), (11, aI (w64 (i184 + (1 : Int))))]) (L' := [(8, .seq tI v271)]) (obs := []) (by kernel_rfl) (by kernel_rfl) (by kernel_rfl) allP0 ?_
        exact round_next' (by kernel_rfl) (by kernel_rfl)
    · obtain rfl := stepL_false h189 h
      refine W_exit (id := 0) [3] [8] (fr' := [(3, .one (.slc 8))]) (L' := [(8, .seq tI x185)]) (by kernel_rfl) (by kernel_rfl) ?_
      refine seqQ_exit ?_
      refine round_exit ?_
      exact exQ_mk (by kernel_rfl) (by kernel_rfl)
  · intro e fr L hJ
    obtain ⟨rfl, rfl, rfl⟩ := hJ
    refine LT_keep [3] [8] (fr' := [(3, .one (.slc 8))]) (L' := [(8, .seq tI v274)]) (by kernel_rfl) ?_
    refine blockQ_hit ?_
    refine seqQ_norm ?_
    refine W_seq (by kernel_rfl) ?_
    refine W_run 2 [] [2] [8] (fr' := [(2, .one (.slc 8))]) (L' := [(8, .seq tI v274)]) (obs := []) (by kernel_rfl) (by kernel_rfl) (by kernel_rfl) allP0 ?_
    refine seqQ_norm ?_
    obtain rfl := Option.some.inj h
    refine W_frz 8 (by kernel_rfl) ?_
    refine W_ret [2] [] (fr' := [(2, aD (.slice tI) v274)]) (L' := []) (by kernel_rfl) (by kernel_rfl) ?_
    exact retQ_mk (by kernel_rfl) (by kernel_rfl) (by kernel_rfl)

@[reducible] def ref_Change_s15 (a0 : (List Int)) (i111 : Int) (i144 : Int) (v : Int) : Fr × LL := ([(1, .one (.ptr 1 0)), (3, aI i111), (4, aI v), (5, aI i144)], [(1, .one (.arr 5 tI) a0)])
def ref_Change_b16 (a0 : (List Int)) (i111 : Int) (i144 : Int) (x145 : Int) : Option (Flow Int Int) :=
((ck (0 ≤ i144 ∧ i144 < 5)).bind fun _ =>
(idx a0 i144).bind fun v157 =>
bif v157 == i111 then
(some (w64 (x145 + (1 : Int))))
else
(some x145)).bind fun v160 =>
some (.next v160)
@[reducible] def ref_Change_s17 (a0 : (List Int)) (i111 : Int) (v : Int × Int) : Fr × LL := ([(1, .one (.ptr 1 0)), (3, aI i111), (4, aI v.2), (5, aI v.1)], [(1, .one (.arr 5 tI) a0)])
@[reducible] def ref_Change_s18 (a0 : (List Int)) (i111 : Int) (v : Int) : Fr × LL := ([(1, .one (.ptr 1 0)), (3, aI i111), (4, aI v)], [(1, .one (.arr 5 tI) a0)])
def ref_Change_b19 (a0 : (List Int)) (i111 : Int) (x112 : Unit) : Option (Flow Unit (Esc Bool Unit)) :=
(forI (0 : Int) (5 : Int) (ref_Change_b16 a0 i111) (fun x145 => x145) (0 : Int)).bind fun v163 =>
bif v163 != (1 : Int) then
(some (.done (.ret false)))
else
(some (.next ()))
@[reducible] def ref_Change_s20 (a0 : (List Int)) (v : Int × Unit) : Fr × LL := ([(1, .one (.ptr 1 0)), (3, aI v.1)], [(1, .one (.arr 5 tI) a0)])
@[reducible] def ref_Change_s21 (v : Bool) : Fr × LL := ([(2, aB v)], [])
@[reducible] def ref_Change_s22 (v : Unit) : Fr × LL := ([], [])
def ref_Change (a0 : (List Int)) : Option Bool :=
(forI (0 : Int) (5 : Int) (ref_Change_b19 a0) (fun x112 => (.brk ())) ()).bind fun v169 =>
match v169 with
| .ret v173 =>
(some v173)
| .brk v174 =>
(some true)
theorem ref_Change_ok {a0 : (List Int)} {r : Bool} (h : ref_Change a0 = some r) : FnC Try.prog 36 [aD (.arr 5 tI) a0] [] (aB r) [] := by
  refine fnC_of_W (B := bodyOf Try.f36) (n := 23) Try.func36 (by kernel_rfl) (by kernel_rfl) (by kernel_rfl) (by kernel_rfl) (by kernel_rfl) ?_
  intro K
  refine W_seq (by kernel_rfl) ?_
  refine W_run 2 [] [1] [1] (fr' := [(1, .one (.ptr 1 0))]) (L' := [(1, .one (.arr 5 tI) a0)]) (obs := []) (by kernel_rfl) (by kernel_rfl) (by kernel_rfl) allP0 ?_
  refine seqQ_norm ?_
  refine W_seq (by kernel_rfl) ?_
  refine W_seq (by kernel_rfl) ?_
  refine W_run 1 [] [1, 3] [1] (fr' := [(1, .one (.ptr 1 0)), (3, aI (0 : Int))]) (L' := [(1, .one (.arr 5 tI) a0)]) (obs := []) (by kernel_rfl) (by kernel_rfl) (by kernel_rfl) allP0 ?_
  refine seqQ_norm ?_
  refine W_block (id := 0) (by kernel_rfl) ?_
  obtain ⟨v169, h170, h⟩ := bind_of h
  obtain ⟨h171, h172⟩ := forI_iter h170
  refine W_weaken [1, 3] [1] (fr' := ((ref_Change_s20 a0) ((0 : Int), ())).1) (L' := ((ref_Change_s20 a0) ((0 : Int), ())).2) (by kernel_rfl) ?_
  refine W_cutK (W_loop (S := (ref_Change_s20 a0)) (J := (escQ (exQ .ret ref_Change_s21) (exQ (.exit 0) ref_Change_s22))) (by kernel_rfl) ?_ h171 _ v169 h172) ?_
  · rintro ⟨i111, x112⟩ s h
    refine W_seq (by kernel_rfl) ?_
    refine W_seq (by kernel_rfl) ?_
    refine W_run 2 [] [1, 3, 7] [1] (fr' := [(1, .one (.ptr 1 0)), (3, aI i111), (7, aB (decide (i111 < (5 : Int))))]) (L' := [(1, .one (.arr 5 tI) a0)]) (obs := []) (by kernel_rfl) (by kernel_rfl) (by kernel_rfl) allP0 ?_
    refine seqQ_norm ?_
    refine W_cond (o := .tmp 7) (b := decide (i111 < (5 : Int))) (by kernel_rfl) (by kernel_rfl) (fun h114 => ?_) (fun h114 => ?_)
    · replace h := stepI_true h114 h
      obtain ⟨_, h, rfl⟩ := h
      refine W_skip [1, 3] [1] (fr' := [(1, .one (.ptr 1 0)), (3, aI i111)]) (L' := [(1, .one (.arr 5 tI) a0)]) (by kernel_rfl) (by kernel_rfl) ?_
      refine seqQ_norm ?_
      refine W_seq (by kernel_rfl) ?_
      refine W_block (id := 1) (by kernel_rfl) ?_
      refine W_seq (by kernel_rfl) ?_
      refine W_run 1 [] [1, 3, 4] [1] (fr' := [(1, .one (.ptr 1 0)), (3, aI i111), (4, aI (0 : Int))]) (L' := [(1, .one (.arr 5 tI) a0)]) (obs := []) (by kernel_rfl) (by kernel_rfl) (by kernel_rfl) allP0 ?_
      refine seqQ_norm ?_
      refine W_seq (by kernel_rfl) ?_
      refine W_seq (by kernel_rfl) ?_
      refine W_run 1 [] [1, 3, 4, 5] [1] (fr' := [(1, .one (.ptr 1 0)), (3, aI i111), (4, aI (0 : Int)), (5, aI (0 : Int))]) (L' := [(1, .one (.arr 5 tI) a0)]) (obs := []) (by kernel_rfl) (by kernel_rfl) (by kernel_rfl) allP0 ?_
      refine seqQ_norm ?_
      refine W_block (id := 2) (by kernel_rfl) ?_
      obtain ⟨v163, h164, h⟩ := bind_of h
      obtain ⟨h165, h166⟩ := forI_iter h164
      refine W_weaken [1, 3, 4, 5] [1] (fr' := ((ref_Change_s17 a0 i111) ((0 : Int), (0 : Int))).1) (L' := ((ref_Change_s17 a0 i111) ((0 : Int), (0 : Int))).2) (by kernel_rfl) ?_
      refine W_cutK (W_loop (S := (ref_Change_s17 a0 i111)) (J := (exQ (.exit 2) (ref_Change_s18 a0 i111))) (by kernel_rfl) ?_ h165 _ v163 h166) ?_
      · rintro ⟨i144, x145⟩ s h
        refine W_seq (by kernel_rfl) ?_
        refine W_seq (by kernel_rfl) ?_
        refine W_run 2 [] [1, 3, 4, 5, 11] [1] (fr' := [(1, .one (.ptr 1 0)), (3, aI i111), (4, aI x145), (5, aI i144), (11, aB (decide (i144 < (5 : Int))))]) (L' := [(1, .one (.arr 5 tI) a0)]) (obs := []) (by kernel_rfl) (by kernel_rfl) (by kernel_rfl) allP0 ?_
        refine seqQ_norm ?_
        refine W_cond (o := .tmp 11) (b := decide (i144 < (5 : Int))) (by kernel_rfl) (by kernel_rfl) (fun h147 => ?_) (fun h147 => ?_)
        · replace h := stepI_true h147 h
          obtain ⟨_, h, rfl⟩ := h
          refine W_skip [1, 3, 4, 5] [1] (fr' := [(1, .one (.ptr 1 0)), (3, aI i111), (4, aI x145), (5, aI i144)]) (L' := [(1, .one (.arr 5 tI) a0)]) (by kernel_rfl) (by kernel_rfl) ?_
          refine seqQ_norm ?_
          refine W_seq (by kernel_rfl) ?_
          obtain ⟨v160, h161, h⟩ := bind_of h
          refine W_cutK (Q' := (exQ .normal (ref_Change_s15 a0 i111 i144)) v160) ?_ ?_
          · replace h := h161
            refine W_block (id := 3) (by kernel_rfl) ?_
            refine W_seq (by kernel_rfl) ?_
            obtain ⟨_, h156, h⟩ := bind_of h
            replace h156 := ck_some h156
            obtain ⟨v157, h158, h⟩ := bind_of h
            refine W_run 5 [(5, .val (.dat tI v157))] [1, 3, 4, 5, 18] [1] (fr' := [(1, .one (.ptr 1 0)), (3, aI i111), (4, aI x145), (5, aI i144), (18, aB (v157 == i111))]) (L' := [(1, .one (.arr 5 tI) a0)]) (obs := [InR i144 5, Idx a0 i144 v157]) (by kernel_rfl) (by kernel_rfl) (by kernel_rfl) (allP2 h156 (allP1 (Idx.of h158))) ?_
            refine seqQ_norm ?_
            refine W_cond (o := .tmp 18) (b := v157 == i111) (by kernel_rfl) (by kernel_rfl) (fun h159 => ?_) (fun h159 => ?_)
            · replace h := ofT h159 h
              obtain rfl := Option.some.inj h
              refine W_run 3 [] [1, 3, 4, 5] [1] (fr' := [(1, .one (.ptr 1 0)), (3, aI i111), (4, aI (w64 (x145 + (1 : Int)))), (5, aI i144)]) (L' := [(1, .one (.arr 5 tI) a0)]) (obs := []) (by kernel_rfl) (by kernel_rfl) (by kernel_rfl) allP0 ?_
              refine blockQ_norm ?_
              exact exQ_mk (by kernel_rfl) (by kernel_rfl)
            · replace h := ofF h159 h
              obtain rfl := Option.some.inj h
              refine W_skip [1, 3, 4, 5] [1] (fr' := [(1, .one (.ptr 1 0)), (3, aI i111), (4, aI x145), (5, aI i144)]) (L' := [(1, .one (.arr 5 tI) a0)]) (by kernel_rfl) (by kernel_rfl) ?_
              refine blockQ_norm ?_
              exact exQ_mk (by kernel_rfl) (by kernel_rfl)
          · intro e fr L hJ
            obtain ⟨rfl, rfl, rfl⟩ := hJ
            refine LT_keep [1, 3, 4, 5] [1] (fr' := [(1, .one (.ptr 1 0)), (3, aI i111), (4, aI v160), (5, aI i144)]) (L' := [(1, .one (.arr 5 tI) a0)]) (by kernel_rfl) ?_
            refine seqQ_norm ?_
            obtain rfl := Option.some.inj h
            refine W_run 3 [] [1, 3, 4, 5] [1] (fr' := [(1, .one (.ptr 1 0)), (3, aI i111), (4, aI v160), (5, aI (w64 (i144 + (1 : Int))))]) (L' := [(1, .one (.arr 5 tI) a0)]) (obs := []) (by kernel_rfl) (by kernel_rfl) (by kernel_rfl) allP0 ?_
            exact round_next' (by kernel_rfl) (by kernel_rfl)
        · obtain rfl := stepI_false h147 h
          refine W_exit (id := 2) [1, 3, 4] [1] (fr' := [(1, .one (.ptr 1 0)), (3, aI i111), (4, aI x145)]) (L' := [(1, .one (.arr 5 tI) a0)]) (by kernel_rfl) (by kernel_rfl) ?_
          refine seqQ_exit ?_
          refine round_exit ?_
          exact exQ_mk (by kernel_rfl) (by kernel_rfl)
      · intro e fr L hJ
        obtain ⟨rfl, rfl, rfl⟩ := hJ
        refine LT_keep [1, 3, 4] [1] (fr' := [(1, .one (.ptr 1 0)), (3, aI i111), (4, aI v163)]) (L' := [(1, .one (.arr 5 tI) a0)]) (by kernel_rfl) ?_
        refine blockQ_hit ?_
        refine seqQ_norm ?_
        refine W_seq (by kernel_rfl) ?_
        refine W_run 2 [] [1, 3, 22] [1] (fr' := [(1, .one (.ptr 1 0)), (3, aI i111), (22, aB (v163 != (1 : Int)))]) (L' := [(1, .one (.arr 5 tI) a0)]) (obs := []) (by kernel_rfl) (by kernel_rfl) (by kernel_rfl) allP0 ?_
        refine seqQ_norm ?_
        refine W_cond (o := .tmp 22) (b := v163 != (1 : Int)) (by kernel_rfl) (by kernel_rfl) (fun h167 => ?_) (fun h167 => ?_)
        · replace h := ofT h167 h
          refine W_seq (by kernel_rfl) ?_
          refine W_run 1 [] [2] [] (fr' := [(2, aB false)]) (L' := []) (obs := []) (by kernel_rfl) (by kernel_rfl) (by kernel_rfl) allP0 ?_
          refine seqQ_norm ?_
          obtain rfl := Option.some.inj h
          refine W_ret [2] [] (fr' := [(2, aB false)]) (L' := []) (by kernel_rfl) (by kernel_rfl) ?_
          refine blockQ_ret ?_
          refine seqQ_ret ?_
          refine round_ret ?_
          refine escQ_ret ?_
          exact exQ_mk (by kernel_rfl) (by kernel_rfl)
        · replace h := ofF h167 h
          refine W_skip [1, 3] [1] (fr' := [(1, .one (.ptr 1 0)), (3, aI i111)]) (L' := [(1, .one (.arr 5 tI) a0)]) (by kernel_rfl) (by kernel_rfl) ?_
          refine blockQ_norm ?_
          refine seqQ_norm ?_
          obtain rfl := Option.some.inj h
          refine W_run 3 [] [1, 3] [1] (fr' := [(1, .one (.ptr 1 0)), (3, aI (w64 (i111 + (1 : Int))))]) (L' := [(1, .one (.arr 5 tI) a0)]) (obs := []) (by kernel_rfl) (by kernel_rfl) (by kernel_rfl) allP0 ?_
          exact round_next' (by kernel_rfl) (by kernel_rfl)
    · obtain rfl := stepI_false h114 h
      refine W_exit (id := 0) [] [] (fr' := []) (L' := []) (by kernel_rfl) (by kernel_rfl) ?_
      refine seqQ_exit ?_
      refine round_exit ?_
      refine escQ_brk ?_
      exact exQ_mk (by kernel_rfl) (by kernel_rfl)
  · intro e fr L hJ
    rcases v169 with v173 | v174
    · obtain ⟨rfl, rfl, rfl⟩ := hJ
      obtain rfl := Option.some.inj h
      refine LT_keep [2] [] (fr' := [(2, aB v173)]) (L' := []) (by kernel_rfl) ?_
      refine blockQ_ret ?_
      refine seqQ_ret ?_
      exact retQ_mk (by kernel_rfl) (by kernel_rfl) (by kernel_rfl)
    · obtain ⟨rfl, rfl, rfl⟩ := hJ
      refine LT_keep [] [] (fr' := []) (L' := []) (by kernel_rfl) ?_
      refine blockQ_hit ?_
      refine seqQ_norm ?_
      refine W_seq (by kernel_rfl) ?_
      refine W_run 1 [] [2] [] (fr' := [(2, aB true)]) (L' := []) (obs := []) (by kernel_rfl) (by kernel_rfl) (by kernel_rfl) allP0 ?_
      refine seqQ_norm ?_
      obtain rfl := Option.some.inj h
      refine W_ret [2] [] (fr' := [(2, aB true)]) (L' := []) (by kernel_rfl) (by kernel_rfl) ?_
      exact retQ_mk (by kernel_rfl) (by kernel_rfl) (by kernel_rfl)

@[reducible] def ref_WideCheck_s3 (a0 : Int) (a1 : (List (Int × ((List Int) × (List Int))))) (i56 : Int) (v : Bool) : Fr × LL := ([(0, aI a0), (15, aD (.slice (.pair tI (.pair (.arr 5 tI) (.arr 5 tI)))) a1), (16, aI (List.length a1 : Int)), (17, aI i56), (36, aB v)], [])
def ref_WideCheck_b4 (a0 : Int) (i56 : Int) (v59 : (Int × ((List Int) × (List Int)))) (x57 : Unit) : Option (Flow Unit (Esc Int Unit)) :=
(ref_Inside a0 [v59.1]).bind fun r62 =>
bif !r62 then
(some (.done (.ret (4 : Int))))
else
(((ref_Change v59.2.1).bind fun r75 =>
bif !r75 then
(some true)
else
((ref_Change v59.2.2).bind fun r78 =>
some (!r78))).bind fun v80 =>
bif v80 then
(some (.done (.ret (3 : Int))))
else
(some (.next ())))
@[reducible] def ref_WideCheck_s5 (a0 : Int) (a1 : (List (Int × ((List Int) × (List Int))))) (v : Int × Unit) : Fr × LL := ([(0, aI a0), (15, aD (.slice (.pair tI (.pair (.arr 5 tI) (.arr 5 tI)))) a1), (16, aI (List.length a1 : Int)), (17, aI v.1)], [])
@[reducible] def ref_WideCheck_s6 (v : Int) : Fr × LL := ([(4, aI v)], [])
@[reducible] def ref_WideCheck_s7 (v : Unit) : Fr × LL := ([], [])
def ref_WideCheck (a0 : Int) (a1 : (List (Int × ((List Int) × (List Int))))) : Option Int :=
(ref_Within (0 : Int) a0 (5 : Int)).bind fun r3 =>
bif (!r3) || (decide ((List.length a1 : Int) > (300 : Int))) then
(some (1 : Int))
else
((forL (ref_WideCheck_b4 a0) (fun x57 => (.brk ())) a1 0 ()).bind fun v84 =>
match v84 with
| .ret v89 =>
(some v89)
| .brk v90 =>
(some (0 : Int)))
theorem ref_WideCheck_ok {a0 : Int} {a1 : (List (Int × ((List Int) × (List Int))))} {r : Int} (h : ref_WideCheck a0 a1 = some r) : FnC Try.prog 20 [aI a0, aD (.slice (.pair tI (.pair (.arr 5 tI) (.arr 5 tI)))) a1] [] (aI r) [] := by
  refine fnC_of_W (B := bodyOf Try.f20) (n := 38) Try.func20 (by kernel_rfl) (by kernel_rfl) (by kernel_rfl) (by kernel_rfl) (by kernel_rfl) ?_
  intro K
  refine W_seq (by kernel_rfl) ?_
  refine W_run 1 [] [0, 1] [] (fr' := [(0, aI a0), (1, aD (.slice (.pair tI (.pair (.arr 5 tI) (.arr 5 tI)))) a1)]) (L' := []) (obs := []) (by kernel_rfl) (by kernel_rfl) (by kernel_rfl) allP0 ?_
  refine seqQ_norm ?_
  refine W_seq (by kernel_rfl) ?_
  refine W_seq (by kernel_rfl) ?_
  refine W_region (by kernel_rfl) ?_
  refine WO_run (j := 1) (k := 1) (orcs := []) (kF := [0, 1, 7]) (kL := []) (fr' := [(0, aI a0), (1, aD (.slice (.pair tI (.pair (.arr 5 tI) (.arr 5 tI)))) a1), (7, aI a0)]) (L' := []) (obs := []) rfl (by kernel_rfl) allP0 ?_
  obtain ⟨r3, h4, h⟩ := bind_of h
  refine WO_call0 (us := [none, none, none]) (d := 8) (p := True) (j := 2) rfl ⟨by kernel_rfl, by kernel_rfl, by kernel_rfl⟩ trivial (ref_Within_ok h4) (by kernel_rfl) ?_
  refine WO_run (j := 8) (k := 6) (orcs := []) (kF := [0, 1, 14]) (kL := []) (fr' := [(0, aI a0), (1, aD (.slice (.pair tI (.pair (.arr 5 tI) (.arr 5 tI)))) a1), (14, aB ((!r3) || (decide ((List.length a1 : Int) > (300 : Int)))))]) (L' := []) (obs := []) rfl (by kernel_rfl) allP0 ?_
  refine WO_fin [0, 1, 14] [] (fr' := [(0, aI a0), (1, aD (.slice (.pair tI (.pair (.arr 5 tI) (.arr 5 tI)))) a1), (14, aB ((!r3) || (decide ((List.length a1 : Int) > (300 : Int)))))]) (L' := []) (by kernel_rfl) (by kernel_rfl) ?_
  refine seqQ_norm ?_
  refine W_cond (o := .tmp 14) (b := (!r3) || (decide ((List.length a1 : Int) > (300 : Int)))) (by kernel_rfl) (by kernel_rfl) (fun h5 => ?_) (fun h5 => ?_)
  · replace h := ofT h5 h
    refine W_seq (by kernel_rfl) ?_
    refine W_run 1 [] [4] [] (fr' := [(4, aI (1 : Int))]) (L' := []) (obs := []) (by kernel_rfl) (by kernel_rfl) (by kernel_rfl) allP0 ?_
    refine seqQ_norm ?_
    obtain rfl := Option.some.inj h
    refine W_ret [4] [] (fr' := [(4, aI (1 : Int))]) (L' := []) (by kernel_rfl) (by kernel_rfl) ?_
    refine seqQ_ret ?_
    exact retQ_mk (by kernel_rfl) (by kernel_rfl) (by kernel_rfl)
  · replace h := ofF h5 h
    refine W_skip [0, 1] [] (fr' := [(0, aI a0), (1, aD (.slice (.pair tI (.pair (.arr 5 tI) (.arr 5 tI)))) a1)]) (L' := []) (by kernel_rfl) (by kernel_rfl) ?_
    refine seqQ_norm ?_
    refine W_seq (by kernel_rfl) ?_
    refine W_seq (by kernel_rfl) ?_
    refine W_run 3 [] [0, 15, 16, 17] [] (fr' := [(0, aI a0), (15, aD (.slice (.pair tI (.pair (.arr 5 tI) (.arr 5 tI)))) a1), (16, aI (List.length a1 : Int)), (17, aI (0 : Int))]) (L' := []) (obs := []) (by kernel_rfl) (by kernel_rfl) (by kernel_rfl) allP0 ?_
    refine seqQ_norm ?_
    refine W_block (id := 0) (by kernel_rfl) ?_
    obtain ⟨v84, h85, h⟩ := bind_of h
    refine W_len (t := 15) (u := (.pair tI (.pair (.arr 5 tI) (.arr 5 tI)))) (xs := a1) (by kernel_rfl) (fun h88 => ?_)
    obtain ⟨h86, h87⟩ := forL_iter h88 h85
    refine W_weaken [0, 15, 16, 17] [] (fr' := ((ref_WideCheck_s5 a0 a1) ((0 : Int), ())).1) (L' := ((ref_WideCheck_s5 a0 a1) ((0 : Int), ())).2) (by kernel_rfl) ?_
    refine W_cutK (W_loop (S := (ref_WideCheck_s5 a0 a1)) (J := (escQ (exQ .ret ref_WideCheck_s6) (exQ (.exit 0) ref_WideCheck_s7))) (by kernel_rfl) ?_ h86 _ v84 h87) ?_
    · rintro ⟨i56, x57⟩ s h
      refine W_seq (by kernel_rfl) ?_
      refine W_run 1 [] [0, 15, 16, 17, 18] [] (fr' := [(0, aI a0), (15, aD (.slice (.pair tI (.pair (.arr 5 tI) (.arr 5 tI)))) a1), (16, aI (List.length a1 : Int)), (17, aI i56), (18, aB (decide (i56 < (List.length a1 : Int))))]) (L' := []) (obs := []) (by kernel_rfl) (by kernel_rfl) (by kernel_rfl) allP0 ?_
      refine seqQ_norm ?_
      refine W_seq (by kernel_rfl) ?_
      refine W_cond (o := .tmp 18) (b := decide (i56 < (List.length a1 : Int))) (by kernel_rfl) (by kernel_rfl) (fun h61 => ?_) (fun h61 => ?_)
      · replace h := stepL_true h61 h
        obtain ⟨v59, _, h60, h, rfl⟩ := h
        refine W_skip [0, 15, 16, 17] [] (fr' := [(0, aI a0), (15, aD (.slice (.pair tI (.pair (.arr 5 tI) (.arr 5 tI)))) a1), (16, aI (List.length a1 : Int)), (17, aI i56)]) (L' := []) (by kernel_rfl) (by kernel_rfl) ?_
        refine seqQ_norm ?_
        refine W_seq (by kernel_rfl) ?_
        refine W_block (id := 1) (by kernel_rfl) ?_
        refine W_seq (by kernel_rfl) ?_
        refine W_run 4 [(1, .val (.dat (.pair tI (.pair (.arr 5 tI) (.arr 5 tI))) v59)), (5, .typed)] [0, 6, 15, 16, 17] [6] (fr' := [(0, aI a0), (6, .one (.ptr 6 0)), (15, aD (.slice (.pair tI (.pair (.arr 5 tI) (.arr 5 tI)))) a1), (16, aI (List.length a1 : Int)), (17, aI i56)]) (L' := [(6, .one (.pair tI (.pair (.arr 5 tI) (.arr 5 tI))) v59)]) (obs := [Idx a1 i56 v59, True]) (by kernel_rfl) (by kernel_rfl) (by kernel_rfl) (allP2 (Idx.of h60) (allP1 trivial)) ?_
        refine seqQ_norm ?_
        refine W_seq (by kernel_rfl) ?_
        refine W_seq (by kernel_rfl) ?_
        refine W_region (by kernel_rfl) ?_
        refine WO_run (j := 4) (k := 4) (orcs := []) (kF := [0, 6, 15, 16, 17, 21, 24]) (kL := [6, 24]) (fr' := [(0, aI a0), (6, .one (.ptr 6 0)), (15, aD (.slice (.pair tI (.pair (.arr 5 tI) (.arr 5 tI)))) a1), (16, aI (List.length a1 : Int)), (17, aI i56), (21, aI a0), (24, .one (.slc 24))]) (L' := [(6, .one (.pair tI (.pair (.arr 5 tI) (.arr 5 tI))) v59), (24, .seq tI [v59.1])]) (obs := []) rfl (by kernel_rfl) allP0 ?_
        obtain ⟨r62, h63, h⟩ := bind_of h
        refine WO_frz 24 (by kernel_rfl) ?_
        refine WO_call0 (us := [none, none]) (d := 25) (p := True) (j := 5) rfl ⟨by kernel_rfl, by kernel_rfl, by kernel_rfl⟩ trivial (ref_Inside_ok h63) (by kernel_rfl) ?_
        refine WO_run (j := 6) (k := 1) (orcs := []) (kF := [0, 6, 15, 16, 17, 26]) (kL := [6]) (fr' := [(0, aI a0), (6, .one (.ptr 6 0)), (15, aD (.slice (.pair tI (.pair (.arr 5 tI) (.arr 5 tI)))) a1), (16, aI (List.length a1 : Int)), (17, aI i56), (26, aB (!r62))]) (L' := [(6, .one (.pair tI (.pair (.arr 5 tI) (.arr 5 tI))) v59)]) (obs := []) rfl (by kernel_rfl) allP0 ?_
        refine WO_fin [0, 6, 15, 16, 17, 26] [6] (fr' := [(0, aI a0), (6, .one (.ptr 6 0)), (15, aD (.slice (.pair tI (.pair (.arr 5 tI) (.arr 5 tI)))) a1), (16, aI (List.length a1 : Int)), (17, aI i56), (26, aB (!r62))]) (L' := [(6, .one (.pair tI (.pair (.arr 5 tI) (.arr 5 tI))) v59)]) (by kernel_rfl) (by kernel_rfl) ?_
        refine seqQ_norm ?_
        refine W_cond (o := .tmp 26) (b := !r62) (by kernel_rfl) (by kernel_rfl) (fun h64 => ?_) (fun h64 => ?_)
        · replace h := ofT h64 h
          refine W_seq (by kernel_rfl) ?_
          refine W_run 1 [] [4] [] (fr' := [(4, aI (4 : Int))]) (L' := []) (obs := []) (by kernel_rfl) (by kernel_rfl) (by kernel_rfl) allP0 ?_
          refine seqQ_norm ?_
          obtain rfl := Option.some.inj h
          refine W_ret [4] [] (fr' := [(4, aI (4 : Int))]) (L' := []) (by kernel_rfl) (by kernel_rfl) ?_
          refine seqQ_ret ?_
          refine blockQ_ret ?_
          refine seqQ_ret ?_
          refine round_ret ?_
          refine escQ_ret ?_
          exact exQ_mk (by kernel_rfl) (by kernel_rfl)
        · replace h := ofF h64 h
          refine W_skip [0, 6, 15, 16, 17] [6] (fr' := [(0, aI a0), (6, .one (.ptr 6 0)), (15, aD (.slice (.pair tI (.pair (.arr 5 tI) (.arr 5 tI)))) a1), (16, aI (List.length a1 : Int)), (17, aI i56)]) (L' := [(6, .one (.pair tI (.pair (.arr 5 tI) (.arr 5 tI))) v59)]) (by kernel_rfl) (by kernel_rfl) ?_
          refine seqQ_norm ?_
          refine W_seq (by kernel_rfl) ?_
          obtain ⟨v80, h81, h⟩ := bind_of h
          refine W_cutK (Q' := (exQ .normal (ref_WideCheck_s3 a0 a1 i56)) v80) ?_ ?_
          · replace h := h81
            refine W_region (by kernel_rfl) ?_
            refine WO_run (j := 2) (k := 2) (orcs := []) (kF := [0, 6, 15, 16, 17, 28]) (kL := [6]) (fr' := [(0, aI a0), (6, .one (.ptr 6 0)), (15, aD (.slice (.pair tI (.pair (.arr 5 tI) (.arr 5 tI)))) a1), (16, aI (List.length a1 : Int)), (17, aI i56), (28, aD (.arr 5 tI) v59.2.1)]) (L' := [(6, .one (.pair tI (.pair (.arr 5 tI) (.arr 5 tI))) v59)]) (obs := []) rfl (by kernel_rfl) allP0 ?_
            obtain ⟨r75, h76, h⟩ := bind_of h
            refine WO_call0 (us := [none]) (d := 29) (p := True) (j := 3) rfl ⟨by kernel_rfl, by kernel_rfl, by kernel_rfl⟩ trivial (ref_Change_ok h76) (by kernel_rfl) ?_
            refine WO_run (j := 5) (k := 2) (orcs := []) (kF := [0, 6, 15, 16, 17, 31]) (kL := [6]) (fr' := [(0, aI a0), (6, .one (.ptr 6 0)), (15, aD (.slice (.pair tI (.pair (.arr 5 tI) (.arr 5 tI)))) a1), (16, aI (List.length a1 : Int)), (17, aI i56), (31, aB (!r75))]) (L' := [(6, .one (.pair tI (.pair (.arr 5 tI) (.arr 5 tI))) v59)]) (obs := []) rfl (by kernel_rfl) allP0 ?_
            rcases Bool.eq_false_or_eq_true (!r75) with h77 | h77
            · replace h := ofT h77 h
              refine WO_run (j := 10) (k := 5) (orcs := [(10, .known true), (12, .known true), (14, .known true), (16, .known true), (19, .val (.dat .bool true))]) (kF := [0, 15, 16, 17, 36]) (kL := [6]) (fr' := [(0, aI a0), (15, aD (.slice (.pair tI (.pair (.arr 5 tI) (.arr 5 tI)))) a1), (16, aI (List.length a1 : Int)), (17, aI i56), (36, aB true)]) (L' := [(6, .one (.pair tI (.pair (.arr 5 tI) (.arr 5 tI))) v59)]) (obs := [((!r75) = true), ((!r75) = true), ((!r75) = true), ((!r75) = true), ((!r75) = true)]) rfl (by kernel_rfl) (allP2 h77 (allP2 h77 (allP2 h77 (allP2 h77 (allP1 h77))))) ?_
              obtain rfl := Option.some.inj h
              refine WO_fin [0, 15, 16, 17, 36] [] (fr' := [(0, aI a0), (15, aD (.slice (.pair tI (.pair (.arr 5 tI) (.arr 5 tI)))) a1), (16, aI (List.length a1 : Int)), (17, aI i56), (36, aB true)]) (L' := []) (by kernel_rfl) (by kernel_rfl) ?_
              exact exQ_mk (by kernel_rfl) (by kernel_rfl)
            · replace h := ofF h77 h
              refine WO_run (j := 7) (k := 2) (orcs := [(10, .known false), (12, .known false)]) (kF := [0, 15, 16, 17, 31, 33]) (kL := [6]) (fr' := [(0, aI a0), (15, aD (.slice (.pair tI (.pair (.arr 5 tI) (.arr 5 tI)))) a1), (16, aI (List.length a1 : Int)), (17, aI i56), (31, aB (!r75)), (33, aD (.arr 5 tI) v59.2.2)]) (L' := [(6, .one (.pair tI (.pair (.arr 5 tI) (.arr 5 tI))) v59)]) (obs := [((!r75) = false), ((!r75) = false)]) rfl (by kernel_rfl) (allP2 h77 (allP1 h77)) ?_
              obtain ⟨r78, h79, h⟩ := bind_of h
              refine WO_call0 (us := [none]) (d := 34) (p := ((!r75) = false)) (j := 8) rfl ⟨by kernel_rfl, by kernel_rfl, by kernel_rfl⟩ h77 (ref_Change_ok h79) (by kernel_rfl) ?_
              refine WO_run (j := 10) (k := 2) (orcs := [(16, .known false), (19, .val (.dat .bool false))]) (kF := [0, 15, 16, 17, 36]) (kL := [6]) (fr' := [(0, aI a0), (15, aD (.slice (.pair tI (.pair (.arr 5 tI) (.arr 5 tI)))) a1), (16, aI (List.length a1 : Int)), (17, aI i56), (36, aB (!r78))]) (L' := [(6, .one (.pair tI (.pair (.arr 5 tI) (.arr 5 tI))) v59)]) (obs := [((!r75) = false), ((!r75) = false)]) rfl (by kernel_rfl) (allP2 h77 (allP1 h77)) ?_
              obtain rfl := Option.some.inj h
              refine WO_fin [0, 15, 16, 17, 36] [] (fr' := [(0, aI a0), (15, aD (.slice (.pair tI (.pair (.arr 5 tI) (.arr 5 tI)))) a1), (16, aI (List.length a1 : Int)), (17, aI i56), (36, aB (!r78))]) (L' := []) (by kernel_rfl) (by kernel_rfl) ?_
              exact exQ_mk (by kernel_rfl) (by kernel_rfl)
          · intro e fr L hJ
            obtain ⟨rfl, rfl, rfl⟩ := hJ
            refine LT_keep [0, 15, 16, 17, 36] [] (fr' := [(0, aI a0), (15, aD (.slice (.pair tI (.pair (.arr 5 tI) (.arr 5 tI)))) a1), (16, aI (List.length a1 : Int)), (17, aI i56), (36, aB v80)]) (L' := []) (by kernel_rfl) ?_
            refine seqQ_norm ?_
            refine W_cond (o := .tmp 36) (b := v80) (by kernel_rfl) (by kernel_rfl) (fun h82 => ?_) (fun h82 => ?_)
            · replace h := ofT h82 h
              refine W_seq (by kernel_rfl) ?_
              refine W_run 1 [] [4] [] (fr' := [(4, aI (3 : Int))]) (L' := []) (obs := []) (by kernel_rfl) (by kernel_rfl) (by kernel_rfl) allP0 ?_
              refine seqQ_norm ?_
              obtain rfl := Option.some.inj h
              refine W_ret [4] [] (fr' := [(4, aI (3 : Int))]) (L' := []) (by kernel_rfl) (by kernel_rfl) ?_
              refine blockQ_ret ?_
              refine seqQ_ret ?_
              refine round_ret ?_
              refine escQ_ret ?_
              exact exQ_mk (by kernel_rfl) (by kernel_rfl)
            · replace h := ofF h82 h
              refine W_skip [0, 15, 16, 17] [] (fr' := [(0, aI a0), (15, aD (.slice (.pair tI (.pair (.arr 5 tI) (.arr 5 tI)))) a1), (16, aI (List.length a1 : Int)), (17, aI i56)]) (L' := []) (by kernel_rfl) (by kernel_rfl) ?_
              refine blockQ_norm ?_
              refine seqQ_norm ?_
              obtain rfl := Option.some.inj h
              refine W_run 2 [] [0, 15, 16, 17] [] (fr' := [(0, aI a0), (15, aD (.slice (.pair tI (.pair (.arr 5 tI) (.arr 5 tI)))) a1), (16, aI (List.length a1 : Int)), (17, aI (w64 (i56 + (1 : Int))))]) (L' := []) (obs := []) (by kernel_rfl) (by kernel_rfl) (by kernel_rfl) allP0 ?_
              exact round_next' (by kernel_rfl) (by kernel_rfl)
      · obtain rfl := stepL_false h61 h
        refine W_exit (id := 0) [] [] (fr' := []) (L' := []) (by kernel_rfl) (by kernel_rfl) ?_
        refine seqQ_exit ?_
        refine round_exit ?_
        refine escQ_brk ?_
        exact exQ_mk (by kernel_rfl) (by kernel_rfl)
    · intro e fr L hJ
      rcases v84 with v89 | v90
      · obtain ⟨rfl, rfl, rfl⟩ := hJ
        obtain rfl := Option.some.inj h
        refine LT_keep [4] [] (fr' := [(4, aI v89)]) (L' := []) (by kernel_rfl) ?_
        refine blockQ_ret ?_
        refine seqQ_ret ?_
        exact retQ_mk (by kernel_rfl) (by kernel_rfl) (by kernel_rfl)
      · obtain ⟨rfl, rfl, rfl⟩ := hJ
        refine LT_keep [] [] (fr' := []) (L' := []) (by kernel_rfl) ?_
        refine blockQ_hit ?_
        refine seqQ_norm ?_
        refine W_seq (by kernel_rfl) ?_
        refine W_run 1 [] [4] [] (fr' := [(4, aI (0 : Int))]) (L' := []) (obs := []) (by kernel_rfl) (by kernel_rfl) (by kernel_rfl) allP0 ?_
        refine seqQ_norm ?_
        obtain rfl := Option.some.inj h
        refine W_ret [4] [] (fr' := [(4, aI (0 : Int))]) (L' := []) (by kernel_rfl) (by kernel_rfl) ?_
        exact retQ_mk (by kernel_rfl) (by kernel_rfl) (by kernel_rfl)

def ref_Power_b1 (a0 : Int) (i5 : Int) (x6 : Int) : Option (Flow Int Int) :=
some (.next (w64 (x6 * a0)))
@[reducible] def ref_Power_s2 (a0 : Int) (a1 : Int) (v : Int × Int) : Fr × LL := ([(0, aI a0), (1, aI a1), (5, aI v.2), (6, aI v.1)], [])
@[reducible] def ref_Power_s3 (v : Int) : Fr × LL := ([(5, aI v)], [])
def ref_Power (a0 : Int) (a1 : Int) : Option Int :=
(forI (0 : Int) a1 (ref_Power_b1 a0) (fun x6 => x6) (1 : Int)).bind fun v10 =>
some v10
theorem ref_Power_ok {a0 : Int} {a1 : Int} {r : Int} (h : ref_Power a0 a1 = some r) : FnC Try.prog 11 [aI a0, aI a1] [] (aI r) [] := by
  refine fnC_of_W (B := bodyOf Try.f11) (n := 16) Try.func11 (by kernel_rfl) (by kernel_rfl) (by kernel_rfl) (by kernel_rfl) (by kernel_rfl) ?_
  intro K
  refine W_seq (by kernel_rfl) ?_
  refine W_run 1 [] [0, 1] [] (fr' := [(0, aI a0), (1, aI a1)]) (L' := []) (obs := []) (by kernel_rfl) (by kernel_rfl) (by kernel_rfl) allP0 ?_
  refine seqQ_norm ?_
  refine W_seq (by kernel_rfl) ?_
  refine W_run 1 [] [0, 1, 5] [] (fr' := [(0, aI a0), (1, aI a1), (5, aI (1 : Int))]) (L' := []) (obs := []) (by kernel_rfl) (by kernel_rfl) (by kernel_rfl) allP0 ?_
  refine seqQ_norm ?_
  refine W_seq (by kernel_rfl) ?_
  refine W_seq (by kernel_rfl) ?_
  refine W_run 1 [] [0, 1, 5, 6] [] (fr' := [(0, aI a0), (1, aI a1), (5, aI (1 : Int)), (6, aI (0 : Int))]) (L' := []) (obs := []) (by kernel_rfl) (by kernel_rfl) (by kernel_rfl) allP0 ?_
  refine seqQ_norm ?_
  refine W_block (id := 0) (by kernel_rfl) ?_
  obtain ⟨v10, h11, h⟩ := bind_of h
  obtain ⟨h12, h13⟩ := forI_iter h11
  refine W_weaken [0, 1, 5, 6] [] (fr' := ((ref_Power_s2 a0 a1) ((0 : Int), (1 : Int))).1) (L' := ((ref_Power_s2 a0 a1) ((0 : Int), (1 : Int))).2) (by kernel_rfl) ?_
  refine W_cutK (W_loop (S := (ref_Power_s2 a0 a1)) (J := (exQ (.exit 0) ref_Power_s3)) (by kernel_rfl) ?_ h12 _ v10 h13) ?_
  · rintro ⟨i5, x6⟩ s h
    refine W_seq (by kernel_rfl) ?_
    refine W_seq (by kernel_rfl) ?_
    refine W_run 3 [] [0, 1, 5, 6, 9] [] (fr' := [(0, aI a0), (1, aI a1), (5, aI x6), (6, aI i5), (9, aB (decide (i5 < a1)))]) (L' := []) (obs := []) (by kernel_rfl) (by kernel_rfl) (by kernel_rfl) allP0 ?_
    refine seqQ_norm ?_
    refine W_cond (o := .tmp 9) (b := decide (i5 < a1)) (by kernel_rfl) (by kernel_rfl) (fun h8 => ?_) (fun h8 => ?_)
    · replace h := stepI_true h8 h
      obtain ⟨_, h, rfl⟩ := h
      refine W_skip [0, 1, 5, 6] [] (fr' := [(0, aI a0), (1, aI a1), (5, aI x6), (6, aI i5)]) (L' := []) (by kernel_rfl) (by kernel_rfl) ?_
      refine seqQ_norm ?_
      refine W_seq (by kernel_rfl) ?_
      refine W_block (id := 1) (by kernel_rfl) ?_
      refine W_run 4 [] [0, 1, 5, 6] [] (fr' := [(0, aI a0), (1, aI a1), (5, aI (w64 (x6 * a0))), (6, aI i5)]) (L' := []) (obs := []) (by kernel_rfl) (by kernel_rfl) (by kernel_rfl) allP0 ?_
      refine blockQ_norm ?_
      refine seqQ_norm ?_
      obtain rfl := Option.some.inj h
      refine W_run 3 [] [0, 1, 5, 6] [] (fr' := [(0, aI a0), (1, aI a1), (5, aI (w64 (x6 * a0))), (6, aI (w64 (i5 + (1 : Int))))]) (L' := []) (obs := []) (by kernel_rfl) (by kernel_rfl) (by kernel_rfl) allP0 ?_
      exact round_next' (by kernel_rfl) (by kernel_rfl)
    · obtain rfl := stepI_false h8 h
      refine W_exit (id := 0) [5] [] (fr' := [(5, aI x6)]) (L' := []) (by kernel_rfl) (by kernel_rfl) ?_
      refine seqQ_exit ?_
      refine round_exit ?_
      exact exQ_mk (by kernel_rfl) (by kernel_rfl)
  · intro e fr L hJ
    obtain ⟨rfl, rfl, rfl⟩ := hJ
    refine LT_keep [5] [] (fr' := [(5, aI v10)]) (L' := []) (by kernel_rfl) ?_
    refine blockQ_hit ?_
    refine seqQ_norm ?_
    refine W_seq (by kernel_rfl) ?_
    refine W_run 2 [] [4] [] (fr' := [(4, aI v10)]) (L' := []) (obs := []) (by kernel_rfl) (by kernel_rfl) (by kernel_rfl) allP0 ?_
    refine seqQ_norm ?_
    obtain rfl := Option.some.inj h
    refine W_ret [4] [] (fr' := [(4, aI v10)]) (L' := []) (by kernel_rfl) (by kernel_rfl) ?_
    exact retQ_mk (by kernel_rfl) (by kernel_rfl) (by kernel_rfl)

def ref_Same : Option (List Int) :=
some [(0 : Int), (1 : Int), (2 : Int), (3 : Int), (4 : Int)]
theorem ref_Same_ok {r : (List Int)} (h : ref_Same = some r) : FnC Try.prog 25 [] [] (aD (.arr 5 tI) r) [] := by
  refine fnC_of_W (B := bodyOf Try.f25) (n := 2) Try.func25 (by kernel_rfl) (by kernel_rfl) (by kernel_rfl) (by kernel_rfl) (by kernel_rfl) ?_
  intro K
  refine W_seq (by kernel_rfl) ?_
  refine W_run 1 [(1, .typed)] [0] [0] (fr' := [(0, .one (.ptr 0 0))]) (L' := [(0, .one (.arr 5 tI) [(0 : Int), (0 : Int), (0 : Int), (0 : Int), (0 : Int)])]) (obs := []) (by kernel_rfl) (by kernel_rfl) (by kernel_rfl) allP0 ?_
  refine seqQ_norm ?_
  refine W_seq (by kernel_rfl) ?_
  refine W_run 2 [] [0] [0] (fr' := [(0, .one (.ptr 0 0))]) (L' := [(0, .one (.arr 5 tI) [(0 : Int), (1 : Int), (2 : Int), (3 : Int), (4 : Int)])]) (obs := [True]) (by kernel_rfl) (by kernel_rfl) (by kernel_rfl) (allP1 trivial) ?_
  refine seqQ_norm ?_
  obtain rfl := Option.some.inj h
  refine W_ret [0] [0] (fr' := [(0, .one (.ptr 0 0))]) (L' := [(0, .one (.arr 5 tI) [(0 : Int), (1 : Int), (2 : Int), (3 : Int), (4 : Int)])]) (by kernel_rfl) (by kernel_rfl) ?_
  exact retQ_mk (by kernel_rfl) (by kernel_rfl) (by kernel_rfl)

def ref_Bit (a0 : Int) (a1 : Int) : Option Bool :=
bif (decide (a1 ≥ (0 : Int))) && (decide (a1 < (63 : Int))) then
((ck (0 ≤ IntKind.wrap .u64 (a1))).bind fun _ =>
some ((bAnd .i64 a0 (bShl .i64 (1 : Int) (IntKind.wrap .u64 (a1)))) != (0 : Int)))
else
(some false)
theorem ref_Bit_ok {a0 : Int} {a1 : Int} {r : Bool} (h : ref_Bit a0 a1 = some r) : FnC Try.prog 32 [aI a0, aI a1] [] (aB r) [] := by
  refine fnC_of_W (B := bodyOf Try.f32) (n := 19) Try.func32 (by kernel_rfl) (by kernel_rfl) (by kernel_rfl) (by kernel_rfl) (by kernel_rfl) ?_
  intro K
  refine W_seq (by kernel_rfl) ?_
  refine W_run 1 [] [0, 1] [] (fr' := [(0, aI a0), (1, aI a1)]) (L' := []) (obs := []) (by kernel_rfl) (by kernel_rfl) (by kernel_rfl) allP0 ?_
  refine seqQ_norm ?_
  refine W_seq (by kernel_rfl) ?_
  refine W_region (by kernel_rfl) ?_
  refine WO_run (j := 7) (k := 7) (orcs := []) (kF := [0, 1, 11]) (kL := []) (fr' := [(0, aI a0), (1, aI a1), (11, aB ((decide (a1 ≥ (0 : Int))) && (decide (a1 < (63 : Int)))))]) (L' := []) (obs := []) rfl (by kernel_rfl) allP0 ?_
  rcases Bool.eq_false_or_eq_true ((decide (a1 ≥ (0 : Int))) && (decide (a1 < (63 : Int)))) with h1 | h1
  · replace h := ofT h1 h
    obtain ⟨_, h2, h⟩ := bind_of h
    replace h2 := ck_some h2
    refine WO_run (j := 15) (k := 8) (orcs := [(14, .known true), (16, .known true), (18, .known true), (20, .known true), (22, .known true), (24, .known true), (27, .val (.dat .bool true))]) (kF := [4]) (kL := []) (fr' := [(4, aB ((bAnd .i64 a0 (bShl .i64 (1 : Int) (IntKind.wrap .u64 (a1)))) != (0 : Int)))]) (L' := []) (obs := [(((decide (a1 ≥ (0 : Int))) && (decide (a1 < (63 : Int)))) = true), (((decide (a1 ≥ (0 : Int))) && (decide (a1 < (63 : Int)))) = true), (((decide (a1 ≥ (0 : Int))) && (decide (a1 < (63 : Int)))) = true), (((decide (a1 ≥ (0 : Int))) && (decide (a1 < (63 : Int)))) = true), (0 ≤ IntKind.wrap .u64 (a1)), (((decide (a1 ≥ (0 : Int))) && (decide (a1 < (63 : Int)))) = true), (((decide (a1 ≥ (0 : Int))) && (decide (a1 < (63 : Int)))) = true), (((decide (a1 ≥ (0 : Int))) && (decide (a1 < (63 : Int)))) = true)]) rfl (by kernel_rfl) (allP2 h1 (allP2 h1 (allP2 h1 (allP2 h1 (allP2 h2 (allP2 h1 (allP2 h1 (allP1 h1)))))))) ?_
    refine WO_fin [4] [] (fr' := [(4, aB ((bAnd .i64 a0 (bShl .i64 (1 : Int) (IntKind.wrap .u64 (a1)))) != (0 : Int)))]) (L' := []) (by kernel_rfl) (by kernel_rfl) ?_
    refine seqQ_norm ?_
    obtain rfl := Option.some.inj h
    refine W_ret [4] [] (fr' := [(4, aB ((bAnd .i64 a0 (bShl .i64 (1 : Int) (IntKind.wrap .u64 (a1)))) != (0 : Int)))]) (L' := []) (by kernel_rfl) (by kernel_rfl) ?_
    exact retQ_mk (by kernel_rfl) (by kernel_rfl) (by kernel_rfl)
  · replace h := ofF h1 h
    refine WO_run (j := 15) (k := 8) (orcs := [(14, .known false), (16, .known false), (18, .known false), (20, .known false), (22, .known false), (24, .known false), (27, .val (.dat .bool false))]) (kF := [4]) (kL := []) (fr' := [(4, aB false)]) (L' := []) (obs := [(((decide (a1 ≥ (0 : Int))) && (decide (a1 < (63 : Int)))) = false), (((decide (a1 ≥ (0 : Int))) && (decide (a1 < (63 : Int)))) = false), (((decide (a1 ≥ (0 : Int))) && (decide (a1 < (63 : Int)))) = false), (((decide (a1 ≥ (0 : Int))) && (decide (a1 < (63 : Int)))) = false), (((decide (a1 ≥ (0 : Int))) && (decide (a1 < (63 : Int)))) = false), (((decide (a1 ≥ (0 : Int))) && (decide (a1 < (63 : Int)))) = false), (((decide (a1 ≥ (0 : Int))) && (decide (a1 < (63 : Int)))) = false)]) rfl (by kernel_rfl) (allP2 h1 (allP2 h1 (allP2 h1 (allP2 h1 (allP2 h1 (allP2 h1 (allP1 h1))))))) ?_
    refine WO_fin [4] [] (fr' := [(4, aB false)]) (L' := []) (by kernel_rfl) (by kernel_rfl) ?_
    refine seqQ_norm ?_
    obtain rfl := Option.some.inj h
    refine W_ret [4] [] (fr' := [(4, aB false)]) (L' := []) (by kernel_rfl) (by kernel_rfl) ?_
    exact retQ_mk (by kernel_rfl) (by kernel_rfl) (by kernel_rfl)

def ref_Gates_g5 (a1 : Int) (i202 : Int) (x203 : (List Bool)) (v205 : (Int × (Int × Int))) : Option (List Bool) :=
bif v205.1 == (1 : Int) then
((ref_Bit a1 v205.2.1).bind fun r269 =>
(idx x203 i202).bind fun v271 =>
some (List.set x203 (Int.toNat i202) r269))
else
(bif v205.1 == (2 : Int) then
((idx x203 v205.2.1).bind fun v274 =>
(idx x203 i202).bind fun v276 =>
some (List.set x203 (Int.toNat i202) (!v274)))
else
(bif v205.1 == (3 : Int) then
((idx x203 v205.2.1).bind fun v279 =>
bif v279 then
((idx x203 v205.2.2).bind fun v282 =>
(idx x203 i202).bind fun v284 =>
some (List.set x203 (Int.toNat i202) v282))
else
((idx x203 i202).bind fun v286 =>
some (List.set x203 (Int.toNat i202) false)))
else
(bif v205.1 == (4 : Int) then
((idx x203 v205.2.1).bind fun v289 =>
bif v289 then
((idx x203 i202).bind fun v292 =>
some (List.set x203 (Int.toNat i202) true))
else
((idx x203 v205.2.2).bind fun v294 =>
(idx x203 i202).bind fun v296 =>
some (List.set x203 (Int.toNat i202) v294)))
else
(some x203))))
@[reducible] def ref_Gates_s6 (a0 : (List (Int × (Int × Int)))) (a1 : Int) (i202 : Int) (v : (List Bool)) : Fr × LL := ([(1, aI a1), (5, .one (.slc 10)), (11, aD (.slice (.pair tI (.pair tI tI))) a0), (12, aI (List.length a0 : Int)), (13, aI i202)], [(10, .seq .bool v)])
def ref_Gates_b7 (a1 : Int) (i202 : Int) (v205 : (Int × (Int × Int))) (x203 : (List Bool)) : Option (Flow (List Bool) (List Bool)) :=
(ref_Gates_g5 a1 i202 x203 v205).bind fun v298 =>
some (.next v298)
@[reducible] def ref_Gates_s8 (a0 : (List (Int × (Int × Int)))) (a1 : Int) (v : Int × (List Bool)) : Fr × LL := ([(1, aI a1), (5, .one (.slc 10)), (11, aD (.slice (.pair tI (.pair tI tI))) a0), (12, aI (List.length a0 : Int)), (13, aI v.1)], [(10, .seq .bool v.2)])
@[reducible] def ref_Gates_s9 (v : (List Bool)) : Fr × LL := ([(5, .one (.slc 10))], [(10, .seq .bool v)])
def ref_Gates (a0 : (List (Int × (Int × Int)))) (a1 : Int) : Option (List Bool) :=
(ck (0 ≤ (List.length a0 : Int) ∧ (List.length a0 : Int) = (List.length a0 : Int) ∧ (List.length a0 : Int) ≤ 4294967296)).bind fun _ =>
(forL (ref_Gates_b7 a1) (fun x203 => x203) a0 0 (List.replicate (Int.toNat (List.length a0 : Int)) false)).bind fun v301 =>
some v301
theorem ref_Gates_ok {a0 : (List (Int × (Int × Int)))} {a1 : Int} {r : (List Bool)} (h : ref_Gates a0 a1 = some r) : FnC Try.prog 17 [aD (.slice (.pair tI (.pair tI tI))) a0, aI a1] [] (aD (.slice .bool) r) [] := by
  refine fnC_of_W (B := bodyOf Try.f17) (n := 76) Try.func17 (by kernel_rfl) (by kernel_rfl) (by kernel_rfl) (by kernel_rfl) (by kernel_rfl) ?_
  intro K
  refine W_seq (by kernel_rfl) ?_
  refine W_run 1 [] [0, 1] [] (fr' := [(0, aD (.slice (.pair tI (.pair tI tI))) a0), (1, aI a1)]) (L' := []) (obs := []) (by kernel_rfl) (by kernel_rfl) (by kernel_rfl) allP0 ?_
  refine seqQ_norm ?_
  refine W_seq (by kernel_rfl) ?_
  obtain ⟨_, h1, h⟩ := bind_of h
  replace h1 := ck_some h1
  refine W_run 4 [] [0, 1, 5] [10] (fr' := [(0, aD (.slice (.pair tI (.pair tI tI))) a0), (1, aI a1), (5, .one (.slc 10))]) (L' := [(10, .seq .bool (List.replicate (Int.toNat (List.length a0 : Int)) false))]) (obs := [0 ≤ (List.length a0 : Int) ∧ (List.length a0 : Int) = (List.length a0 : Int) ∧ SmallLen (List.length a0 : Int)]) (by kernel_rfl) (by kernel_rfl) (by kernel_rfl) (allP1 h1) ?_
  refine seqQ_norm ?_
  refine W_seq (by kernel_rfl) ?_
  refine W_seq (by kernel_rfl) ?_
  refine W_run 3 [] [1, 5, 11, 12, 13] [10] (fr' := [(1, aI a1), (5, .one (.slc 10)), (11, aD (.slice (.pair tI (.pair tI tI))) a0), (12, aI (List.length a0 : Int)), (13, aI (0 : Int))]) (L' := [(10, .seq .bool (List.replicate (Int.toNat (List.length a0 : Int)) false))]) (obs := []) (by kernel_rfl) (by kernel_rfl) (by kernel_rfl) allP0 ?_
  refine seqQ_norm ?_
  refine W_block (id := 0) (by kernel_rfl) ?_
  obtain ⟨v301, h302, h⟩ := bind_of h
  refine W_len (t := 11) (u := (.pair tI (.pair tI tI))) (xs := a0) (by kernel_rfl) (fun h305 => ?_)
  obtain ⟨h303, h304⟩ := forL_iter h305 h302
  refine W_weaken [1, 5, 11, 12, 13] [10] (fr' := ((ref_Gates_s8 a0 a1) ((0 : Int), List.replicate (Int.toNat (List.length a0 : Int)) false)).1) (L' := ((ref_Gates_s8 a0 a1) ((0 : Int), List.replicate (Int.toNat (List.length a0 : Int)) false)).2) (by kernel_rfl) ?_
  refine W_cutK (W_loop (S := (ref_Gates_s8 a0 a1)) (J := (exQ (.exit 0) ref_Gates_s9)) (by kernel_rfl) ?_ h303 _ v301 h304) ?_
  · rintro ⟨i202, x203⟩ s h
    refine W_seq (by kernel_rfl) ?_
    refine W_run 1 [] [1, 5, 11, 12, 13, 14] [10] (fr' := [(1, aI a1), (5, .one (.slc 10)), (11, aD (.slice (.pair tI (.pair tI tI))) a0), (12, aI (List.length a0 : Int)), (13, aI i202), (14, aB (decide (i202 < (List.length a0 : Int))))]) (L' := [(10, .seq .bool x203)]) (obs := []) (by kernel_rfl) (by kernel_rfl) (by kernel_rfl) allP0 ?_
    refine seqQ_norm ?_
    refine W_seq (by kernel_rfl) ?_
    refine W_cond (o := .tmp 14) (b := decide (i202 < (List.length a0 : Int))) (by kernel_rfl) (by kernel_rfl) (fun h207 => ?_) (fun h207 => ?_)
    · replace h := stepL_true h207 h
      obtain ⟨v205, _, h206, h, rfl⟩ := h
      refine W_skip [1, 5, 11, 12, 13] [10] (fr' := [(1, aI a1), (5, .one (.slc 10)), (11, aD (.slice (.pair tI (.pair tI tI))) a0), (12, aI (List.length a0 : Int)), (13, aI i202)]) (L' := [(10, .seq .bool x203)]) (by kernel_rfl) (by kernel_rfl) ?_
      refine seqQ_norm ?_
      refine W_seq (by kernel_rfl) ?_
      obtain ⟨v298, h299, h⟩ := bind_of h
      refine W_cutK (Q' := (exQ .normal (ref_Gates_s6 a0 a1 i202)) v298) ?_ ?_
      · replace h := h299
        refine W_block (id := 1) (by kernel_rfl) ?_
        refine W_seq (by kernel_rfl) ?_
        refine W_run 6 [(3, .val (.dat (.pair tI (.pair tI tI)) v205)), (7, .typed)] [1, 5, 6, 7, 11, 12, 13] [10, 7] (fr' := [(1, aI a1), (5, .one (.slc 10)), (6, aI i202), (7, .one (.ptr 7 0)), (11, aD (.slice (.pair tI (.pair tI tI))) a0), (12, aI (List.length a0 : Int)), (13, aI i202)]) (L' := [(10, .seq .bool x203), (7, .one (.pair tI (.pair tI tI)) v205)]) (obs := [Idx a0 i202 v205, True]) (by kernel_rfl) (by kernel_rfl) (by kernel_rfl) (allP2 (Idx.of h206) (allP1 trivial)) ?_
        refine seqQ_norm ?_
        refine W_seq (by kernel_rfl) ?_
        refine W_run 2 [] [1, 5, 6, 7, 11, 12, 13, 19] [10, 7] (fr' := [(1, aI a1), (5, .one (.slc 10)), (6, aI i202), (7, .one (.ptr 7 0)), (11, aD (.slice (.pair tI (.pair tI tI))) a0), (12, aI (List.length a0 : Int)), (13, aI i202), (19, aI v205.1)]) (L' := [(10, .seq .bool x203), (7, .one (.pair tI (.pair tI tI)) v205)]) (obs := []) (by kernel_rfl) (by kernel_rfl) (by kernel_rfl) allP0 ?_
        refine seqQ_norm ?_
        refine W_block (id := 2) (by kernel_rfl) ?_
        refine W_seq (by kernel_rfl) ?_
        refine W_run 2 [] [1, 5, 6, 7, 11, 12, 13, 19, 20] [10, 7] (fr' := [(1, aI a1), (5, .one (.slc 10)), (6, aI i202), (7, .one (.ptr 7 0)), (11, aD (.slice (.pair tI (.pair tI tI))) a0), (12, aI (List.length a0 : Int)), (13, aI i202), (19, aI v205.1), (20, aB (v205.1 == (1 : Int)))]) (L' := [(10, .seq .bool x203), (7, .one (.pair tI (.pair tI tI)) v205)]) (obs := []) (by kernel_rfl) (by kernel_rfl) (by kernel_rfl) allP0 ?_
        refine seqQ_norm ?_
        refine W_cond (o := .tmp 20) (b := v205.1 == (1 : Int)) (by kernel_rfl) (by kernel_rfl) (fun h268 => ?_) (fun h268 => ?_)
        · replace h := ofT h268 h
          refine W_region (by kernel_rfl) ?_
          refine WO_run (j := 5) (k := 5) (orcs := []) (kF := [1, 5, 11, 12, 13, 22, 23, 24, 26]) (kL := [7, 10]) (fr' := [(1, aI a1), (5, .one (.slc 10)), (11, aD (.slice (.pair tI (.pair tI tI))) a0), (12, aI (List.length a0 : Int)), (13, aI i202), (22, .one (.slc 10)), (23, aI i202), (24, aI a1), (26, aI v205.2.1)]) (L' := [(7, .one (.pair tI (.pair tI tI)) v205), (10, .seq .bool x203)]) (obs := []) rfl (by kernel_rfl) allP0 ?_
          obtain ⟨r269, h270, h⟩ := bind_of h
          refine WO_call0 (us := [none, none]) (d := 27) (p := True) (j := 6) rfl ⟨by kernel_rfl, by kernel_rfl, by kernel_rfl⟩ trivial (ref_Bit_ok h270) (by kernel_rfl) ?_
          obtain ⟨v271, h272, h⟩ := bind_of h
          refine WO_run (j := 8) (k := 2) (orcs := []) (kF := [1, 5, 11, 12, 13]) (kL := [7, 10]) (fr' := [(1, aI a1), (5, .one (.slc 10)), (11, aD (.slice (.pair tI (.pair tI tI))) a0), (12, aI (List.length a0 : Int)), (13, aI i202)]) (L' := [(7, .one (.pair tI (.pair tI tI)) v205), (10, .seq .bool (List.set x203 (Int.toNat i202) r269))]) (obs := [InR i202 (List.length x203), InR i202 (List.length x203)]) rfl (by kernel_rfl) (allP2 (InR.of h272) (allP1 (InR.of h272))) ?_
          obtain rfl := Option.some.inj h
          refine WO_fin [1, 5, 11, 12, 13] [10] (fr' := [(1, aI a1), (5, .one (.slc 10)), (11, aD (.slice (.pair tI (.pair tI tI))) a0), (12, aI (List.length a0 : Int)), (13, aI i202)]) (L' := [(10, .seq .bool (List.set x203 (Int.toNat i202) r269))]) (by kernel_rfl) (by kernel_rfl) ?_
          refine blockQ_norm ?_
          refine blockQ_norm ?_
          exact exQ_mk (by kernel_rfl) (by kernel_rfl)
        · replace h := ofF h268 h
          refine W_seq (by kernel_rfl) ?_
          refine W_run 2 [] [1, 5, 6, 7, 11, 12, 13, 19, 29] [10, 7] (fr' := [(1, aI a1), (5, .one (.slc 10)), (6, aI i202), (7, .one (.ptr 7 0)), (11, aD (.slice (.pair tI (.pair tI tI))) a0), (12, aI (List.length a0 : Int)), (13, aI i202), (19, aI v205.1), (29, aB (v205.1 == (2 : Int)))]) (L' := [(10, .seq .bool x203), (7, .one (.pair tI (.pair tI tI)) v205)]) (obs := []) (by kernel_rfl) (by kernel_rfl) (by kernel_rfl) allP0 ?_
          refine seqQ_norm ?_
          refine W_cond (o := .tmp 29) (b := v205.1 == (2 : Int)) (by kernel_rfl) (by kernel_rfl) (fun h273 => ?_) (fun h273 => ?_)
          · replace h := ofT h273 h
            obtain ⟨v274, h275, h⟩ := bind_of h
            obtain ⟨v276, h277, h⟩ := bind_of h
            obtain rfl := Option.some.inj h
            refine W_run 10 [(13, .val (.dat .bool v274))] [1, 5, 11, 12, 13] [10] (fr' := [(1, aI a1), (5, .one (.slc 10)), (11, aD (.slice (.pair tI (.pair tI tI))) a0), (12, aI (List.length a0 : Int)), (13, aI i202)]) (L' := [(10, .seq .bool (List.set x203 (Int.toNat i202) (!v274)))]) (obs := [InR v205.2.1 (List.length x203), Idx x203 v205.2.1 v274, InR i202 (List.length x203), InR i202 (List.length x203)]) (by kernel_rfl) (by kernel_rfl) (by kernel_rfl) (allP2 (InR.of h275) (allP2 (Idx.of h275) (allP2 (InR.of h277) (allP1 (InR.of h277))))) ?_
            refine blockQ_norm ?_
            refine blockQ_norm ?_
            exact exQ_mk (by kernel_rfl) (by kernel_rfl)
          · replace h := ofF h273 h
            refine W_seq (by kernel_rfl) ?_
            refine W_run 2 [] [1, 5, 6, 7, 11, 12, 13, 19, 40] [10, 7] (fr' := [(1, aI a1), (5, .one (.slc 10)), (6, aI i202), (7, .one (.ptr 7 0)), (11, aD (.slice (.pair tI (.pair tI tI))) a0), (12, aI (List.length a0 : Int)), (13, aI i202), (19, aI v205.1), (40, aB (v205.1 == (3 : Int)))]) (L' := [(10, .seq .bool x203), (7, .one (.pair tI (.pair tI tI)) v205)]) (obs := []) (by kernel_rfl) (by kernel_rfl) (by kernel_rfl) allP0 ?_
            refine seqQ_norm ?_
            refine W_cond (o := .tmp 40) (b := v205.1 == (3 : Int)) (by kernel_rfl) (by kernel_rfl) (fun h278 => ?_) (fun h278 => ?_)
            · replace h := ofT h278 h
              obtain ⟨v279, h280, h⟩ := bind_of h
              refine W_region (by kernel_rfl) ?_
              refine WO_run (j := 8) (k := 8) (orcs := [(13, .val (.dat .bool v279))]) (kF := [1, 5, 7, 11, 12, 13, 42, 43, 49]) (kL := [7, 10]) (fr' := [(1, aI a1), (5, .one (.slc 10)), (7, .one (.ptr 7 0)), (11, aD (.slice (.pair tI (.pair tI tI))) a0), (12, aI (List.length a0 : Int)), (13, aI i202), (42, .one (.slc 10)), (43, aI i202), (49, aB v279)]) (L' := [(7, .one (.pair tI (.pair tI tI)) v205), (10, .seq .bool x203)]) (obs := [InR v205.2.1 (List.length x203), Idx x203 v205.2.1 v279]) rfl (by kernel_rfl) (allP2 (InR.of h280) (allP1 (Idx.of h280))) ?_
              rcases Bool.eq_false_or_eq_true (v279) with h281 | h281
              · replace h := ofT h281 h
                obtain ⟨v282, h283, h⟩ := bind_of h
                obtain ⟨v284, h285, h⟩ := bind_of h
                refine WO_run (j := 16) (k := 8) (orcs := [(16, .known true), (18, .known true), (20, .known true), (22, .known true), (24, .known true), (25, .val (.dat .bool v282)), (27, .val (.dat .bool true))]) (kF := [1, 5, 11, 12, 13]) (kL := [7, 10]) (fr' := [(1, aI a1), (5, .one (.slc 10)), (11, aD (.slice (.pair tI (.pair tI tI))) a0), (12, aI (List.length a0 : Int)), (13, aI i202)]) (L' := [(7, .one (.pair tI (.pair tI tI)) v205), (10, .seq .bool (List.set x203 (Int.toNat i202) v282))]) (obs := [(v279 = true), (v279 = true), (v279 = true), (v279 = true), InR v205.2.2 (List.length x203), (v279 = true), Idx x203 v205.2.2 v282, (v279 = true), InR i202 (List.length x203), InR i202 (List.length x203)]) rfl (by kernel_rfl) (allP2 h281 (allP2 h281 (allP2 h281 (allP2 h281 (allP2 (InR.of h283) (allP2 h281 (allP2 (Idx.of h283) (allP2 h281 (allP2 (InR.of h285) (allP1 (InR.of h285))))))))))) ?_
                obtain rfl := Option.some.inj h
                refine WO_fin [1, 5, 11, 12, 13] [10] (fr' := [(1, aI a1), (5, .one (.slc 10)), (11, aD (.slice (.pair tI (.pair tI tI))) a0), (12, aI (List.length a0 : Int)), (13, aI i202)]) (L' := [(10, .seq .bool (List.set x203 (Int.toNat i202) v282))]) (by kernel_rfl) (by kernel_rfl) ?_
                refine blockQ_norm ?_
                refine blockQ_norm ?_
                exact exQ_mk (by kernel_rfl) (by kernel_rfl)
              · replace h := ofF h281 h
                obtain ⟨v286, h287, h⟩ := bind_of h
                refine WO_run (j := 16) (k := 8) (orcs := [(16, .known false), (18, .known false), (20, .known false), (22, .known false), (24, .known false), (27, .val (.dat .bool false))]) (kF := [1, 5, 11, 12, 13]) (kL := [7, 10]) (fr' := [(1, aI a1), (5, .one (.slc 10)), (11, aD (.slice (.pair tI (.pair tI tI))) a0), (12, aI (List.length a0 : Int)), (13, aI i202)]) (L' := [(7, .one (.pair tI (.pair tI tI)) v205), (10, .seq .bool (List.set x203 (Int.toNat i202) false))]) (obs := [(v279 = false), (v279 = false), (v279 = false), (v279 = false), (v279 = false), (v279 = false), InR i202 (List.length x203), InR i202 (List.length x203)]) rfl (by kernel_rfl) (allP2 h281 (allP2 h281 (allP2 h281 (allP2 h281 (allP2 h281 (allP2 h281 (allP2 (InR.of h287) (allP1 (InR.of h287))))))))) ?_
                obtain rfl := Option.some.inj h
                refine WO_fin [1, 5, 11, 12, 13] [10] (fr' := [(1, aI a1), (5, .one (.slc 10)), (11, aD (.slice (.pair tI (.pair tI tI))) a0), (12, aI (List.length a0 : Int)), (13, aI i202)]) (L' := [(10, .seq .bool (List.set x203 (Int.toNat i202) false))]) (by kernel_rfl) (by kernel_rfl) ?_
                refine blockQ_norm ?_
                refine blockQ_norm ?_
                exact exQ_mk (by kernel_rfl) (by kernel_rfl)
            · replace h := ofF h278 h
              refine W_seq (by kernel_rfl) ?_
              refine W_run 2 [] [1, 5, 6, 7, 11, 12, 13, 57] [10, 7] (fr' := [(1, aI a1), (5, .one (.slc 10)), (6, aI i202), (7, .one (.ptr 7 0)), (11, aD (.slice (.pair tI (.pair tI tI))) a0), (12, aI (List.length a0 : Int)), (13, aI i202), (57, aB (v205.1 == (4 : Int)))]) (L' := [(10, .seq .bool x203), (7, .one (.pair tI (.pair tI tI)) v205)]) (obs := []) (by kernel_rfl) (by kernel_rfl) (by kernel_rfl) allP0 ?_
              refine seqQ_norm ?_
              refine W_cond (o := .tmp 57) (b := v205.1 == (4 : Int)) (by kernel_rfl) (by kernel_rfl) (fun h288 => ?_) (fun h288 => ?_)
              · replace h := ofT h288 h
                obtain ⟨v289, h290, h⟩ := bind_of h
                refine W_region (by kernel_rfl) ?_
                refine WO_run (j := 8) (k := 8) (orcs := [(13, .val (.dat .bool v289))]) (kF := [1, 5, 7, 11, 12, 13, 59, 60, 66]) (kL := [7, 10]) (fr' := [(1, aI a1), (5, .one (.slc 10)), (7, .one (.ptr 7 0)), (11, aD (.slice (.pair tI (.pair tI tI))) a0), (12, aI (List.length a0 : Int)), (13, aI i202), (59, .one (.slc 10)), (60, aI i202), (66, aB v289)]) (L' := [(7, .one (.pair tI (.pair tI tI)) v205), (10, .seq .bool x203)]) (obs := [InR v205.2.1 (List.length x203), Idx x203 v205.2.1 v289]) rfl (by kernel_rfl) (allP2 (InR.of h290) (allP1 (Idx.of h290))) ?_
                rcases Bool.eq_false_or_eq_true (v289) with h291 | h291
                · replace h := ofT h291 h
                  obtain ⟨v292, h293, h⟩ := bind_of h
                  refine WO_run (j := 16) (k := 8) (orcs := [(16, .known true), (18, .known true), (20, .known true), (22, .known true), (24, .known true), (27, .val (.dat .bool true))]) (kF := [1, 5, 11, 12, 13]) (kL := [7, 10]) (fr' := [(1, aI a1), (5, .one (.slc 10)), (11, aD (.slice (.pair tI (.pair tI tI))) a0), (12, aI (List.length a0 : Int)), (13, aI i202)]) (L' := [(7, .one (.pair tI (.pair tI tI)) v205), (10, .seq .bool (List.set x203 (Int.toNat i202) true))]) (obs := [(v289 = true), (v289 = true), (v289 = true), (v289 = true), (v289 = true), (v289 = true), InR i202 (List.length x203), InR i202 (List.length x203)]) rfl (by kernel_rfl) (allP2 h291 (allP2 h291 (allP2 h291 (allP2 h291 (allP2 h291 (allP2 h291 (allP2 (InR.of h293) (allP1 (InR.of h293))))))))) ?_
                  obtain rfl := Option.some.inj h
                  refine WO_fin [1, 5, 11, 12, 13] [10] (fr' := [(1, aI a1), (5, .one (.slc 10)), (11, aD (.slice (.pair tI (.pair tI tI))) a0), (12, aI (List.length a0 : Int)), (13, aI i202)]) (L' := [(10, .seq .bool (List.set x203 (Int.toNat i202) true))]) (by kernel_rfl) (by kernel_rfl) ?_
                  refine blockQ_norm ?_
                  refine blockQ_norm ?_
                  exact exQ_mk (by kernel_rfl) (by kernel_rfl)
                · replace h := ofF h291 h
                  obtain ⟨v294, h295, h⟩ := bind_of h
                  obtain ⟨v296, h297, h⟩ := bind_of h
                  refine WO_run (j := 16) (k := 8) (orcs := [(16, .known false), (18, .known false), (20, .known false), (22, .known false), (24, .known false), (25, .val (.dat .bool v294)), (27, .val (.dat .bool false))]) (kF := [1, 5, 11, 12, 13]) (kL := [7, 10]) (fr' := [(1, aI a1), (5, .one (.slc 10)), (11, aD (.slice (.pair tI (.pair tI tI))) a0), (12, aI (List.length a0 : Int)), (13, aI i202)]) (L' := [(7, .one (.pair tI (.pair tI tI)) v205), (10, .seq .bool (List.set x203 (Int.toNat i202) v294))]) (obs := [(v289 = false), (v289 = false), (v289 = false), (v289 = false), InR v205.2.2 (List.length x203), (v289 = false), Idx x203 v205.2.2 v294, (v289 = false), InR i202 (List.length x203), InR i202 (List.length x203)]) rfl (by kernel_rfl) (allP2 h291 (allP2 h291 (allP2 h291 (allP2 h291 (allP2 (InR.of h295) (allP2 h291 (allP2 (Idx.of h295) (allP2 h291 (allP2 (InR.of h297) (allP1 (InR.of h297))))))))))) ?_
                  obtain rfl := Option.some.inj h
                  refine WO_fin [1, 5, 11, 12, 13] [10] (fr' := [(1, aI a1), (5, .one (.slc 10)), (11, aD (.slice (.pair tI (.pair tI tI))) a0), (12, aI (List.length a0 : Int)), (13, aI i202)]) (L' := [(10, .seq .bool (List.set x203 (Int.toNat i202) v294))]) (by kernel_rfl) (by kernel_rfl) ?_
                  refine blockQ_norm ?_
                  refine blockQ_norm ?_
                  exact exQ_mk (by kernel_rfl) (by kernel_rfl)
              · replace h := ofF h288 h
                obtain rfl := Option.some.inj h
                refine W_skip [1, 5, 11, 12, 13] [10] (fr' := [(1, aI a1), (5, .one (.slc 10)), (11, aD (.slice (.pair tI (.pair tI tI))) a0), (12, aI (List.length a0 : Int)), (13, aI i202)]) (L' := [(10, .seq .bool x203)]) (by kernel_rfl) (by kernel_rfl) ?_
                refine blockQ_norm ?_
                refine blockQ_norm ?_
                exact exQ_mk (by kernel_rfl) (by kernel_rfl)
      · intro e fr L hJ
        obtain ⟨rfl, rfl, rfl⟩ := hJ
        refine LT_keep [1, 5, 11, 12, 13] [10] (fr' := [(1, aI a1), (5, .one (.slc 10)), (11, aD (.slice (.pair tI (.pair tI tI))) a0), (12, aI (List.length a0 : Int)), (13, aI i202)]) (L' := [(10, .seq .bool v298)]) (by kernel_rfl) ?_
        refine seqQ_norm ?_
        obtain rfl := Option.some.inj h
        refine W_run 2 [] [1, 5, 11, 12, 13] [10] (fr' := [(1, aI a1), (5, .one (.slc 10)), (11, aD (.slice (.pair tI (.pair tI tI))) a0), (12, aI (List.length a0 : Int)), (13, aI (w64 (i202 + (1 : Int))))]) (L' := [(10, .seq .bool v298)]) (obs := []) (by kernel_rfl) (by kernel_rfl) (by kernel_rfl) allP0 ?_
        exact round_next' (by kernel_rfl) (by kernel_rfl)
    · obtain rfl := stepL_false h207 h
      refine W_exit (id := 0) [5] [10] (fr' := [(5, .one (.slc 10))]) (L' := [(10, .seq .bool x203)]) (by kernel_rfl) (by kernel_rfl) ?_
      refine seqQ_exit ?_
      refine round_exit ?_
      exact exQ_mk (by kernel_rfl) (by kernel_rfl)
  · intro e fr L hJ
    obtain ⟨rfl, rfl, rfl⟩ := hJ
    refine LT_keep [5] [10] (fr' := [(5, .one (.slc 10))]) (L' := [(10, .seq .bool v301)]) (by kernel_rfl) ?_
    refine blockQ_hit ?_
    refine seqQ_norm ?_
    refine W_seq (by kernel_rfl) ?_
    refine W_run 2 [] [4] [10] (fr' := [(4, .one (.slc 10))]) (L' := [(10, .seq .bool v301)]) (obs := []) (by kernel_rfl) (by kernel_rfl) (by kernel_rfl) allP0 ?_
    refine seqQ_norm ?_
    obtain rfl := Option.some.inj h
    refine W_frz 10 (by kernel_rfl) ?_
    refine W_ret [4] [] (fr' := [(4, aD (.slice .bool) v301)]) (L' := []) (by kernel_rfl) (by kernel_rfl) ?_
    exact retQ_mk (by kernel_rfl) (by kernel_rfl) (by kernel_rfl)
end Go.Proofs.Ythjdegeajfhakaa.wideBuilds
