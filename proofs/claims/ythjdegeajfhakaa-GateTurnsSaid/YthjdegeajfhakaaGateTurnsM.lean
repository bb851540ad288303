/- What the functions that GateTurns calls compute, as models, and that they compute it: written by a program of mine. -/
import Derived.Test.YthjdegeajfhakaaProg
import Derived.Test.YthjdegeajfhakaaSl5
set_option linter.all false
set_option maxRecDepth 100000
namespace Go.Proofs.Ythjdegeajfhakaa.gateTurns
open Go Go.Sl
def gate_Wrong_1 (a0 : Int) (c0 : Int) : Option Bool :=
some ((decide (a0 ≥ (0 : Int))) && (decide (a0 < c0)))
theorem gate_Wrong_1_ok {a0 : Int} {c0 : Int} {r : Bool} (h : gate_Wrong_1 a0 c0 = some r) : FnC Try.prog 46 [aI a0, .one (.ptr 1000 0)] [(1000, .cells [.dat tI c0])] (aB r) [(1000, .cells [.dat tI c0])] := by
  refine fnC_of_W (B := bodyOf Try.f46) (n := 11) Try.func46 (by kernel_rfl) (by kernel_rfl) (by kernel_rfl) (by kernel_rfl) (by kernel_rfl) ?_
  intro K
  refine W_seq (by kernel_rfl) ?_
  refine W_run 1 [] [0, 1] [1000] (fr' := [(0, aI a0), (1, .one (.ptr 1000 0))]) (L' := [(1000, .cells [.dat tI c0])]) (obs := []) (by kernel_rfl) (by kernel_rfl) (by kernel_rfl) allP0 ?_
  refine seqQ_norm ?_
  refine W_seq (by kernel_rfl) ?_
  refine W_run 8 [] [3] [1000] (fr' := [(3, aB ((decide (a0 ≥ (0 : Int))) && (decide (a0 < c0))))]) (L' := [(1000, .cells [.dat tI c0])]) (obs := []) (by kernel_rfl) (by kernel_rfl) (by kernel_rfl) allP0 ?_
  refine seqQ_norm ?_
  obtain rfl := Option.some.inj h
  refine W_ret [3] [1000] (fr' := [(3, aB ((decide (a0 ≥ (0 : Int))) && (decide (a0 < c0))))]) (L' := [(1000, .cells [.dat tI c0])]) (by kernel_rfl) (by kernel_rfl) ?_
  exact retQ_mk (by kernel_rfl) (by kernel_rfl) (by kernel_rfl)

@[reducible] def gate_Wrong_s38 (a0 : Int) (a1 : (List (Int × (Int × Int)))) (i265 : Int) (v268 : (Int × (Int × Int))) (v : Bool) : Fr × LL := ([(0, aI a0), (6, .one (.ptr 6 0)), (7, .one (.fn 46 [(5, 0)])), (8, aD (.slice (.pair tI (.pair tI tI))) a1), (9, aI (List.length a1 : Int)), (10, aI i265), (40, aB v)], [(5, .cells [.dat tI i265]), (6, .one (.pair tI (.pair tI tI)) v268)])
def gate_Wrong_g39 (i265 : Int) (v268 : (Int × (Int × Int))) : Option Bool :=
(bif decide (v268.1 > (1 : Int)) then
((gate_Wrong_1 v268.2.1 i265).bind fun r386 =>
some (!r386))
else
(some false)).bind fun v388 =>
bif v388 then
(some v388)
else
(bif decide (v268.1 > (2 : Int)) then
((gate_Wrong_1 v268.2.2 i265).bind fun r392 =>
some (!r392))
else
(some false))
@[reducible] def gate_Wrong_s40 (a0 : Int) (a1 : (List (Int × (Int × Int)))) (i265 : Int) (v : Bool) : Fr × LL := ([(0, aI a0), (8, aD (.slice (.pair tI (.pair tI tI))) a1), (9, aI (List.length a1 : Int)), (10, aI i265), (40, aB v)], [])
@[reducible] def gate_Wrong_s41 (a0 : Int) (a1 : (List (Int × (Int × Int)))) (i265 : Int) (v268 : (Int × (Int × Int))) (v : Bool) : Fr × LL := ([(0, aI a0), (6, .one (.ptr 6 0)), (7, .one (.fn 46 [(5, 0)])), (8, aD (.slice (.pair tI (.pair tI tI))) a1), (9, aI (List.length a1 : Int)), (10, aI i265), (25, aB v)], [(5, .cells [.dat tI i265]), (6, .one (.pair tI (.pair tI tI)) v268)])
@[reducible] def gate_Wrong_s42 (a0 : Int) (a1 : (List (Int × (Int × Int)))) (i265 : Int) (v268 : (Int × (Int × Int))) (v : Bool) : Fr × LL := ([(0, aI a0), (6, .one (.ptr 6 0)), (7, .one (.fn 46 [(5, 0)])), (8, aD (.slice (.pair tI (.pair tI tI))) a1), (9, aI (List.length a1 : Int)), (10, aI i265), (16, aB v)], [(5, .cells [.dat tI i265]), (6, .one (.pair tI (.pair tI tI)) v268)])
def gate_Wrong_b43 (a0 : Int) (i265 : Int) (v268 : (Int × (Int × Int))) (x266 : Unit) : Option (Flow Unit (Esc Int Unit)) :=
(bif decide (v268.1 < (1 : Int)) then
(some true)
else
(some (decide (v268.1 > (4 : Int))))).bind fun v337 =>
bif v337 then
(some (.done (.ret (6 : Int))))
else
((bif v268.1 == (1 : Int) then
(bif decide (v268.2.1 < (0 : Int)) then
(some true)
else
(some (decide (v268.2.1 ≥ a0))))
else
(some false)).bind fun v346 =>
bif v346 then
(some (.done (.ret (4 : Int))))
else
((gate_Wrong_g39 i265 v268).bind fun v394 =>
bif v394 then
(some (.done (.ret (2 : Int))))
else
(some (.next ()))))
@[reducible] def gate_Wrong_s44 (a0 : Int) (a1 : (List (Int × (Int × Int)))) (v : Int × Unit) : Fr × LL := ([(0, aI a0), (8, aD (.slice (.pair tI (.pair tI tI))) a1), (9, aI (List.length a1 : Int)), (10, aI v.1)], [])
@[reducible] def gate_Wrong_s45 (v : Int) : Fr × LL := ([(4, aI v)], [])
@[reducible] def gate_Wrong_s46 (v : Unit) : Fr × LL := ([], [])
def gate_Wrong (a0 : Int) (a1 : (List (Int × (Int × Int)))) : Option Int :=
(forL (gate_Wrong_b43 a0) (fun x266 => (.brk ())) a1 0 ()).bind fun v398 =>
match v398 with
| .ret v403 =>
(some v403)
| .brk v404 =>
(some (0 : Int))
theorem gate_Wrong_ok {a0 : Int} {a1 : (List (Int × (Int × Int)))} {r : Int} (h : gate_Wrong a0 a1 = some r) : FnC Try.prog 39 [aI a0, aD (.slice (.pair tI (.pair tI tI))) a1] [] (aI r) [] := by
  refine fnC_of_W (B := bodyOf Try.f39) (n := 62) Try.func39 (by kernel_rfl) (by kernel_rfl) (by kernel_rfl) (by kernel_rfl) (by kernel_rfl) ?_
  intro K
  refine W_seq (by kernel_rfl) ?_
  refine W_run 1 [] [0, 1] [] (fr' := [(0, aI a0), (1, aD (.slice (.pair tI (.pair tI tI))) a1)]) (L' := []) (obs := []) (by kernel_rfl) (by kernel_rfl) (by kernel_rfl) allP0 ?_
  refine seqQ_norm ?_
  refine W_seq (by kernel_rfl) ?_
  refine W_seq (by kernel_rfl) ?_
  refine W_run 3 [] [0, 8, 9, 10] [] (fr' := [(0, aI a0), (8, aD (.slice (.pair tI (.pair tI tI))) a1), (9, aI (List.length a1 : Int)), (10, aI (0 : Int))]) (L' := []) (obs := []) (by kernel_rfl) (by kernel_rfl) (by kernel_rfl) allP0 ?_
  refine seqQ_norm ?_
  refine W_block (id := 0) (by kernel_rfl) ?_
  obtain ⟨v398, h399, h⟩ := bind_of h
  refine W_len (t := 8) (u := (.pair tI (.pair tI tI))) (xs := a1) (by kernel_rfl) (fun h402 => ?_)
  obtain ⟨h400, h401⟩ := forL_iter h402 h399
  refine W_weaken [0, 8, 9, 10] [] (fr' := ((gate_Wrong_s44 a0 a1) ((0 : Int), ())).1) (L' := ((gate_Wrong_s44 a0 a1) ((0 : Int), ())).2) (by kernel_rfl) ?_
  refine W_cutK (W_loop (S := (gate_Wrong_s44 a0 a1)) (J := (escQ (exQ .ret gate_Wrong_s45) (exQ (.exit 0) gate_Wrong_s46))) (by kernel_rfl) ?_ h400 _ v398 h401) ?_
  · rintro ⟨i265, x266⟩ s h
    refine W_seq (by kernel_rfl) ?_
    refine W_run 1 [] [0, 8, 9, 10, 11] [] (fr' := [(0, aI a0), (8, aD (.slice (.pair tI (.pair tI tI))) a1), (9, aI (List.length a1 : Int)), (10, aI i265), (11, aB (decide (i265 < (List.length a1 : Int))))]) (L' := []) (obs := []) (by kernel_rfl) (by kernel_rfl) (by kernel_rfl) allP0 ?_
    refine seqQ_norm ?_
    refine W_seq (by kernel_rfl) ?_
    refine W_cond (o := .tmp 11) (b := decide (i265 < (List.length a1 : Int))) (by kernel_rfl) (by kernel_rfl) (fun h270 => ?_) (fun h270 => ?_)
    · replace h := stepL_true h270 h
      obtain ⟨v268, _, h269, h, rfl⟩ := h
      refine W_skip [0, 8, 9, 10] [] (fr' := [(0, aI a0), (8, aD (.slice (.pair tI (.pair tI tI))) a1), (9, aI (List.length a1 : Int)), (10, aI i265)]) (L' := []) (by kernel_rfl) (by kernel_rfl) ?_
      refine seqQ_norm ?_
      refine W_seq (by kernel_rfl) ?_
      refine W_block (id := 1) (by kernel_rfl) ?_
      refine W_seq (by kernel_rfl) ?_
      refine W_run 7 [(3, .val (.dat (.pair tI (.pair tI tI)) v268)), (9, .typed)] [0, 5, 6, 8, 9, 10] [5, 6] (fr' := [(0, aI a0), (5, .one (.ptr 5 0)), (6, .one (.ptr 6 0)), (8, aD (.slice (.pair tI (.pair tI tI))) a1), (9, aI (List.length a1 : Int)), (10, aI i265)]) (L' := [(5, .cells [.dat tI i265]), (6, .one (.pair tI (.pair tI tI)) v268)]) (obs := [Idx a1 i265 v268, True, True]) (by kernel_rfl) (by kernel_rfl) (by kernel_rfl) (allP2 (Idx.of h269) (allP2 trivial (allP1 trivial))) ?_
      refine seqQ_norm ?_
      refine W_seq (by kernel_rfl) ?_
      refine W_run 2 [] [0, 6, 7, 8, 9, 10] [6, 5] (fr' := [(0, aI a0), (6, .one (.ptr 6 0)), (7, .one (.fn 46 [(5, 0)])), (8, aD (.slice (.pair tI (.pair tI tI))) a1), (9, aI (List.length a1 : Int)), (10, aI i265)]) (L' := [(6, .one (.pair tI (.pair tI tI)) v268), (5, .cells [.dat tI i265])]) (obs := []) (by kernel_rfl) (by kernel_rfl) (by kernel_rfl) allP0 ?_
      refine seqQ_norm ?_
      refine W_block (id := 2) (by kernel_rfl) ?_
      refine W_seq (by kernel_rfl) ?_
      obtain ⟨v337, h338, h⟩ := bind_of h
      refine W_cutK (Q' := (exQ .normal (gate_Wrong_s42 a0 a1 i265 v268)) v337) ?_ ?_
      · replace h := h338
        refine W_region (by kernel_rfl) ?_
        refine WO_run (j := 4) (k := 4) (orcs := []) (kF := [0, 6, 7, 8, 9, 10, 20]) (kL := [5, 6]) (fr' := [(0, aI a0), (6, .one (.ptr 6 0)), (7, .one (.fn 46 [(5, 0)])), (8, aD (.slice (.pair tI (.pair tI tI))) a1), (9, aI (List.length a1 : Int)), (10, aI i265), (20, aB (decide (v268.1 < (1 : Int))))]) (L' := [(5, .cells [.dat tI i265]), (6, .one (.pair tI (.pair tI tI)) v268)]) (obs := []) rfl (by kernel_rfl) allP0 ?_
        rcases Bool.eq_false_or_eq_true (decide (v268.1 < (1 : Int))) with h336 | h336
        · replace h := ofT h336 h
          refine WO_run (j := 9) (k := 5) (orcs := [(8, .known true), (10, .known true), (12, .known true), (15, .val (.dat .bool true))]) (kF := [0, 6, 7, 8, 9, 10, 16]) (kL := [5, 6]) (fr' := [(0, aI a0), (6, .one (.ptr 6 0)), (7, .one (.fn 46 [(5, 0)])), (8, aD (.slice (.pair tI (.pair tI tI))) a1), (9, aI (List.length a1 : Int)), (10, aI i265), (16, aB true)]) (L' := [(5, .cells [.dat tI i265]), (6, .one (.pair tI (.pair tI tI)) v268)]) (obs := [((decide (v268.1 < (1 : Int))) = true), ((decide (v268.1 < (1 : Int))) = true), ((decide (v268.1 < (1 : Int))) = true), ((decide (v268.1 < (1 : Int))) = true)]) rfl (by kernel_rfl) (allP2 h336 (allP2 h336 (allP2 h336 (allP1 h336)))) ?_
          obtain rfl := Option.some.inj h
          refine WO_fin [0, 6, 7, 8, 9, 10, 16] [5, 6] (fr' := [(0, aI a0), (6, .one (.ptr 6 0)), (7, .one (.fn 46 [(5, 0)])), (8, aD (.slice (.pair tI (.pair tI tI))) a1), (9, aI (List.length a1 : Int)), (10, aI i265), (16, aB true)]) (L' := [(5, .cells [.dat tI i265]), (6, .one (.pair tI (.pair tI tI)) v268)]) (by kernel_rfl) (by kernel_rfl) ?_
          exact exQ_mk (by kernel_rfl) (by kernel_rfl)
        · replace h := ofF h336 h
          refine WO_run (j := 9) (k := 5) (orcs := [(8, .known false), (10, .known false), (12, .known false), (15, .val (.dat .bool false))]) (kF := [0, 6, 7, 8, 9, 10, 16]) (kL := [5, 6]) (fr' := [(0, aI a0), (6, .one (.ptr 6 0)), (7, .one (.fn 46 [(5, 0)])), (8, aD (.slice (.pair tI (.pair tI tI))) a1), (9, aI (List.length a1 : Int)), (10, aI i265), (16, aB (decide (v268.1 > (4 : Int))))]) (L' := [(5, .cells [.dat tI i265]), (6, .one (.pair tI (.pair tI tI)) v268)]) (obs := [((decide (v268.1 < (1 : Int))) = false), ((decide (v268.1 < (1 : Int))) = false), ((decide (v268.1 < (1 : Int))) = false), ((decide (v268.1 < (1 : Int))) = false)]) rfl (by kernel_rfl) (allP2 h336 (allP2 h336 (allP2 h336 (allP1 h336)))) ?_
          obtain rfl := Option.some.inj h
          refine WO_fin [0, 6, 7, 8, 9, 10, 16] [5, 6] (fr' := [(0, aI a0), (6, .one (.ptr 6 0)), (7, .one (.fn 46 [(5, 0)])), (8, aD (.slice (.pair tI (.pair tI tI))) a1), (9, aI (List.length a1 : Int)), (10, aI i265), (16, aB (decide (v268.1 > (4 : Int))))]) (L' := [(5, .cells [.dat tI i265]), (6, .one (.pair tI (.pair tI tI)) v268)]) (by kernel_rfl) (by kernel_rfl) ?_
          exact exQ_mk (by kernel_rfl) (by kernel_rfl)
      · intro e fr L hJ
        obtain ⟨rfl, rfl, rfl⟩ := hJ
        refine LT_keep [0, 6, 7, 8, 9, 10, 16] [6, 5] (fr' := [(0, aI a0), (6, .one (.ptr 6 0)), (7, .one (.fn 46 [(5, 0)])), (8, aD (.slice (.pair tI (.pair tI tI))) a1), (9, aI (List.length a1 : Int)), (10, aI i265), (16, aB v337)]) (L' := [(6, .one (.pair tI (.pair tI tI)) v268), (5, .cells [.dat tI i265])]) (by kernel_rfl) ?_
        refine seqQ_norm ?_
        refine W_cond (o := .tmp 16) (b := v337) (by kernel_rfl) (by kernel_rfl) (fun h339 => ?_) (fun h339 => ?_)
        · replace h := ofT h339 h
          refine W_seq (by kernel_rfl) ?_
          refine W_run 1 [] [4] [] (fr' := [(4, aI (6 : Int))]) (L' := []) (obs := []) (by kernel_rfl) (by kernel_rfl) (by kernel_rfl) allP0 ?_
          refine seqQ_norm ?_
          obtain rfl := Option.some.inj h
          refine W_ret [4] [] (fr' := [(4, aI (6 : Int))]) (L' := []) (by kernel_rfl) (by kernel_rfl) ?_
          refine blockQ_ret ?_
          refine blockQ_ret ?_
          refine seqQ_ret ?_
          refine round_ret ?_
          refine escQ_ret ?_
          exact exQ_mk (by kernel_rfl) (by kernel_rfl)
        · replace h := ofF h339 h
          refine W_seq (by kernel_rfl) ?_
          obtain ⟨v346, h347, h⟩ := bind_of h
          refine W_cutK (Q' := (exQ .normal (gate_Wrong_s41 a0 a1 i265 v268)) v346) ?_ ?_
          · replace h := h347
            refine W_region (by kernel_rfl) ?_
            refine WO_run (j := 4) (k := 4) (orcs := []) (kF := [0, 6, 7, 8, 9, 10, 29]) (kL := [5, 6]) (fr' := [(0, aI a0), (6, .one (.ptr 6 0)), (7, .one (.fn 46 [(5, 0)])), (8, aD (.slice (.pair tI (.pair tI tI))) a1), (9, aI (List.length a1 : Int)), (10, aI i265), (29, aB (v268.1 == (1 : Int)))]) (L' := [(5, .cells [.dat tI i265]), (6, .one (.pair tI (.pair tI tI)) v268)]) (obs := []) rfl (by kernel_rfl) allP0 ?_
            rcases Bool.eq_false_or_eq_true (v268.1 == (1 : Int)) with h344 | h344
            · replace h := ofT h344 h
              refine WO_run (j := 8) (k := 4) (orcs := [(8, .known true), (10, .known true), (12, .known true), (14, .known true)]) (kF := [0, 6, 7, 8, 9, 10, 29, 33]) (kL := [5, 6]) (fr' := [(0, aI a0), (6, .one (.ptr 6 0)), (7, .one (.fn 46 [(5, 0)])), (8, aD (.slice (.pair tI (.pair tI tI))) a1), (9, aI (List.length a1 : Int)), (10, aI i265), (29, aB (v268.1 == (1 : Int))), (33, aB (decide (v268.2.1 < (0 : Int))))]) (L' := [(5, .cells [.dat tI i265]), (6, .one (.pair tI (.pair tI tI)) v268)]) (obs := [((v268.1 == (1 : Int)) = true), ((v268.1 == (1 : Int)) = true), ((v268.1 == (1 : Int)) = true), ((v268.1 == (1 : Int)) = true)]) rfl (by kernel_rfl) (allP2 h344 (allP2 h344 (allP2 h344 (allP1 h344)))) ?_
              rcases Bool.eq_false_or_eq_true (decide (v268.2.1 < (0 : Int))) with h345 | h345
              · replace h := ofT h345 h
                refine WO_run (j := 15) (k := 7) (orcs := [(16, .known true), (18, .known true), (20, .known true), (22, .known true), (24, .known true), (25, .val (.dat .bool true)), (27, .val (.dat .bool true))]) (kF := [0, 6, 7, 8, 9, 10, 25]) (kL := [5, 6]) (fr' := [(0, aI a0), (6, .one (.ptr 6 0)), (7, .one (.fn 46 [(5, 0)])), (8, aD (.slice (.pair tI (.pair tI tI))) a1), (9, aI (List.length a1 : Int)), (10, aI i265), (25, aB true)]) (L' := [(5, .cells [.dat tI i265]), (6, .one (.pair tI (.pair tI tI)) v268)]) (obs := [((decide (v268.2.1 < (0 : Int))) = true), ((decide (v268.2.1 < (0 : Int))) = true), ((decide (v268.2.1 < (0 : Int))) = true), ((decide (v268.2.1 < (0 : Int))) = true), ((v268.1 == (1 : Int)) = true), ((decide (v268.2.1 < (0 : Int))) = true), ((v268.1 == (1 : Int)) = true)]) rfl (by kernel_rfl) (allP2 h345 (allP2 h345 (allP2 h345 (allP2 h345 (allP2 h344 (allP2 h345 (allP1 h344))))))) ?_
                obtain rfl := Option.some.inj h
                refine WO_fin [0, 6, 7, 8, 9, 10, 25] [5, 6] (fr' := [(0, aI a0), (6, .one (.ptr 6 0)), (7, .one (.fn 46 [(5, 0)])), (8, aD (.slice (.pair tI (.pair tI tI))) a1), (9, aI (List.length a1 : Int)), (10, aI i265), (25, aB true)]) (L' := [(5, .cells [.dat tI i265]), (6, .one (.pair tI (.pair tI tI)) v268)]) (by kernel_rfl) (by kernel_rfl) ?_
                exact exQ_mk (by kernel_rfl) (by kernel_rfl)
              · replace h := ofF h345 h
                refine WO_run (j := 15) (k := 7) (orcs := [(16, .known false), (18, .known false), (20, .known false), (22, .known false), (24, .known true), (25, .val (.dat .bool false)), (27, .val (.dat .bool true))]) (kF := [0, 6, 7, 8, 9, 10, 25]) (kL := [5, 6]) (fr' := [(0, aI a0), (6, .one (.ptr 6 0)), (7, .one (.fn 46 [(5, 0)])), (8, aD (.slice (.pair tI (.pair tI tI))) a1), (9, aI (List.length a1 : Int)), (10, aI i265), (25, aB (decide (v268.2.1 ≥ a0)))]) (L' := [(5, .cells [.dat tI i265]), (6, .one (.pair tI (.pair tI tI)) v268)]) (obs := [((decide (v268.2.1 < (0 : Int))) = false), ((decide (v268.2.1 < (0 : Int))) = false), ((decide (v268.2.1 < (0 : Int))) = false), ((decide (v268.2.1 < (0 : Int))) = false), ((v268.1 == (1 : Int)) = true), ((decide (v268.2.1 < (0 : Int))) = false), ((v268.1 == (1 : Int)) = true)]) rfl (by kernel_rfl) (allP2 h345 (allP2 h345 (allP2 h345 (allP2 h345 (allP2 h344 (allP2 h345 (allP1 h344))))))) ?_
                obtain rfl := Option.some.inj h
                refine WO_fin [0, 6, 7, 8, 9, 10, 25] [5, 6] (fr' := [(0, aI a0), (6, .one (.ptr 6 0)), (7, .one (.fn 46 [(5, 0)])), (8, aD (.slice (.pair tI (.pair tI tI))) a1), (9, aI (List.length a1 : Int)), (10, aI i265), (25, aB (decide (v268.2.1 ≥ a0)))]) (L' := [(5, .cells [.dat tI i265]), (6, .one (.pair tI (.pair tI tI)) v268)]) (by kernel_rfl) (by kernel_rfl) ?_
                exact exQ_mk (by kernel_rfl) (by kernel_rfl)
            · replace h := ofF h344 h
              refine WO_run (j := 15) (k := 11) (orcs := [(8, .known false), (10, .known false), (12, .known false), (14, .known false), (16, .known true), (18, .known true), (20, .known true), (22, .known true), (24, .known false), (27, .val (.dat .bool false))]) (kF := [0, 6, 7, 8, 9, 10, 25]) (kL := [5, 6]) (fr' := [(0, aI a0), (6, .one (.ptr 6 0)), (7, .one (.fn 46 [(5, 0)])), (8, aD (.slice (.pair tI (.pair tI tI))) a1), (9, aI (List.length a1 : Int)), (10, aI i265), (25, aB false)]) (L' := [(5, .cells [.dat tI i265]), (6, .one (.pair tI (.pair tI tI)) v268)]) (obs := [((v268.1 == (1 : Int)) = false), ((v268.1 == (1 : Int)) = false), ((v268.1 == (1 : Int)) = false), ((v268.1 == (1 : Int)) = false), ((v268.1 == (1 : Int)) = false), ((v268.1 == (1 : Int)) = false)]) rfl (by kernel_rfl) (allP2 h344 (allP2 h344 (allP2 h344 (allP2 h344 (allP2 h344 (allP1 h344)))))) ?_
              obtain rfl := Option.some.inj h
              refine WO_fin [0, 6, 7, 8, 9, 10, 25] [5, 6] (fr' := [(0, aI a0), (6, .one (.ptr 6 0)), (7, .one (.fn 46 [(5, 0)])), (8, aD (.slice (.pair tI (.pair tI tI))) a1), (9, aI (List.length a1 : Int)), (10, aI i265), (25, aB false)]) (L' := [(5, .cells [.dat tI i265]), (6, .one (.pair tI (.pair tI tI)) v268)]) (by kernel_rfl) (by kernel_rfl) ?_
              exact exQ_mk (by kernel_rfl) (by kernel_rfl)
          · intro e fr L hJ
            obtain ⟨rfl, rfl, rfl⟩ := hJ
            refine LT_keep [0, 6, 7, 8, 9, 10, 25] [6, 5] (fr' := [(0, aI a0), (6, .one (.ptr 6 0)), (7, .one (.fn 46 [(5, 0)])), (8, aD (.slice (.pair tI (.pair tI tI))) a1), (9, aI (List.length a1 : Int)), (10, aI i265), (25, aB v346)]) (L' := [(6, .one (.pair tI (.pair tI tI)) v268), (5, .cells [.dat tI i265])]) (by kernel_rfl) ?_
            refine seqQ_norm ?_
            refine W_cond (o := .tmp 25) (b := v346) (by kernel_rfl) (by kernel_rfl) (fun h348 => ?_) (fun h348 => ?_)
            · replace h := ofT h348 h
              refine W_seq (by kernel_rfl) ?_
              refine W_run 1 [] [4] [] (fr' := [(4, aI (4 : Int))]) (L' := []) (obs := []) (by kernel_rfl) (by kernel_rfl) (by kernel_rfl) allP0 ?_
              refine seqQ_norm ?_
              obtain rfl := Option.some.inj h
              refine W_ret [4] [] (fr' := [(4, aI (4 : Int))]) (L' := []) (by kernel_rfl) (by kernel_rfl) ?_
              refine blockQ_ret ?_
              refine blockQ_ret ?_
              refine seqQ_ret ?_
              refine round_ret ?_
              refine escQ_ret ?_
              exact exQ_mk (by kernel_rfl) (by kernel_rfl)
            · replace h := ofF h348 h
              refine W_seq (by kernel_rfl) ?_
              obtain ⟨v394, h395, h⟩ := bind_of h
              refine W_cutK (Q' := (exQ .normal (gate_Wrong_s40 a0 a1 i265)) v394) ?_ ?_
              · replace h := h395
                refine W_seq (by kernel_rfl) ?_
                obtain ⟨v388, h389, h⟩ := bind_of h
                refine W_cutK (Q' := (exQ .normal (gate_Wrong_s38 a0 a1 i265 v268)) v388) ?_ ?_
                · replace h := h389
                  refine W_region (by kernel_rfl) ?_
                  refine WO_run (j := 4) (k := 4) (orcs := []) (kF := [0, 6, 7, 8, 9, 10, 44]) (kL := [5, 6]) (fr' := [(0, aI a0), (6, .one (.ptr 6 0)), (7, .one (.fn 46 [(5, 0)])), (8, aD (.slice (.pair tI (.pair tI tI))) a1), (9, aI (List.length a1 : Int)), (10, aI i265), (44, aB (decide (v268.1 > (1 : Int))))]) (L' := [(5, .cells [.dat tI i265]), (6, .one (.pair tI (.pair tI tI)) v268)]) (obs := []) rfl (by kernel_rfl) allP0 ?_
                  rcases Bool.eq_false_or_eq_true (decide (v268.1 > (1 : Int))) with h385 | h385
                  · replace h := ofT h385 h
                    refine WO_run (j := 7) (k := 3) (orcs := [(8, .known true), (10, .known true), (12, .known true)]) (kF := [0, 6, 7, 8, 9, 10, 44, 45, 47]) (kL := [5, 6]) (fr' := [(0, aI a0), (6, .one (.ptr 6 0)), (7, .one (.fn 46 [(5, 0)])), (8, aD (.slice (.pair tI (.pair tI tI))) a1), (9, aI (List.length a1 : Int)), (10, aI i265), (44, aB (decide (v268.1 > (1 : Int)))), (45, .one (.fn 46 [(5, 0)])), (47, aI v268.2.1)]) (L' := [(5, .cells [.dat tI i265]), (6, .one (.pair tI (.pair tI tI)) v268)]) (obs := [((decide (v268.1 > (1 : Int))) = true), ((decide (v268.1 > (1 : Int))) = true), ((decide (v268.1 > (1 : Int))) = true)]) rfl (by kernel_rfl) (allP2 h385 (allP2 h385 (allP1 h385))) ?_
                    obtain ⟨r386, h387, h⟩ := bind_of h
                    refine WO_lend [(1000, 5)] (us := [none, none]) (d := 48) (p := ((decide (v268.1 > (1 : Int))) = true)) (j := 8) rfl ⟨by kernel_rfl, by kernel_rfl, by kernel_rfl⟩ h385 (gate_Wrong_1_ok h387) (by kernel_rfl) (by kernel_rfl) ?_
                    refine WO_run (j := 11) (k := 3) (orcs := [(16, .known true), (19, .val (.dat .bool true))]) (kF := [0, 6, 7, 8, 9, 10, 40]) (kL := [5, 6]) (fr' := [(0, aI a0), (6, .one (.ptr 6 0)), (7, .one (.fn 46 [(5, 0)])), (8, aD (.slice (.pair tI (.pair tI tI))) a1), (9, aI (List.length a1 : Int)), (10, aI i265), (40, aB (!r386))]) (L' := [(5, .cells [.dat tI i265]), (6, .one (.pair tI (.pair tI tI)) v268)]) (obs := [((decide (v268.1 > (1 : Int))) = true), ((decide (v268.1 > (1 : Int))) = true)]) rfl (by kernel_rfl) (allP2 h385 (allP1 h385)) ?_
                    obtain rfl := Option.some.inj h
                    refine WO_fin [0, 6, 7, 8, 9, 10, 40] [5, 6] (fr' := [(0, aI a0), (6, .one (.ptr 6 0)), (7, .one (.fn 46 [(5, 0)])), (8, aD (.slice (.pair tI (.pair tI tI))) a1), (9, aI (List.length a1 : Int)), (10, aI i265), (40, aB (!r386))]) (L' := [(5, .cells [.dat tI i265]), (6, .one (.pair tI (.pair tI tI)) v268)]) (by kernel_rfl) (by kernel_rfl) ?_
                    exact exQ_mk (by kernel_rfl) (by kernel_rfl)
                  · replace h := ofF h385 h
                    refine WO_run (j := 11) (k := 7) (orcs := [(8, .known false), (10, .known false), (12, .known false), (14, .known false), (16, .known false), (19, .val (.dat .bool false))]) (kF := [0, 6, 7, 8, 9, 10, 40]) (kL := [5, 6]) (fr' := [(0, aI a0), (6, .one (.ptr 6 0)), (7, .one (.fn 46 [(5, 0)])), (8, aD (.slice (.pair tI (.pair tI tI))) a1), (9, aI (List.length a1 : Int)), (10, aI i265), (40, aB false)]) (L' := [(5, .cells [.dat tI i265]), (6, .one (.pair tI (.pair tI tI)) v268)]) (obs := [((decide (v268.1 > (1 : Int))) = false), ((decide (v268.1 > (1 : Int))) = false), ((decide (v268.1 > (1 : Int))) = false), ((decide (v268.1 > (1 : Int))) = false), ((decide (v268.1 > (1 : Int))) = false), ((decide (v268.1 > (1 : Int))) = false)]) rfl (by kernel_rfl) (allP2 h385 (allP2 h385 (allP2 h385 (allP2 h385 (allP2 h385 (allP1 h385)))))) ?_
                    obtain rfl := Option.some.inj h
                    refine WO_fin [0, 6, 7, 8, 9, 10, 40] [5, 6] (fr' := [(0, aI a0), (6, .one (.ptr 6 0)), (7, .one (.fn 46 [(5, 0)])), (8, aD (.slice (.pair tI (.pair tI tI))) a1), (9, aI (List.length a1 : Int)), (10, aI i265), (40, aB false)]) (L' := [(5, .cells [.dat tI i265]), (6, .one (.pair tI (.pair tI tI)) v268)]) (by kernel_rfl) (by kernel_rfl) ?_
                    exact exQ_mk (by kernel_rfl) (by kernel_rfl)
                · intro e fr L hJ
                  obtain ⟨rfl, rfl, rfl⟩ := hJ
                  refine LT_keep [0, 6, 7, 8, 9, 10, 40] [6, 5] (fr' := [(0, aI a0), (6, .one (.ptr 6 0)), (7, .one (.fn 46 [(5, 0)])), (8, aD (.slice (.pair tI (.pair tI tI))) a1), (9, aI (List.length a1 : Int)), (10, aI i265), (40, aB v388)]) (L' := [(6, .one (.pair tI (.pair tI tI)) v268), (5, .cells [.dat tI i265])]) (by kernel_rfl) ?_
                  refine seqQ_norm ?_
                  refine W_cond (o := .tmp 40) (b := v388) (by kernel_rfl) (by kernel_rfl) (fun h390 => ?_) (fun h390 => ?_)
                  · replace h := ofT h390 h
                    obtain rfl := Option.some.inj h
                    refine W_skip [0, 8, 9, 10, 40] [] (fr' := [(0, aI a0), (8, aD (.slice (.pair tI (.pair tI tI))) a1), (9, aI (List.length a1 : Int)), (10, aI i265), (40, aB v388)]) (L' := []) (by kernel_rfl) (by kernel_rfl) ?_
                    exact exQ_mk (by kernel_rfl) (by kernel_rfl)
                  · replace h := ofF h390 h
                    refine W_region (by kernel_rfl) ?_
                    refine WO_run (j := 4) (k := 4) (orcs := []) (kF := [0, 6, 7, 8, 9, 10, 40, 54]) (kL := [5, 6]) (fr' := [(0, aI a0), (6, .one (.ptr 6 0)), (7, .one (.fn 46 [(5, 0)])), (8, aD (.slice (.pair tI (.pair tI tI))) a1), (9, aI (List.length a1 : Int)), (10, aI i265), (40, aB v388), (54, aB (decide (v268.1 > (2 : Int))))]) (L' := [(5, .cells [.dat tI i265]), (6, .one (.pair tI (.pair tI tI)) v268)]) (obs := []) rfl (by kernel_rfl) allP0 ?_
                    rcases Bool.eq_false_or_eq_true (decide (v268.1 > (2 : Int))) with h391 | h391
                    · replace h := ofT h391 h
                      refine WO_run (j := 7) (k := 3) (orcs := [(8, .known true), (10, .known true), (12, .known true)]) (kF := [0, 8, 9, 10, 40, 54, 55, 57]) (kL := [5, 6]) (fr' := [(0, aI a0), (8, aD (.slice (.pair tI (.pair tI tI))) a1), (9, aI (List.length a1 : Int)), (10, aI i265), (40, aB v388), (54, aB (decide (v268.1 > (2 : Int)))), (55, .one (.fn 46 [(5, 0)])), (57, aI v268.2.2)]) (L' := [(5, .cells [.dat tI i265]), (6, .one (.pair tI (.pair tI tI)) v268)]) (obs := [((decide (v268.1 > (2 : Int))) = true), ((decide (v268.1 > (2 : Int))) = true), ((decide (v268.1 > (2 : Int))) = true)]) rfl (by kernel_rfl) (allP2 h391 (allP2 h391 (allP1 h391))) ?_
                      obtain ⟨r392, h393, h⟩ := bind_of h
                      refine WO_lend [(1000, 5)] (us := [none, none]) (d := 58) (p := ((decide (v268.1 > (2 : Int))) = true)) (j := 8) rfl ⟨by kernel_rfl, by kernel_rfl, by kernel_rfl⟩ h391 (gate_Wrong_1_ok h393) (by kernel_rfl) (by kernel_rfl) ?_
                      refine WO_run (j := 11) (k := 3) (orcs := [(16, .known true), (19, .val (.dat .bool true))]) (kF := [0, 8, 9, 10, 40]) (kL := [5, 6]) (fr' := [(0, aI a0), (8, aD (.slice (.pair tI (.pair tI tI))) a1), (9, aI (List.length a1 : Int)), (10, aI i265), (40, aB (!r392))]) (L' := [(5, .cells [.dat tI i265]), (6, .one (.pair tI (.pair tI tI)) v268)]) (obs := [((decide (v268.1 > (2 : Int))) = true), ((decide (v268.1 > (2 : Int))) = true)]) rfl (by kernel_rfl) (allP2 h391 (allP1 h391)) ?_
                      obtain rfl := Option.some.inj h
                      refine WO_fin [0, 8, 9, 10, 40] [] (fr' := [(0, aI a0), (8, aD (.slice (.pair tI (.pair tI tI))) a1), (9, aI (List.length a1 : Int)), (10, aI i265), (40, aB (!r392))]) (L' := []) (by kernel_rfl) (by kernel_rfl) ?_
                      exact exQ_mk (by kernel_rfl) (by kernel_rfl)
                    · replace h := ofF h391 h
                      refine WO_run (j := 11) (k := 7) (orcs := [(8, .known false), (10, .known false), (12, .known false), (14, .known false), (16, .known false), (19, .val (.dat .bool false))]) (kF := [0, 8, 9, 10, 40]) (kL := [5, 6]) (fr' := [(0, aI a0), (8, aD (.slice (.pair tI (.pair tI tI))) a1), (9, aI (List.length a1 : Int)), (10, aI i265), (40, aB false)]) (L' := [(5, .cells [.dat tI i265]), (6, .one (.pair tI (.pair tI tI)) v268)]) (obs := [((decide (v268.1 > (2 : Int))) = false), ((decide (v268.1 > (2 : Int))) = false), ((decide (v268.1 > (2 : Int))) = false), ((decide (v268.1 > (2 : Int))) = false), ((decide (v268.1 > (2 : Int))) = false), ((decide (v268.1 > (2 : Int))) = false)]) rfl (by kernel_rfl) (allP2 h391 (allP2 h391 (allP2 h391 (allP2 h391 (allP2 h391 (allP1 h391)))))) ?_
                      obtain rfl := Option.some.inj h
                      refine WO_fin [0, 8, 9, 10, 40] [] (fr' := [(0, aI a0), (8, aD (.slice (.pair tI (.pair tI tI))) a1), (9, aI (List.length a1 : Int)), (10, aI i265), (40, aB false)]) (L' := []) (by kernel_rfl) (by kernel_rfl) ?_
                      exact exQ_mk (by kernel_rfl) (by kernel_rfl)
              · intro e fr L hJ
                obtain ⟨rfl, rfl, rfl⟩ := hJ
                refine LT_keep [0, 8, 9, 10, 40] [] (fr' := [(0, aI a0), (8, aD (.slice (.pair tI (.pair tI tI))) a1), (9, aI (List.length a1 : Int)), (10, aI i265), (40, aB v394)]) (L' := []) (by kernel_rfl) ?_
                refine seqQ_norm ?_
                refine W_cond (o := .tmp 40) (b := v394) (by kernel_rfl) (by kernel_rfl) (fun h396 => ?_) (fun h396 => ?_)
                · replace h := ofT h396 h
                  refine W_seq (by kernel_rfl) ?_
                  refine W_run 1 [] [4] [] (fr' := [(4, aI (2 : Int))]) (L' := []) (obs := []) (by kernel_rfl) (by kernel_rfl) (by kernel_rfl) allP0 ?_
                  refine seqQ_norm ?_
                  obtain rfl := Option.some.inj h
                  refine W_ret [4] [] (fr' := [(4, aI (2 : Int))]) (L' := []) (by kernel_rfl) (by kernel_rfl) ?_
                  refine blockQ_ret ?_
                  refine blockQ_ret ?_
                  refine seqQ_ret ?_
                  refine round_ret ?_
                  refine escQ_ret ?_
                  exact exQ_mk (by kernel_rfl) (by kernel_rfl)
                · replace h := ofF h396 h
                  refine W_skip [0, 8, 9, 10] [] (fr' := [(0, aI a0), (8, aD (.slice (.pair tI (.pair tI tI))) a1), (9, aI (List.length a1 : Int)), (10, aI i265)]) (L' := []) (by kernel_rfl) (by kernel_rfl) ?_
                  refine blockQ_norm ?_
                  refine blockQ_norm ?_
                  refine seqQ_norm ?_
                  obtain rfl := Option.some.inj h
                  refine W_run 2 [] [0, 8, 9, 10] [] (fr' := [(0, aI a0), (8, aD (.slice (.pair tI (.pair tI tI))) a1), (9, aI (List.length a1 : Int)), (10, aI (w64 (i265 + (1 : Int))))]) (L' := []) (obs := []) (by kernel_rfl) (by kernel_rfl) (by kernel_rfl) allP0 ?_
                  exact round_next' (by kernel_rfl) (by kernel_rfl)
    · obtain rfl := stepL_false h270 h
      refine W_exit (id := 0) [] [] (fr' := []) (L' := []) (by kernel_rfl) (by kernel_rfl) ?_
      refine seqQ_exit ?_
      refine round_exit ?_
      refine escQ_brk ?_
      exact exQ_mk (by kernel_rfl) (by kernel_rfl)
  · intro e fr L hJ
    rcases v398 with v403 | v404
    · obtain ⟨rfl, rfl, rfl⟩ := hJ
      obtain rfl := Option.some.inj h
      refine LT_keep [4] [] (fr' := [(4, aI v403)]) (L' := []) (by kernel_rfl) ?_
      refine blockQ_ret ?_
      refine seqQ_ret ?_
      exact retQ_mk (by kernel_rfl) (by kernel_rfl) (by kernel_rfl)
    · obtain ⟨rfl, rfl, rfl⟩ := hJ
      refine LT_keep [] [] (fr' := []) (L' := []) (by kernel_rfl) ?_
      refine blockQ_hit ?_
      refine seqQ_norm ?_
      refine W_seq (by kernel_rfl) ?_
      refine W_run 1 [] [4] [] (fr' := [(4, aI (0 : Int))]) (L' := []) (obs := []) (by kernel_rfl) (by kernel_rfl) (by kernel_rfl) allP0 ?_
      refine seqQ_norm ?_
      obtain rfl := Option.some.inj h
      refine W_ret [4] [] (fr' := [(4, aI (0 : Int))]) (L' := []) (by kernel_rfl) (by kernel_rfl) ?_
      exact retQ_mk (by kernel_rfl) (by kernel_rfl) (by kernel_rfl)

def gate_Check (a0 : Int) (a1 : (List (Int × (Int × Int)))) : Option Int :=
bif (((decide (a0 < (0 : Int))) || (decide (a0 > (5 : Int)))) || (decide ((List.length a1 : Int) < (1 : Int)))) || (decide ((List.length a1 : Int) > (40 : Int))) then
(some (1 : Int))
else
((gate_Wrong a0 a1).bind fun r2 =>
some r2)
theorem gate_Check_ok {a0 : Int} {a1 : (List (Int × (Int × Int)))} {r : Int} (h : gate_Check a0 a1 = some r) : FnC Try.prog 29 [aI a0, aD (.slice (.pair tI (.pair tI tI))) a1] [] (aI r) [] := by
  refine fnC_of_W (B := bodyOf Try.f29) (n := 24) Try.func29 (by kernel_rfl) (by kernel_rfl) (by kernel_rfl) (by kernel_rfl) (by kernel_rfl) ?_
  intro K
  refine W_seq (by kernel_rfl) ?_
  refine W_run 1 [] [0, 1] [] (fr' := [(0, aI a0), (1, aD (.slice (.pair tI (.pair tI tI))) a1)]) (L' := []) (obs := []) (by kernel_rfl) (by kernel_rfl) (by kernel_rfl) allP0 ?_
  refine seqQ_norm ?_
  refine W_seq (by kernel_rfl) ?_
  refine W_seq (by kernel_rfl) ?_
  refine W_run 16 [] [0, 1, 20] [] (fr' := [(0, aI a0), (1, aD (.slice (.pair tI (.pair tI tI))) a1), (20, aB ((((decide (a0 < (0 : Int))) || (decide (a0 > (5 : Int)))) || (decide ((List.length a1 : Int) < (1 : Int)))) || (decide ((List.length a1 : Int) > (40 : Int)))))]) (L' := []) (obs := []) (by kernel_rfl) (by kernel_rfl) (by kernel_rfl) allP0 ?_
  refine seqQ_norm ?_
  refine W_cond (o := .tmp 20) (b := (((decide (a0 < (0 : Int))) || (decide (a0 > (5 : Int)))) || (decide ((List.length a1 : Int) < (1 : Int)))) || (decide ((List.length a1 : Int) > (40 : Int)))) (by kernel_rfl) (by kernel_rfl) (fun h1 => ?_) (fun h1 => ?_)
  · replace h := ofT h1 h
    refine W_seq (by kernel_rfl) ?_
    refine W_run 1 [] [4] [] (fr' := [(4, aI (1 : Int))]) (L' := []) (obs := []) (by kernel_rfl) (by kernel_rfl) (by kernel_rfl) allP0 ?_
    refine seqQ_norm ?_
    obtain rfl := Option.some.inj h
    refine W_ret [4] [] (fr' := [(4, aI (1 : Int))]) (L' := []) (by kernel_rfl) (by kernel_rfl) ?_
    refine seqQ_ret ?_
    exact retQ_mk (by kernel_rfl) (by kernel_rfl) (by kernel_rfl)
  · replace h := ofF h1 h
    refine W_skip [0, 1] [] (fr' := [(0, aI a0), (1, aD (.slice (.pair tI (.pair tI tI))) a1)]) (L' := []) (by kernel_rfl) (by kernel_rfl) ?_
    refine seqQ_norm ?_
    refine W_seq (by kernel_rfl) ?_
    refine W_region (by kernel_rfl) ?_
    refine WO_run (j := 2) (k := 2) (orcs := []) (kF := [21, 22]) (kL := []) (fr' := [(21, aI a0), (22, aD (.slice (.pair tI (.pair tI tI))) a1)]) (L' := []) (obs := []) rfl (by kernel_rfl) allP0 ?_
    obtain ⟨r2, h3, h⟩ := bind_of h
    refine WO_call0 (us := [none, none]) (d := 23) (p := True) (j := 3) rfl ⟨by kernel_rfl, by kernel_rfl, by kernel_rfl⟩ trivial (gate_Wrong_ok h3) (by kernel_rfl) ?_
    refine WO_run (j := 4) (k := 1) (orcs := []) (kF := [4]) (kL := []) (fr' := [(4, aI r2)]) (L' := []) (obs := []) rfl (by kernel_rfl) allP0 ?_
    refine WO_fin [4] [] (fr' := [(4, aI r2)]) (L' := []) (by kernel_rfl) (by kernel_rfl) ?_
    refine seqQ_norm ?_
    obtain rfl := Option.some.inj h
    refine W_ret [4] [] (fr' := [(4, aI r2)]) (L' := []) (by kernel_rfl) (by kernel_rfl) ?_
    exact retQ_mk (by kernel_rfl) (by kernel_rfl) (by kernel_rfl)

def gate_Maker_Put_i2_g1 (a1 : Int) (a2 : Int) (a3 : Int) (c0 : (List (Int × (Int × Int)))) (v4 : (Option (List ((Int × (Int × Int)) × Int)))) : Option (Int × (List (Int × (Int × Int))) × (Option (List ((Int × (Int × Int)) × Int)))) :=
bif !(Option.isSome (mGet (deqT (.pair tI (.pair tI tI))) (Option.getD v4 []) (a1, a2, a3))) then
((ck ((List.length c0 : Int) + 1 ≤ 4294967296)).bind fun _ =>
(ck (Option.isSome v4 = true)).bind fun _ =>
some ((List.length c0 : Int), c0 ++ [(a1, a2, a3)], Option.map (fun l => mPut (deqT (.pair tI (.pair tI tI))) l (a1, a2, a3) (List.length c0 : Int)) v4))
else
(some (Option.getD (mGet (deqT (.pair tI (.pair tI tI))) (Option.getD v4 []) (a1, a2, a3)) (0 : Int), c0, v4))
@[reducible] def gate_Maker_Put_i2_s2 (v : (Int × (List (Int × (Int × Int))) × (Option (List ((Int × (Int × Int)) × Int))))) : Fr × LL := ([(10, aI v.1)], [(1000, .cells [.slc 2001, .slc 2002]), (2001, .seq (.pair tI (.pair tI tI)) v.2.1), (2002, .map (.pair tI (.pair tI tI)) tI v.2.2)])
@[reducible] def gate_Maker_Put_i2_s3 (a1 : Int) (a2 : Int) (a3 : Int) (c0 : (List (Int × (Int × Int)))) (v : (Option (List ((Int × (Int × Int)) × Int)))) : Fr × LL := ([(0, .one (.ptr 1000 0)), (9, .one (.ptr 9 0))], [(1000, .cells [.slc 2001, .slc 2002]), (9, .one (.pair tI (.pair tI tI)) (a1, a2, a3)), (2001, .seq (.pair tI (.pair tI tI)) c0), (2002, .map (.pair tI (.pair tI tI)) tI v)])
def gate_Maker_Put_i2 (a1 : Int) (a2 : Int) (a3 : Int) (c0 : (List (Int × (Int × Int)))) (c1 : (Option (List ((Int × (Int × Int)) × Int)))) : Option (Int × (List (Int × (Int × Int))) × (Option (List ((Int × (Int × Int)) × Int)))) :=
(bif Option.isNone c1 then
(some (some [] : Option (List ((Int × (Int × Int)) × Int))))
else
(some c1)).bind fun v4 =>
(gate_Maker_Put_i2_g1 a1 a2 a3 c0 v4).bind fun v15 =>
some (v15.1, v15.2.1, v15.2.2)
theorem gate_Maker_Put_i2_ok {a1 : Int} {a2 : Int} {a3 : Int} {c0 : (List (Int × (Int × Int)))} {c1 : (Option (List ((Int × (Int × Int)) × Int)))} {r : (Int × (List (Int × (Int × Int))) × (Option (List ((Int × (Int × Int)) × Int))))} (h : gate_Maker_Put_i2 a1 a2 a3 c0 c1 = some r) : FnC Try.prog 30 [.one (.ptr 1000 0), aI a1, aI a2, aI a3] [(1000, .cells [.slc 2001, .slc 2002]), (2001, .seq (.pair tI (.pair tI tI)) c0), (2002, .map (.pair tI (.pair tI tI)) tI c1)] (aI r.1) [(1000, .cells [.slc 2001, .slc 2002]), (2001, .seq (.pair tI (.pair tI tI)) r.2.1), (2002, .map (.pair tI (.pair tI tI)) tI r.2.2)] := by
  refine fnC_of_W (B := bodyOf Try.f30) (n := 58) Try.func30 (by kernel_rfl) (by kernel_rfl) (by kernel_rfl) (by kernel_rfl) (by kernel_rfl) ?_
  intro K
  refine W_seq (by kernel_rfl) ?_
  refine W_run 1 [] [0, 1, 2, 3] [1000, 2001, 2002] (fr' := [(0, .one (.ptr 1000 0)), (1, aI a1), (2, aI a2), (3, aI a3)]) (L' := [(1000, .cells [.slc 2001, .slc 2002]), (2001, .seq (.pair tI (.pair tI tI)) c0), (2002, .map (.pair tI (.pair tI tI)) tI c1)]) (obs := []) (by kernel_rfl) (by kernel_rfl) (by kernel_rfl) allP0 ?_
  refine seqQ_norm ?_
  refine W_seq (by kernel_rfl) ?_
  refine W_run 6 [(9, .typed)] [0, 9] [1000, 9, 2001, 2002] (fr' := [(0, .one (.ptr 1000 0)), (9, .one (.ptr 9 0))]) (L' := [(1000, .cells [.slc 2001, .slc 2002]), (9, .one (.pair tI (.pair tI tI)) (a1, a2, a3)), (2001, .seq (.pair tI (.pair tI tI)) c0), (2002, .map (.pair tI (.pair tI tI)) tI c1)]) (obs := [True]) (by kernel_rfl) (by kernel_rfl) (by kernel_rfl) (allP1 trivial) ?_
  refine seqQ_norm ?_
  refine W_seq (by kernel_rfl) ?_
  obtain ⟨v4, h5, h⟩ := bind_of h
  refine W_cutK (Q' := (exQ .normal (gate_Maker_Put_i2_s3 a1 a2 a3 c0)) v4) ?_ ?_
  · replace h := h5
    refine W_seq (by kernel_rfl) ?_
    refine W_run 5 [] [0, 9, 20] [1000, 9, 2001, 2002] (fr' := [(0, .one (.ptr 1000 0)), (9, .one (.ptr 9 0)), (20, aB (Option.isNone c1))]) (L' := [(1000, .cells [.slc 2001, .slc 2002]), (9, .one (.pair tI (.pair tI tI)) (a1, a2, a3)), (2001, .seq (.pair tI (.pair tI tI)) c0), (2002, .map (.pair tI (.pair tI tI)) tI c1)]) (obs := []) (by kernel_rfl) (by kernel_rfl) (by kernel_rfl) allP0 ?_
    refine seqQ_norm ?_
    refine W_cond (o := .tmp 20) (b := Option.isNone c1) (by kernel_rfl) (by kernel_rfl) (fun h3 => ?_) (fun h3 => ?_)
    · replace h := ofT h3 h
      refine W_region (by kernel_rfl) ?_
      refine WO_run (j := 5) (k := 5) (orcs := []) (kF := [0, 9]) (kL := [9, 22, 1000, 2001, 2002]) (fr' := [(0, .one (.ptr 1000 0)), (9, .one (.ptr 9 0))]) (L' := [(9, .one (.pair tI (.pair tI tI)) (a1, a2, a3)), (22, .map (.pair tI (.pair tI tI)) tI (some [] : Option (List ((Int × (Int × Int)) × Int)))), (1000, .cells [.slc 2001, .slc 22]), (2001, .seq (.pair tI (.pair tI tI)) c0), (2002, .map (.pair tI (.pair tI tI)) tI c1)]) (obs := [True]) rfl (by kernel_rfl) (allP1 trivial) ?_
      obtain rfl := Option.some.inj h
      refine WO_ren 22 2002 (by kernel_rfl) ?_
      refine WO_fin [0, 9] [1000, 9, 2001, 2002] (fr' := [(0, .one (.ptr 1000 0)), (9, .one (.ptr 9 0))]) (L' := [(1000, .cells [.slc 2001, .slc 2002]), (9, .one (.pair tI (.pair tI tI)) (a1, a2, a3)), (2001, .seq (.pair tI (.pair tI tI)) c0), (2002, .map (.pair tI (.pair tI tI)) tI (some [] : Option (List ((Int × (Int × Int)) × Int))))]) (by kernel_rfl) (by kernel_rfl) ?_
      exact exQ_mk (by kernel_rfl) (by kernel_rfl)
    · replace h := ofF h3 h
      obtain rfl := Option.some.inj h
      refine W_skip [0, 9] [1000, 9, 2001, 2002] (fr' := [(0, .one (.ptr 1000 0)), (9, .one (.ptr 9 0))]) (L' := [(1000, .cells [.slc 2001, .slc 2002]), (9, .one (.pair tI (.pair tI tI)) (a1, a2, a3)), (2001, .seq (.pair tI (.pair tI tI)) c0), (2002, .map (.pair tI (.pair tI tI)) tI c1)]) (by kernel_rfl) (by kernel_rfl) ?_
      exact exQ_mk (by kernel_rfl) (by kernel_rfl)
  · intro e fr L hJ
    obtain ⟨rfl, rfl, rfl⟩ := hJ
    refine LT_keep [0, 9] [1000, 9, 2001, 2002] (fr' := [(0, .one (.ptr 1000 0)), (9, .one (.ptr 9 0))]) (L' := [(1000, .cells [.slc 2001, .slc 2002]), (9, .one (.pair tI (.pair tI tI)) (a1, a2, a3)), (2001, .seq (.pair tI (.pair tI tI)) c0), (2002, .map (.pair tI (.pair tI tI)) tI v4)]) (by kernel_rfl) ?_
    refine seqQ_norm ?_
    refine W_seq (by kernel_rfl) ?_
    refine W_draw2 10 [] [] [0, 9, 10, 11] [1000, 9, 2001, 2002] (fr' := [(0, .one (.ptr 1000 0)), (9, .one (.ptr 9 0)), (10, aI (Option.getD (mGet (deqT (.pair tI (.pair tI tI))) (Option.getD v4 []) (a1, a2, a3)) (0 : Int))), (11, aB (Option.isSome (mGet (deqT (.pair tI (.pair tI tI))) (Option.getD v4 []) (a1, a2, a3))))]) (L' := [(1000, .cells [.slc 2001, .slc 2002]), (9, .one (.pair tI (.pair tI tI)) (a1, a2, a3)), (2001, .seq (.pair tI (.pair tI tI)) c0), (2002, .map (.pair tI (.pair tI tI)) tI v4)]) (out := [(26, .one (.ptr 1000 0)), (27, .one (.ptr 1000 0)), (28, .one (.ptr 1000 1)), (29, .one (.slc 2002)), (30, aD (.pair tI (.pair tI tI)) (a1, a2, a3)), (31, .tup [.dat tI (Option.getD (mGet (deqT (.pair tI (.pair tI tI))) (Option.getD v4 []) (a1, a2, a3)) (0 : Int)), .dat .bool (Option.isSome (mGet (deqT (.pair tI (.pair tI tI))) (Option.getD v4 []) (a1, a2, a3)))]), (25, .tup [.dat tI (Option.getD (mGet (deqT (.pair tI (.pair tI tI))) (Option.getD v4 []) (a1, a2, a3)) (0 : Int)), .dat .bool (Option.isSome (mGet (deqT (.pair tI (.pair tI tI))) (Option.getD v4 []) (a1, a2, a3)))]), (32, aI (Option.getD (mGet (deqT (.pair tI (.pair tI tI))) (Option.getD v4 []) (a1, a2, a3)) (0 : Int))), (33, aB (Option.isSome (mGet (deqT (.pair tI (.pair tI tI))) (Option.getD v4 []) (a1, a2, a3)))), (10, aI (Option.getD (mGet (deqT (.pair tI (.pair tI tI))) (Option.getD v4 []) (a1, a2, a3)) (0 : Int)))]) (obs := []) (obs2 := []) (calls := []) (by kernel_rfl) (by kernel_rfl) (by kernel_rfl) (by kernel_rfl) allP0 allC0 (by kernel_rfl) allP0 ?_
    refine seqQ_norm ?_
    refine W_seq (by kernel_rfl) ?_
    obtain ⟨v15, h16, h⟩ := bind_of h
    refine W_cutK (Q' := (exQ .normal gate_Maker_Put_i2_s2) v15) ?_ ?_
    · replace h := h16
      refine W_seq (by kernel_rfl) ?_
      refine W_run 2 [] [0, 9, 10, 35] [1000, 9, 2001, 2002] (fr' := [(0, .one (.ptr 1000 0)), (9, .one (.ptr 9 0)), (10, aI (Option.getD (mGet (deqT (.pair tI (.pair tI tI))) (Option.getD v4 []) (a1, a2, a3)) (0 : Int))), (35, aB (!(Option.isSome (mGet (deqT (.pair tI (.pair tI tI))) (Option.getD v4 []) (a1, a2, a3)))))]) (L' := [(1000, .cells [.slc 2001, .slc 2002]), (9, .one (.pair tI (.pair tI tI)) (a1, a2, a3)), (2001, .seq (.pair tI (.pair tI tI)) c0), (2002, .map (.pair tI (.pair tI tI)) tI v4)]) (obs := []) (by kernel_rfl) (by kernel_rfl) (by kernel_rfl) allP0 ?_
      refine seqQ_norm ?_
      refine W_cond (o := .tmp 35) (b := !(Option.isSome (mGet (deqT (.pair tI (.pair tI tI))) (Option.getD v4 []) (a1, a2, a3)))) (by kernel_rfl) (by kernel_rfl) (fun h12 => ?_) (fun h12 => ?_)
      · replace h := ofT h12 h
        refine W_seq (by kernel_rfl) ?_
        refine W_run 6 [] [0, 9, 10] [1000, 9, 2001, 2002] (fr' := [(0, .one (.ptr 1000 0)), (9, .one (.ptr 9 0)), (10, aI (List.length c0 : Int))]) (L' := [(1000, .cells [.slc 2001, .slc 2002]), (9, .one (.pair tI (.pair tI tI)) (a1, a2, a3)), (2001, .seq (.pair tI (.pair tI tI)) c0), (2002, .map (.pair tI (.pair tI tI)) tI v4)]) (obs := []) (by kernel_rfl) (by kernel_rfl) (by kernel_rfl) allP0 ?_
        refine seqQ_norm ?_
        refine W_seq (by kernel_rfl) ?_
        obtain ⟨_, h13, h⟩ := bind_of h
        replace h13 := ck_some h13
        refine W_draw5 7 [0] [] [] [0, 9, 10] [1000, 9, 2001, 2002] (fr' := [(0, .one (.ptr 1000 0)), (9, .one (.ptr 9 0)), (10, aI (List.length c0 : Int))]) (L' := [(1000, .cells [.slc 2001, .slc 2002]), (9, .one (.pair tI (.pair tI tI)) (a1, a2, a3)), (2001, .seq (.pair tI (.pair tI tI)) (c0 ++ [(a1, a2, a3)])), (2002, .map (.pair tI (.pair tI tI)) tI v4)]) (out := [(41, .one (.ptr 1000 0)), (42, .one (.ptr 1000 0)), (43, .one (.ptr 1000 0)), (44, .one (.ptr 1000 0)), (45, .one (.slc 2001)), (46, aD (.pair tI (.pair tI tI)) (a1, a2, a3)), (47, aD (.slice (.pair tI (.pair tI tI))) [(a1, a2, a3)])]) (obs := [True]) (obs2 := [SmallLen (List.length c0 + List.length [(a1, a2, a3)]), True]) (calls := []) (by kernel_rfl) (by kernel_rfl) (by kernel_rfl) (by kernel_rfl) (allP1 trivial) allD0 (by kernel_rfl) (allP2 h13 (allP1 trivial)) ?_
        refine seqQ_norm ?_
        obtain ⟨_, h14, h⟩ := bind_of h
        replace h14 := ck_some h14
        obtain rfl := Option.some.inj h
        refine W_draw2 6 [] [] [10] [1000, 2001, 2002] (fr' := [(10, aI (List.length c0 : Int))]) (L' := [(1000, .cells [.slc 2001, .slc 2002]), (2001, .seq (.pair tI (.pair tI tI)) (c0 ++ [(a1, a2, a3)])), (2002, .map (.pair tI (.pair tI tI)) tI (Option.map (fun l => mPut (deqT (.pair tI (.pair tI tI))) l (a1, a2, a3) (List.length c0 : Int)) v4))]) (out := [(51, .one (.ptr 1000 0)), (52, .one (.ptr 1000 0)), (53, .one (.ptr 1000 1)), (54, .one (.slc 2002)), (55, aD (.pair tI (.pair tI tI)) (a1, a2, a3)), (56, aI (List.length c0 : Int))]) (obs := []) (obs2 := [Option.isSome v4 = true]) (calls := []) (by kernel_rfl) (by kernel_rfl) (by kernel_rfl) (by kernel_rfl) allP0 allC0 (by kernel_rfl) (allP1 h14) ?_
        exact exQ_mk (by kernel_rfl) (by kernel_rfl)
      · replace h := ofF h12 h
        obtain rfl := Option.some.inj h
        refine W_skip [10] [1000, 2001, 2002] (fr' := [(10, aI (Option.getD (mGet (deqT (.pair tI (.pair tI tI))) (Option.getD v4 []) (a1, a2, a3)) (0 : Int)))]) (L' := [(1000, .cells [.slc 2001, .slc 2002]), (2001, .seq (.pair tI (.pair tI tI)) c0), (2002, .map (.pair tI (.pair tI tI)) tI v4)]) (by kernel_rfl) (by kernel_rfl) ?_
        exact exQ_mk (by kernel_rfl) (by kernel_rfl)
    · intro e fr L hJ
      obtain ⟨rfl, rfl, rfl⟩ := hJ
      refine LT_keep [10] [1000, 2001, 2002] (fr' := [(10, aI v15.1)]) (L' := [(1000, .cells [.slc 2001, .slc 2002]), (2001, .seq (.pair tI (.pair tI tI)) v15.2.1), (2002, .map (.pair tI (.pair tI tI)) tI v15.2.2)]) (by kernel_rfl) ?_
      refine seqQ_norm ?_
      refine W_seq (by kernel_rfl) ?_
      refine W_run 2 [] [8] [1000, 2001, 2002] (fr' := [(8, aI v15.1)]) (L' := [(1000, .cells [.slc 2001, .slc 2002]), (2001, .seq (.pair tI (.pair tI tI)) v15.2.1), (2002, .map (.pair tI (.pair tI tI)) tI v15.2.2)]) (obs := []) (by kernel_rfl) (by kernel_rfl) (by kernel_rfl) allP0 ?_
      refine seqQ_norm ?_
      obtain rfl := Option.some.inj h
      refine W_ret [8] [1000, 2001, 2002] (fr' := [(8, aI v15.1)]) (L' := [(1000, .cells [.slc 2001, .slc 2002]), (2001, .seq (.pair tI (.pair tI tI)) v15.2.1), (2002, .map (.pair tI (.pair tI tI)) tI v15.2.2)]) (by kernel_rfl) (by kernel_rfl) ?_
      exact retQ_mk (by kernel_rfl) (by kernel_rfl) (by kernel_rfl)

def slices_Clone_LapiGateapiGate (a0 : (List (Int × (Int × Int)))) : Option (List (Int × (Int × Int))) :=
(ck ((0 : Int) + (List.length a0 : Int) ≤ 4294967296)).bind fun _ =>
some ([] ++ a0)
theorem slices_Clone_LapiGateapiGate_ok {a0 : (List (Int × (Int × Int)))} {r : (List (Int × (Int × Int)))} (h : slices_Clone_LapiGateapiGate a0 = some r) : FnC Try.prog 31 [aD (.slice (.pair tI (.pair tI tI))) a0] [] (.one (.slc 5)) [(5, .seq (.pair tI (.pair tI tI)) r)] := by
  refine fnC_of_W (B := bodyOf Try.f31) (n := 8) Try.func31 (by kernel_rfl) (by kernel_rfl) (by kernel_rfl) (by kernel_rfl) (by kernel_rfl) ?_
  intro K
  refine W_seq (by kernel_rfl) ?_
  refine W_run 1 [] [0] [] (fr' := [(0, aD (.slice (.pair tI (.pair tI tI))) a0)]) (L' := []) (obs := []) (by kernel_rfl) (by kernel_rfl) (by kernel_rfl) allP0 ?_
  refine seqQ_norm ?_
  refine W_seq (by kernel_rfl) ?_
  refine W_seq (by kernel_rfl) ?_
  refine W_region (by kernel_rfl) ?_
  refine WO_run (j := 1) (k := 1) (orcs := []) (kF := [0, 3]) (kL := []) (fr' := [(0, aD (.slice (.pair tI (.pair tI tI))) a0), (3, aD (.slice (.pair tI (.pair tI tI))) a0)]) (L' := []) (obs := []) rfl (by kernel_rfl) allP0 ?_
  refine WO_nilcmp (u := (.pair tI (.pair tI tI))) (xs := a0) (d := 4) (j := 2) rfl (by kernel_rfl) (by kernel_rfl) (fun h12 h10 => ?_)
  cases h12
  · refine WO_fin [0, 4] [] (fr' := [(0, aD (.slice (.pair tI (.pair tI tI))) a0), (4, aB false)]) (L' := []) (by kernel_rfl) (by kernel_rfl) ?_
    refine seqQ_norm ?_
    refine W_cond (o := .tmp 4) (b := false) (by kernel_rfl) (by kernel_rfl) (fun h7 => by have := (rfl : false = false).symm.trans h7; cases this) (fun h7 => ?_)
    refine W_skip [0] [] (fr' := [(0, aD (.slice (.pair tI (.pair tI tI))) a0)]) (L' := []) (by kernel_rfl) (by kernel_rfl) ?_
    refine seqQ_norm ?_
    refine W_seq (by kernel_rfl) ?_
    obtain ⟨_, h8, h⟩ := bind_of h
    replace h8 := ck_some h8
    refine W_run 4 [] [2] [5] (fr' := [(2, .one (.slc 5))]) (L' := [(5, .seq (.pair tI (.pair tI tI)) ([] ++ a0))]) (obs := [SmallLen (List.length ([] : (List (Int × (Int × Int)))) + List.length a0)]) (by kernel_rfl) (by kernel_rfl) (by kernel_rfl) (allP1 h8) ?_
    refine seqQ_norm ?_
    obtain rfl := Option.some.inj h
    refine W_ret [2] [5] (fr' := [(2, .one (.slc 5))]) (L' := [(5, .seq (.pair tI (.pair tI tI)) ([] ++ a0))]) (by kernel_rfl) (by kernel_rfl) ?_
    exact retQ_mk (by kernel_rfl) (by kernel_rfl) (by kernel_rfl)
  · replace h10 := h10 rfl
    have h11 : (some [] : Option (List (Int × (Int × Int)))) = ((ck ((0 : Int) + (List.length a0 : Int) ≤ 4294967296)).bind fun _ => some ([] ++ a0)) := by rw [h10]; simp [ck]
    replace h := h11.trans h
    refine WO_fin [0, 4] [] (fr' := [(0, aD (.slice (.pair tI (.pair tI tI))) a0), (4, aB true)]) (L' := []) (by kernel_rfl) (by kernel_rfl) ?_
    refine seqQ_norm ?_
    refine W_cond (o := .tmp 4) (b := true) (by kernel_rfl) (by kernel_rfl) (fun h9 => ?_) (fun h9 => by have := (rfl : true = true).symm.trans h9; cases this)
    refine W_seq (by kernel_rfl) ?_
    refine W_run 1 [] [2] [] (fr' := [(2, .one (.nilS))]) (L' := []) (obs := []) (by kernel_rfl) (by kernel_rfl) (by kernel_rfl) allP0 ?_
    refine seqQ_norm ?_
    obtain rfl := Option.some.inj h
    refine W_mine 2 5 (.pair tI (.pair tI tI)) (by kernel_rfl) ?_
    refine W_ret [2] [5] (fr' := [(2, .one (.slc 5))]) (L' := [(5, .seq (.pair tI (.pair tI tI)) [])]) (by kernel_rfl) (by kernel_rfl) ?_
    refine seqQ_ret ?_
    exact retQ_mk (by kernel_rfl) (by kernel_rfl) (by kernel_rfl)

def gate_Turn_g7 (x277 : ((List Int) × (List Int) × (List (Int × (Int × Int))) × (Option (List ((Int × (Int × Int)) × Int))))) (v279 : (Int × (Int × Int))) : Option (Int × Int × (List (Int × (Int × Int))) × (Option (List ((Int × (Int × Int)) × Int)))) :=
bif v279.1 == (1 : Int) then
((gate_Maker_Put_i2 (1 : Int) v279.2.1 (0 : Int) x277.2.2.1 x277.2.2.2).bind fun r477 =>
(gate_Maker_Put_i2 (2 : Int) r477.1 (0 : Int) r477.2.1 r477.2.2).bind fun r479 =>
some (r477.1, r479.1, r479.2.1, r479.2.2))
else
(bif v279.1 == (2 : Int) then
((idx x277.2.1 v279.2.1).bind fun v482 =>
(idx x277.1 v279.2.1).bind fun v484 =>
some (v482, v484, x277.2.2.1, x277.2.2.2))
else
((idx x277.1 v279.2.1).bind fun v494 =>
(idx x277.1 v279.2.2).bind fun v496 =>
(gate_Maker_Put_i2 v279.1 v494 v496 x277.2.2.1 x277.2.2.2).bind fun r498 =>
(idx x277.2.1 v279.2.1).bind fun v508 =>
(idx x277.2.1 v279.2.2).bind fun v510 =>
(gate_Maker_Put_i2 (w64 ((7 : Int) - v279.1)) v508 v510 r498.2.1 r498.2.2).bind fun r512 =>
some (r498.1, r512.1, r512.2.1, r512.2.2)))
@[reducible] def gate_Turn_s8 (a1 : (List (Int × (Int × Int)))) (i276 : Int) (x277 : ((List Int) × (List Int) × (List (Int × (Int × Int))) × (Option (List ((Int × (Int × Int)) × Int))))) (v : (Int × Int × (List (Int × (Int × Int))) × (Option (List ((Int × (Int × Int)) × Int))))) : Fr × LL := ([(1, aD (.slice (.pair tI (.pair tI tI))) a1), (7, .one (.ptr 22 0)), (8, .one (.slc 84)), (9, .one (.slc 88)), (12, aI v.1), (13, aI v.2.1), (23, aD (.slice (.pair tI (.pair tI tI))) a1), (24, aI (List.length a1 : Int)), (25, aI i276)], [(22, .cells [.slc 998, .slc 997]), (84, .seq tI x277.1), (88, .seq tI x277.2.1), (998, .seq (.pair tI (.pair tI tI)) v.2.2.1), (997, .map (.pair tI (.pair tI tI)) tI v.2.2.2)])
def gate_Turn_b9 (i276 : Int) (v279 : (Int × (Int × Int))) (x277 : ((List Int) × (List Int) × (List (Int × (Int × Int))) × (Option (List ((Int × (Int × Int)) × Int))))) : Option (Flow ((List Int) × (List Int) × (List (Int × (Int × Int))) × (Option (List ((Int × (Int × Int)) × Int)))) ((List Int) × (List (Int × (Int × Int))) × (Option (List ((Int × (Int × Int)) × Int))))) :=
(gate_Turn_g7 x277 v279).bind fun v514 =>
(ck ((List.length x277.1 : Int) + 1 ≤ 4294967296)).bind fun _ =>
(ck ((List.length x277.2.1 : Int) + 1 ≤ 4294967296)).bind fun _ =>
some (.next (x277.1 ++ [v514.1], x277.2.1 ++ [v514.2.1], v514.2.2.1, v514.2.2.2))
@[reducible] def gate_Turn_s10 (a1 : (List (Int × (Int × Int)))) (v : Int × ((List Int) × (List Int) × (List (Int × (Int × Int))) × (Option (List ((Int × (Int × Int)) × Int))))) : Fr × LL := ([(1, aD (.slice (.pair tI (.pair tI tI))) a1), (7, .one (.ptr 22 0)), (8, .one (.slc 84)), (9, .one (.slc 88)), (23, aD (.slice (.pair tI (.pair tI tI))) a1), (24, aI (List.length a1 : Int)), (25, aI v.1)], [(22, .cells [.slc 998, .slc 997]), (84, .seq tI v.2.1), (88, .seq tI v.2.2.1), (998, .seq (.pair tI (.pair tI tI)) v.2.2.2.1), (997, .map (.pair tI (.pair tI tI)) tI v.2.2.2.2)])
@[reducible] def gate_Turn_s11 (a1 : (List (Int × (Int × Int)))) (v : ((List Int) × (List (Int × (Int × Int))) × (Option (List ((Int × (Int × Int)) × Int))))) : Fr × LL := ([(1, aD (.slice (.pair tI (.pair tI tI))) a1), (7, .one (.ptr 22 0)), (8, .one (.slc 84))], [(22, .cells [.slc 998, .slc 997]), (84, .seq tI v.1), (998, .seq (.pair tI (.pair tI tI)) v.2.1), (997, .map (.pair tI (.pair tI tI)) tI v.2.2)])
def gate_Turn (a0 : Int) (a1 : (List (Int × (Int × Int)))) : Option ((List (Int × (Int × Int))) × Int) :=
(gate_Check a0 a1).bind fun r1 =>
bif r1 != (0 : Int) then
(some ([], r1))
else
((forL gate_Turn_b9 (fun x277 => (x277.1, x277.2.2.1, x277.2.2.2)) a1 0 ([], [], [], (none : Option (List ((Int × (Int × Int)) × Int))))).bind fun v519 =>
(idx v519.1 (w64 ((List.length a1 : Int) - (1 : Int)))).bind fun v524 =>
(ck (0 ≤ (0 : Int) ∧ (0 : Int) ≤ w64 (v524 + (1 : Int)) ∧ w64 (v524 + (1 : Int)) ≤ (List.length v519.2.1 : Int))).bind fun _ =>
(slices_Clone_LapiGateapiGate (sub v519.2.1 (0 : Int) (w64 (v524 + (1 : Int))))).bind fun r527 =>
some (r527, (0 : Int)))
theorem gate_Turn_ok {a0 : Int} {a1 : (List (Int × (Int × Int)))} {r : ((List (Int × (Int × Int))) × Int)} (h : gate_Turn a0 a1 = some r) : FnC Try.prog 14 [aI a0, aD (.slice (.pair tI (.pair tI tI))) a1] [] (.tup [.dat (.slice (.pair tI (.pair tI tI))) r.1, .dat tI r.2]) [] := by
  refine fnC_of_W (B := bodyOf Try.f14) (n := 104) Try.func14 (by kernel_rfl) (by kernel_rfl) (by kernel_rfl) (by kernel_rfl) (by kernel_rfl) ?_
  intro K
  refine W_seq (by kernel_rfl) ?_
  refine W_run 2 [] [0, 1] [] (fr' := [(0, aI a0), (1, aD (.slice (.pair tI (.pair tI tI))) a1)]) (L' := []) (obs := []) (by kernel_rfl) (by kernel_rfl) (by kernel_rfl) allP0 ?_
  refine seqQ_norm ?_
  refine W_seq (by kernel_rfl) ?_
  refine W_seq (by kernel_rfl) ?_
  refine W_region (by kernel_rfl) ?_
  refine WO_run (j := 2) (k := 2) (orcs := []) (kF := [1, 15, 16]) (kL := []) (fr' := [(1, aD (.slice (.pair tI (.pair tI tI))) a1), (15, aI a0), (16, aD (.slice (.pair tI (.pair tI tI))) a1)]) (L' := []) (obs := []) rfl (by kernel_rfl) allP0 ?_
  obtain ⟨r1, h2, h⟩ := bind_of h
  refine WO_call0 (us := [none, none]) (d := 17) (p := True) (j := 3) rfl ⟨by kernel_rfl, by kernel_rfl, by kernel_rfl⟩ trivial (gate_Check_ok h2) (by kernel_rfl) ?_
  refine WO_run (j := 4) (k := 1) (orcs := []) (kF := [1, 6]) (kL := []) (fr' := [(1, aD (.slice (.pair tI (.pair tI tI))) a1), (6, aI r1)]) (L' := []) (obs := []) rfl (by kernel_rfl) allP0 ?_
  refine WO_fin [1, 6] [] (fr' := [(1, aD (.slice (.pair tI (.pair tI tI))) a1), (6, aI r1)]) (L' := []) (by kernel_rfl) (by kernel_rfl) ?_
  refine seqQ_norm ?_
  refine W_seq (by kernel_rfl) ?_
  refine W_run 2 [] [1, 6, 19] [] (fr' := [(1, aD (.slice (.pair tI (.pair tI tI))) a1), (6, aI r1), (19, aB (r1 != (0 : Int)))]) (L' := []) (obs := []) (by kernel_rfl) (by kernel_rfl) (by kernel_rfl) allP0 ?_
  refine seqQ_norm ?_
  refine W_cond (o := .tmp 19) (b := r1 != (0 : Int)) (by kernel_rfl) (by kernel_rfl) (fun h3 => ?_) (fun h3 => ?_)
  · replace h := ofT h3 h
    refine W_seq (by kernel_rfl) ?_
    refine W_run 3 [] [4, 5] [] (fr' := [(4, .one (.nilS)), (5, aI r1)]) (L' := []) (obs := []) (by kernel_rfl) (by kernel_rfl) (by kernel_rfl) allP0 ?_
    refine seqQ_norm ?_
    obtain rfl := Option.some.inj h
    refine W_cnv 4 (.slice (.pair tI (.pair tI tI))) (by kernel_rfl) ?_
    refine W_ret [4, 5] [] (fr' := [(4, aD (.slice (.pair tI (.pair tI tI))) []), (5, aI r1)]) (L' := []) (by kernel_rfl) (by kernel_rfl) ?_
    refine seqQ_ret ?_
    exact retQ_mk (by kernel_rfl) (by kernel_rfl) (by kernel_rfl)
  · replace h := ofF h3 h
    refine W_skip [1] [] (fr' := [(1, aD (.slice (.pair tI (.pair tI tI))) a1)]) (L' := []) (by kernel_rfl) (by kernel_rfl) ?_
    refine seqQ_norm ?_
    refine W_seq (by kernel_rfl) ?_
    refine W_run 3 [] [1, 7] [22] (fr' := [(1, aD (.slice (.pair tI (.pair tI tI))) a1), (7, .one (.ptr 22 0))]) (L' := [(22, .cells [.nilS, .nilM])]) (obs := []) (by kernel_rfl) (by kernel_rfl) (by kernel_rfl) allP0 ?_
    refine seqQ_norm ?_
    refine W_seq (by kernel_rfl) ?_
    refine W_run 2 [] [1, 7, 8, 9] [22] (fr' := [(1, aD (.slice (.pair tI (.pair tI tI))) a1), (7, .one (.ptr 22 0)), (8, .one (.nilS)), (9, .one (.nilS))]) (L' := [(22, .cells [.nilS, .nilM])]) (obs := []) (by kernel_rfl) (by kernel_rfl) (by kernel_rfl) allP0 ?_
    refine seqQ_norm ?_
    refine W_seq (by kernel_rfl) ?_
    refine W_seq (by kernel_rfl) ?_
    refine W_run 3 [] [1, 7, 8, 9, 23, 24, 25] [22] (fr' := [(1, aD (.slice (.pair tI (.pair tI tI))) a1), (7, .one (.ptr 22 0)), (8, .one (.nilS)), (9, .one (.nilS)), (23, aD (.slice (.pair tI (.pair tI tI))) a1), (24, aI (List.length a1 : Int)), (25, aI (0 : Int))]) (L' := [(22, .cells [.nilS, .nilM])]) (obs := []) (by kernel_rfl) (by kernel_rfl) (by kernel_rfl) allP0 ?_
    refine seqQ_norm ?_
    refine W_block (id := 0) (by kernel_rfl) ?_
    obtain ⟨v519, h520, h⟩ := bind_of h
    refine W_len (t := 23) (u := (.pair tI (.pair tI tI))) (xs := a1) (by kernel_rfl) (fun h523 => ?_)
    obtain ⟨h521, h522⟩ := forL_iter h523 h520
    refine W_mine 8 84 tI (by kernel_rfl) ?_
    refine W_mine 9 88 tI (by kernel_rfl) ?_
    refine W_cellown 22 0 998 (.pair tI (.pair tI tI)) (by kernel_rfl) ?_
    refine W_cellownM 22 1 997 (.pair tI (.pair tI tI)) tI (by kernel_rfl) ?_
    refine W_weaken [1, 7, 8, 9, 23, 24, 25] [22, 84, 88, 998, 997] (fr' := ((gate_Turn_s10 a1) ((0 : Int), ([], [], [], (none : Option (List ((Int × (Int × Int)) × Int)))))).1) (L' := ((gate_Turn_s10 a1) ((0 : Int), ([], [], [], (none : Option (List ((Int × (Int × Int)) × Int)))))).2) (by kernel_rfl) ?_
    refine W_cutK (W_loop (S := (gate_Turn_s10 a1)) (J := (exQ (.exit 0) (gate_Turn_s11 a1))) (by kernel_rfl) ?_ h521 _ v519 h522) ?_
    · rintro ⟨i276, x277⟩ s h
      refine W_seq (by kernel_rfl) ?_
      refine W_run 1 [] [1, 7, 8, 9, 23, 24, 25, 26] [22, 84, 88, 997, 998] (fr' := [(1, aD (.slice (.pair tI (.pair tI tI))) a1), (7, .one (.ptr 22 0)), (8, .one (.slc 84)), (9, .one (.slc 88)), (23, aD (.slice (.pair tI (.pair tI tI))) a1), (24, aI (List.length a1 : Int)), (25, aI i276), (26, aB (decide (i276 < (List.length a1 : Int))))]) (L' := [(22, .cells [.slc 998, .slc 997]), (84, .seq tI x277.1), (88, .seq tI x277.2.1), (997, .map (.pair tI (.pair tI tI)) tI x277.2.2.2), (998, .seq (.pair tI (.pair tI tI)) x277.2.2.1)]) (obs := []) (by kernel_rfl) (by kernel_rfl) (by kernel_rfl) allP0 ?_
      refine seqQ_norm ?_
      refine W_seq (by kernel_rfl) ?_
      refine W_cond (o := .tmp 26) (b := decide (i276 < (List.length a1 : Int))) (by kernel_rfl) (by kernel_rfl) (fun h281 => ?_) (fun h281 => ?_)
      · replace h := stepL_true h281 h
        obtain ⟨v279, _, h280, h, rfl⟩ := h
        refine W_skip [1, 7, 8, 9, 23, 24, 25] [22, 84, 88, 997, 998] (fr' := [(1, aD (.slice (.pair tI (.pair tI tI))) a1), (7, .one (.ptr 22 0)), (8, .one (.slc 84)), (9, .one (.slc 88)), (23, aD (.slice (.pair tI (.pair tI tI))) a1), (24, aI (List.length a1 : Int)), (25, aI i276)]) (L' := [(22, .cells [.slc 998, .slc 997]), (84, .seq tI x277.1), (88, .seq tI x277.2.1), (997, .map (.pair tI (.pair tI tI)) tI x277.2.2.2), (998, .seq (.pair tI (.pair tI tI)) x277.2.2.1)]) (by kernel_rfl) (by kernel_rfl) ?_
        refine seqQ_norm ?_
        refine W_seq (by kernel_rfl) ?_
        refine W_block (id := 1) (by kernel_rfl) ?_
        refine W_seq (by kernel_rfl) ?_
        refine W_run 4 [(1, .val (.dat (.pair tI (.pair tI tI)) v279)), (5, .typed)] [1, 7, 8, 9, 11, 23, 24, 25] [22, 84, 88, 11, 997, 998] (fr' := [(1, aD (.slice (.pair tI (.pair tI tI))) a1), (7, .one (.ptr 22 0)), (8, .one (.slc 84)), (9, .one (.slc 88)), (11, .one (.ptr 11 0)), (23, aD (.slice (.pair tI (.pair tI tI))) a1), (24, aI (List.length a1 : Int)), (25, aI i276)]) (L' := [(22, .cells [.slc 998, .slc 997]), (84, .seq tI x277.1), (88, .seq tI x277.2.1), (11, .one (.pair tI (.pair tI tI)) v279), (997, .map (.pair tI (.pair tI tI)) tI x277.2.2.2), (998, .seq (.pair tI (.pair tI tI)) x277.2.2.1)]) (obs := [Idx a1 i276 v279, True]) (by kernel_rfl) (by kernel_rfl) (by kernel_rfl) (allP2 (Idx.of h280) (allP1 trivial)) ?_
        refine seqQ_norm ?_
        refine W_seq (by kernel_rfl) ?_
        refine W_run 2 [] [1, 7, 8, 9, 11, 23, 24, 25] [22, 84, 88, 11, 997, 998] (fr' := [(1, aD (.slice (.pair tI (.pair tI tI))) a1), (7, .one (.ptr 22 0)), (8, .one (.slc 84)), (9, .one (.slc 88)), (11, .one (.ptr 11 0)), (23, aD (.slice (.pair tI (.pair tI tI))) a1), (24, aI (List.length a1 : Int)), (25, aI i276)]) (L' := [(22, .cells [.slc 998, .slc 997]), (84, .seq tI x277.1), (88, .seq tI x277.2.1), (11, .one (.pair tI (.pair tI tI)) v279), (997, .map (.pair tI (.pair tI tI)) tI x277.2.2.2), (998, .seq (.pair tI (.pair tI tI)) x277.2.2.1)]) (obs := []) (by kernel_rfl) (by kernel_rfl) (by kernel_rfl) allP0 ?_
        refine seqQ_norm ?_
        refine W_seq (by kernel_rfl) ?_
        obtain ⟨v514, h515, h⟩ := bind_of h
        refine W_cutK (Q' := (exQ .normal (gate_Turn_s8 a1 i276 x277)) v514) ?_ ?_
        · replace h := h515
          refine W_seq (by kernel_rfl) ?_
          refine W_run 2 [] [1, 7, 8, 9, 11, 23, 24, 25, 30] [22, 84, 88, 11, 997, 998] (fr' := [(1, aD (.slice (.pair tI (.pair tI tI))) a1), (7, .one (.ptr 22 0)), (8, .one (.slc 84)), (9, .one (.slc 88)), (11, .one (.ptr 11 0)), (23, aD (.slice (.pair tI (.pair tI tI))) a1), (24, aI (List.length a1 : Int)), (25, aI i276), (30, aI v279.1)]) (L' := [(22, .cells [.slc 998, .slc 997]), (84, .seq tI x277.1), (88, .seq tI x277.2.1), (11, .one (.pair tI (.pair tI tI)) v279), (997, .map (.pair tI (.pair tI tI)) tI x277.2.2.2), (998, .seq (.pair tI (.pair tI tI)) x277.2.2.1)]) (obs := []) (by kernel_rfl) (by kernel_rfl) (by kernel_rfl) allP0 ?_
          refine seqQ_norm ?_
          refine W_block (id := 2) (by kernel_rfl) ?_
          refine W_seq (by kernel_rfl) ?_
          refine W_run 2 [] [1, 7, 8, 9, 11, 23, 24, 25, 30, 60] [22, 84, 88, 11, 997, 998] (fr' := [(1, aD (.slice (.pair tI (.pair tI tI))) a1), (7, .one (.ptr 22 0)), (8, .one (.slc 84)), (9, .one (.slc 88)), (11, .one (.ptr 11 0)), (23, aD (.slice (.pair tI (.pair tI tI))) a1), (24, aI (List.length a1 : Int)), (25, aI i276), (30, aI v279.1), (60, aB (v279.1 == (1 : Int)))]) (L' := [(22, .cells [.slc 998, .slc 997]), (84, .seq tI x277.1), (88, .seq tI x277.2.1), (11, .one (.pair tI (.pair tI tI)) v279), (997, .map (.pair tI (.pair tI tI)) tI x277.2.2.2), (998, .seq (.pair tI (.pair tI tI)) x277.2.2.1)]) (obs := []) (by kernel_rfl) (by kernel_rfl) (by kernel_rfl) allP0 ?_
          refine seqQ_norm ?_
          refine W_cond (o := .tmp 60) (b := v279.1 == (1 : Int)) (by kernel_rfl) (by kernel_rfl) (fun h476 => ?_) (fun h476 => ?_)
          · replace h := ofT h476 h
            refine W_seq (by kernel_rfl) ?_
            refine W_region (by kernel_rfl) ?_
            refine WO_run (j := 3) (k := 3) (orcs := []) (kF := [1, 7, 8, 9, 23, 24, 25, 62, 64]) (kL := [11, 22, 84, 88, 997, 998]) (fr' := [(1, aD (.slice (.pair tI (.pair tI tI))) a1), (7, .one (.ptr 22 0)), (8, .one (.slc 84)), (9, .one (.slc 88)), (23, aD (.slice (.pair tI (.pair tI tI))) a1), (24, aI (List.length a1 : Int)), (25, aI i276), (62, .one (.ptr 22 0)), (64, aI v279.2.1)]) (L' := [(11, .one (.pair tI (.pair tI tI)) v279), (22, .cells [.slc 998, .slc 997]), (84, .seq tI x277.1), (88, .seq tI x277.2.1), (997, .map (.pair tI (.pair tI tI)) tI x277.2.2.2), (998, .seq (.pair tI (.pair tI tI)) x277.2.2.1)]) (obs := []) rfl (by kernel_rfl) allP0 ?_
            obtain ⟨r477, h478, h⟩ := bind_of h
            refine WO_lend2 [(1000, 22), (2001, 998), (2002, 997)] (us := [none, none, none, none]) (d := 65) (p := True) (j := 4) rfl ⟨by kernel_rfl, by kernel_rfl, by kernel_rfl⟩ trivial (gate_Maker_Put_i2_ok h478) (by kernel_rfl) (by kernel_rfl) ?_
            refine WO_run (j := 5) (k := 1) (orcs := []) (kF := [1, 7, 8, 9, 12, 23, 24, 25]) (kL := [11, 22, 84, 88, 997, 998]) (fr' := [(1, aD (.slice (.pair tI (.pair tI tI))) a1), (7, .one (.ptr 22 0)), (8, .one (.slc 84)), (9, .one (.slc 88)), (12, aI r477.1), (23, aD (.slice (.pair tI (.pair tI tI))) a1), (24, aI (List.length a1 : Int)), (25, aI i276)]) (L' := [(11, .one (.pair tI (.pair tI tI)) v279), (22, .cells [.slc 998, .slc 997]), (84, .seq tI x277.1), (88, .seq tI x277.2.1), (997, .map (.pair tI (.pair tI tI)) tI r477.2.2), (998, .seq (.pair tI (.pair tI tI)) r477.2.1)]) (obs := []) rfl (by kernel_rfl) allP0 ?_
            refine WO_fin [1, 7, 8, 9, 12, 23, 24, 25] [22, 84, 88, 997, 998] (fr' := [(1, aD (.slice (.pair tI (.pair tI tI))) a1), (7, .one (.ptr 22 0)), (8, .one (.slc 84)), (9, .one (.slc 88)), (12, aI r477.1), (23, aD (.slice (.pair tI (.pair tI tI))) a1), (24, aI (List.length a1 : Int)), (25, aI i276)]) (L' := [(22, .cells [.slc 998, .slc 997]), (84, .seq tI x277.1), (88, .seq tI x277.2.1), (997, .map (.pair tI (.pair tI tI)) tI r477.2.2), (998, .seq (.pair tI (.pair tI tI)) r477.2.1)]) (by kernel_rfl) (by kernel_rfl) ?_
            refine seqQ_norm ?_
            refine W_region (by kernel_rfl) ?_
            refine WO_run (j := 2) (k := 2) (orcs := []) (kF := [1, 7, 8, 9, 12, 23, 24, 25, 66, 67]) (kL := [22, 84, 88, 997, 998]) (fr' := [(1, aD (.slice (.pair tI (.pair tI tI))) a1), (7, .one (.ptr 22 0)), (8, .one (.slc 84)), (9, .one (.slc 88)), (12, aI r477.1), (23, aD (.slice (.pair tI (.pair tI tI))) a1), (24, aI (List.length a1 : Int)), (25, aI i276), (66, .one (.ptr 22 0)), (67, aI r477.1)]) (L' := [(22, .cells [.slc 998, .slc 997]), (84, .seq tI x277.1), (88, .seq tI x277.2.1), (997, .map (.pair tI (.pair tI tI)) tI r477.2.2), (998, .seq (.pair tI (.pair tI tI)) r477.2.1)]) (obs := []) rfl (by kernel_rfl) allP0 ?_
            obtain ⟨r479, h480, h⟩ := bind_of h
            refine WO_lend2 [(1000, 22), (2001, 998), (2002, 997)] (us := [none, none, none, none]) (d := 68) (p := True) (j := 3) rfl ⟨by kernel_rfl, by kernel_rfl, by kernel_rfl⟩ trivial (gate_Maker_Put_i2_ok h480) (by kernel_rfl) (by kernel_rfl) ?_
            refine WO_run (j := 4) (k := 1) (orcs := []) (kF := [1, 7, 8, 9, 12, 13, 23, 24, 25]) (kL := [22, 84, 88, 997, 998]) (fr' := [(1, aD (.slice (.pair tI (.pair tI tI))) a1), (7, .one (.ptr 22 0)), (8, .one (.slc 84)), (9, .one (.slc 88)), (12, aI r477.1), (13, aI r479.1), (23, aD (.slice (.pair tI (.pair tI tI))) a1), (24, aI (List.length a1 : Int)), (25, aI i276)]) (L' := [(22, .cells [.slc 998, .slc 997]), (84, .seq tI x277.1), (88, .seq tI x277.2.1), (997, .map (.pair tI (.pair tI tI)) tI r479.2.2), (998, .seq (.pair tI (.pair tI tI)) r479.2.1)]) (obs := []) rfl (by kernel_rfl) allP0 ?_
            obtain rfl := Option.some.inj h
            refine WO_fin [1, 7, 8, 9, 12, 13, 23, 24, 25] [22, 84, 88, 998, 997] (fr' := [(1, aD (.slice (.pair tI (.pair tI tI))) a1), (7, .one (.ptr 22 0)), (8, .one (.slc 84)), (9, .one (.slc 88)), (12, aI r477.1), (13, aI r479.1), (23, aD (.slice (.pair tI (.pair tI tI))) a1), (24, aI (List.length a1 : Int)), (25, aI i276)]) (L' := [(22, .cells [.slc 998, .slc 997]), (84, .seq tI x277.1), (88, .seq tI x277.2.1), (998, .seq (.pair tI (.pair tI tI)) r479.2.1), (997, .map (.pair tI (.pair tI tI)) tI r479.2.2)]) (by kernel_rfl) (by kernel_rfl) ?_
            refine blockQ_norm ?_
            exact exQ_mk (by kernel_rfl) (by kernel_rfl)
          · replace h := ofF h476 h
            refine W_seq (by kernel_rfl) ?_
            refine W_run 2 [] [1, 7, 8, 9, 11, 23, 24, 25, 69] [22, 84, 88, 11, 997, 998] (fr' := [(1, aD (.slice (.pair tI (.pair tI tI))) a1), (7, .one (.ptr 22 0)), (8, .one (.slc 84)), (9, .one (.slc 88)), (11, .one (.ptr 11 0)), (23, aD (.slice (.pair tI (.pair tI tI))) a1), (24, aI (List.length a1 : Int)), (25, aI i276), (69, aB (v279.1 == (2 : Int)))]) (L' := [(22, .cells [.slc 998, .slc 997]), (84, .seq tI x277.1), (88, .seq tI x277.2.1), (11, .one (.pair tI (.pair tI tI)) v279), (997, .map (.pair tI (.pair tI tI)) tI x277.2.2.2), (998, .seq (.pair tI (.pair tI tI)) x277.2.2.1)]) (obs := []) (by kernel_rfl) (by kernel_rfl) (by kernel_rfl) allP0 ?_
            refine seqQ_norm ?_
            refine W_cond (o := .tmp 69) (b := v279.1 == (2 : Int)) (by kernel_rfl) (by kernel_rfl) (fun h481 => ?_) (fun h481 => ?_)
            · replace h := ofT h481 h
              obtain ⟨v482, h483, h⟩ := bind_of h
              obtain ⟨v484, h485, h⟩ := bind_of h
              obtain rfl := Option.some.inj h
              refine W_draw2 11 [(9, .val (.dat tI v482)), (19, .val (.dat tI v484))] [] [1, 7, 8, 9, 12, 13, 23, 24, 25] [22, 84, 88, 998, 997] (fr' := [(1, aD (.slice (.pair tI (.pair tI tI))) a1), (7, .one (.ptr 22 0)), (8, .one (.slc 84)), (9, .one (.slc 88)), (12, aI v482), (13, aI v484), (23, aD (.slice (.pair tI (.pair tI tI))) a1), (24, aI (List.length a1 : Int)), (25, aI i276)]) (L' := [(22, .cells [.slc 998, .slc 997]), (84, .seq tI x277.1), (88, .seq tI x277.2.1), (998, .seq (.pair tI (.pair tI tI)) x277.2.2.1), (997, .map (.pair tI (.pair tI tI)) tI x277.2.2.2)]) (out := [(71, .one (.slc 88)), (72, .one (.ptr 11 1)), (73, aI v279.2.1), (74, .one (.eptr 88 1 v279.2.1 0)), (75, aI v482), (76, .one (.slc 84)), (77, .one (.ptr 11 1)), (78, aI v279.2.1), (79, .one (.eptr 84 1 v279.2.1 0)), (80, aI v484), (12, aI v482)]) (obs := [InR v279.2.1 (List.length x277.2.1), Idx x277.2.1 v279.2.1 v482, InR v279.2.1 (List.length x277.1), Idx x277.1 v279.2.1 v484]) (obs2 := []) (calls := []) (by kernel_rfl) (by kernel_rfl) (by kernel_rfl) (by kernel_rfl) (allP2 (InR.of h483) (allP2 (Idx.of h483) (allP2 (InR.of h485) (allP1 (Idx.of h485))))) allC0 (by kernel_rfl) allP0 ?_
              refine blockQ_norm ?_
              exact exQ_mk (by kernel_rfl) (by kernel_rfl)
            · replace h := ofF h481 h
              refine W_seq (by kernel_rfl) ?_
              obtain ⟨v494, h495, h⟩ := bind_of h
              obtain ⟨v496, h497, h⟩ := bind_of h
              refine W_drawT5 13 [] [(15, .val (.dat tI v494)), (25, .val (.dat tI v496))] [] [1, 7, 8, 9, 11, 23, 24, 25, 31, 33, 38, 43] [11, 22, 84, 88, 997, 998] (out := [(31, .one (.ptr 22 0)), (32, .one (.ptr 11 0)), (33, aI v279.1), (34, .one (.slc 84)), (35, .one (.ptr 11 1)), (36, aI v279.2.1), (37, .one (.eptr 84 1 v279.2.1 0)), (38, aI v494), (39, .one (.slc 84)), (40, .one (.ptr 11 2)), (41, aI v279.2.2), (42, .one (.eptr 84 1 v279.2.2 0)), (43, aI v496)]) (obs := [InR v279.2.1 (List.length x277.1), Idx x277.1 v279.2.1 v494, InR v279.2.2 (List.length x277.1), Idx x277.1 v279.2.2 v496]) (calls := []) (fr' := [(1, aD (.slice (.pair tI (.pair tI tI))) a1), (7, .one (.ptr 22 0)), (8, .one (.slc 84)), (9, .one (.slc 88)), (11, .one (.ptr 11 0)), (23, aD (.slice (.pair tI (.pair tI tI))) a1), (24, aI (List.length a1 : Int)), (25, aI i276), (31, .one (.ptr 22 0)), (33, aI v279.1), (38, aI v494), (43, aI v496)]) (L' := [(11, .one (.pair tI (.pair tI tI)) v279), (22, .cells [.slc 998, .slc 997]), (84, .seq tI x277.1), (88, .seq tI x277.2.1), (997, .map (.pair tI (.pair tI tI)) tI x277.2.2.2), (998, .seq (.pair tI (.pair tI tI)) x277.2.2.1)]) (by kernel_rfl) (by kernel_rfl) (by kernel_rfl) (by kernel_rfl) (allP2 (InR.of h495) (allP2 (Idx.of h495) (allP2 (InR.of h497) (allP1 (Idx.of h497))))) allD0 (by kernel_rfl) ?_
              obtain ⟨r498, h499, h⟩ := bind_of h
              refine WO_lend2 [(1000, 22), (2001, 998), (2002, 997)] (us := [none, none, none, none]) (d := 44) (p := True) (j := 14) rfl ⟨by kernel_rfl, by kernel_rfl, by kernel_rfl⟩ trivial (gate_Maker_Put_i2_ok h499) (by kernel_rfl) (by kernel_rfl) ?_
              refine WO_run (j := 15) (k := 1) (orcs := []) (kF := [1, 7, 8, 9, 11, 12, 23, 24, 25]) (kL := [11, 22, 84, 88, 997, 998]) (fr' := [(1, aD (.slice (.pair tI (.pair tI tI))) a1), (7, .one (.ptr 22 0)), (8, .one (.slc 84)), (9, .one (.slc 88)), (11, .one (.ptr 11 0)), (12, aI r498.1), (23, aD (.slice (.pair tI (.pair tI tI))) a1), (24, aI (List.length a1 : Int)), (25, aI i276)]) (L' := [(11, .one (.pair tI (.pair tI tI)) v279), (22, .cells [.slc 998, .slc 997]), (84, .seq tI x277.1), (88, .seq tI x277.2.1), (997, .map (.pair tI (.pair tI tI)) tI r498.2.2), (998, .seq (.pair tI (.pair tI tI)) r498.2.1)]) (obs := []) rfl (by kernel_rfl) allP0 ?_
              refine WO_fin [1, 7, 8, 9, 11, 12, 23, 24, 25] [22, 84, 88, 11, 997, 998] (fr' := [(1, aD (.slice (.pair tI (.pair tI tI))) a1), (7, .one (.ptr 22 0)), (8, .one (.slc 84)), (9, .one (.slc 88)), (11, .one (.ptr 11 0)), (12, aI r498.1), (23, aD (.slice (.pair tI (.pair tI tI))) a1), (24, aI (List.length a1 : Int)), (25, aI i276)]) (L' := [(22, .cells [.slc 998, .slc 997]), (84, .seq tI x277.1), (88, .seq tI x277.2.1), (11, .one (.pair tI (.pair tI tI)) v279), (997, .map (.pair tI (.pair tI tI)) tI r498.2.2), (998, .seq (.pair tI (.pair tI tI)) r498.2.1)]) (by kernel_rfl) (by kernel_rfl) ?_
              refine ⟨rfl, ?_⟩
              refine seqQ_norm ?_
              obtain ⟨v508, h509, h⟩ := bind_of h
              obtain ⟨v510, h511, h⟩ := bind_of h
              refine W_drawT5 14 [] [(17, .val (.dat tI v508)), (27, .val (.dat tI v510))] [] [1, 7, 8, 9, 12, 23, 24, 25, 45, 48, 53, 58] [11, 22, 84, 88, 997, 998] (out := [(45, .one (.ptr 22 0)), (46, .one (.ptr 11 0)), (47, aI v279.1), (48, aI (w64 ((7 : Int) - v279.1))), (49, .one (.slc 88)), (50, .one (.ptr 11 1)), (51, aI v279.2.1), (52, .one (.eptr 88 1 v279.2.1 0)), (53, aI v508), (54, .one (.slc 88)), (55, .one (.ptr 11 2)), (56, aI v279.2.2), (57, .one (.eptr 88 1 v279.2.2 0)), (58, aI v510)]) (obs := [InR v279.2.1 (List.length x277.2.1), Idx x277.2.1 v279.2.1 v508, InR v279.2.2 (List.length x277.2.1), Idx x277.2.1 v279.2.2 v510]) (calls := []) (fr' := [(1, aD (.slice (.pair tI (.pair tI tI))) a1), (7, .one (.ptr 22 0)), (8, .one (.slc 84)), (9, .one (.slc 88)), (12, aI r498.1), (23, aD (.slice (.pair tI (.pair tI tI))) a1), (24, aI (List.length a1 : Int)), (25, aI i276), (45, .one (.ptr 22 0)), (48, aI (w64 ((7 : Int) - v279.1))), (53, aI v508), (58, aI v510)]) (L' := [(11, .one (.pair tI (.pair tI tI)) v279), (22, .cells [.slc 998, .slc 997]), (84, .seq tI x277.1), (88, .seq tI x277.2.1), (997, .map (.pair tI (.pair tI tI)) tI r498.2.2), (998, .seq (.pair tI (.pair tI tI)) r498.2.1)]) (by kernel_rfl) (by kernel_rfl) (by kernel_rfl) (by kernel_rfl) (allP2 (InR.of h509) (allP2 (Idx.of h509) (allP2 (InR.of h511) (allP1 (Idx.of h511))))) allD0 (by kernel_rfl) ?_
              obtain ⟨r512, h513, h⟩ := bind_of h
              refine WO_lend2 [(1000, 22), (2001, 998), (2002, 997)] (us := [none, none, none, none]) (d := 59) (p := True) (j := 15) rfl ⟨by kernel_rfl, by kernel_rfl, by kernel_rfl⟩ trivial (gate_Maker_Put_i2_ok h513) (by kernel_rfl) (by kernel_rfl) ?_
              refine WO_run (j := 16) (k := 1) (orcs := []) (kF := [1, 7, 8, 9, 12, 13, 23, 24, 25]) (kL := [11, 22, 84, 88, 997, 998]) (fr' := [(1, aD (.slice (.pair tI (.pair tI tI))) a1), (7, .one (.ptr 22 0)), (8, .one (.slc 84)), (9, .one (.slc 88)), (12, aI r498.1), (13, aI r512.1), (23, aD (.slice (.pair tI (.pair tI tI))) a1), (24, aI (List.length a1 : Int)), (25, aI i276)]) (L' := [(11, .one (.pair tI (.pair tI tI)) v279), (22, .cells [.slc 998, .slc 997]), (84, .seq tI x277.1), (88, .seq tI x277.2.1), (997, .map (.pair tI (.pair tI tI)) tI r512.2.2), (998, .seq (.pair tI (.pair tI tI)) r512.2.1)]) (obs := []) rfl (by kernel_rfl) allP0 ?_
              obtain rfl := Option.some.inj h
              refine WO_fin [1, 7, 8, 9, 12, 13, 23, 24, 25] [22, 84, 88, 998, 997] (fr' := [(1, aD (.slice (.pair tI (.pair tI tI))) a1), (7, .one (.ptr 22 0)), (8, .one (.slc 84)), (9, .one (.slc 88)), (12, aI r498.1), (13, aI r512.1), (23, aD (.slice (.pair tI (.pair tI tI))) a1), (24, aI (List.length a1 : Int)), (25, aI i276)]) (L' := [(22, .cells [.slc 998, .slc 997]), (84, .seq tI x277.1), (88, .seq tI x277.2.1), (998, .seq (.pair tI (.pair tI tI)) r512.2.1), (997, .map (.pair tI (.pair tI tI)) tI r512.2.2)]) (by kernel_rfl) (by kernel_rfl) ?_
              refine ⟨rfl, ?_⟩
              refine blockQ_norm ?_
              exact exQ_mk (by kernel_rfl) (by kernel_rfl)
        · intro e fr L hJ
          obtain ⟨rfl, rfl, rfl⟩ := hJ
          refine LT_keep [1, 7, 8, 9, 12, 13, 23, 24, 25] [22, 84, 88, 997, 998] (fr' := [(1, aD (.slice (.pair tI (.pair tI tI))) a1), (7, .one (.ptr 22 0)), (8, .one (.slc 84)), (9, .one (.slc 88)), (12, aI v514.1), (13, aI v514.2.1), (23, aD (.slice (.pair tI (.pair tI tI))) a1), (24, aI (List.length a1 : Int)), (25, aI i276)]) (L' := [(22, .cells [.slc 998, .slc 997]), (84, .seq tI x277.1), (88, .seq tI x277.2.1), (997, .map (.pair tI (.pair tI tI)) tI v514.2.2.2), (998, .seq (.pair tI (.pair tI tI)) v514.2.2.1)]) (by kernel_rfl) ?_
          refine seqQ_norm ?_
          obtain ⟨_, h516, h⟩ := bind_of h
          replace h516 := ck_some h516
          obtain ⟨_, h517, h⟩ := bind_of h
          replace h517 := ck_some h517
          refine W_run 10 [] [1, 7, 8, 9, 23, 24, 25] [22, 84, 88, 997, 998] (fr' := [(1, aD (.slice (.pair tI (.pair tI tI))) a1), (7, .one (.ptr 22 0)), (8, .one (.slc 84)), (9, .one (.slc 88)), (23, aD (.slice (.pair tI (.pair tI tI))) a1), (24, aI (List.length a1 : Int)), (25, aI i276)]) (L' := [(22, .cells [.slc 998, .slc 997]), (84, .seq tI (x277.1 ++ [v514.1])), (88, .seq tI (x277.2.1 ++ [v514.2.1])), (997, .map (.pair tI (.pair tI tI)) tI v514.2.2.2), (998, .seq (.pair tI (.pair tI tI)) v514.2.2.1)]) (obs := [SmallLen (List.length x277.1 + List.length [v514.1]), SmallLen (List.length x277.2.1 + List.length [v514.2.1])]) (by kernel_rfl) (by kernel_rfl) (by kernel_rfl) (allP2 h516 (allP1 h517)) ?_
          refine blockQ_norm ?_
          refine seqQ_norm ?_
          obtain rfl := Option.some.inj h
          refine W_run 2 [] [1, 7, 8, 9, 23, 24, 25] [22, 84, 88, 998, 997] (fr' := [(1, aD (.slice (.pair tI (.pair tI tI))) a1), (7, .one (.ptr 22 0)), (8, .one (.slc 84)), (9, .one (.slc 88)), (23, aD (.slice (.pair tI (.pair tI tI))) a1), (24, aI (List.length a1 : Int)), (25, aI (w64 (i276 + (1 : Int))))]) (L' := [(22, .cells [.slc 998, .slc 997]), (84, .seq tI (x277.1 ++ [v514.1])), (88, .seq tI (x277.2.1 ++ [v514.2.1])), (998, .seq (.pair tI (.pair tI tI)) v514.2.2.1), (997, .map (.pair tI (.pair tI tI)) tI v514.2.2.2)]) (obs := []) (by kernel_rfl) (by kernel_rfl) (by kernel_rfl) allP0 ?_
          exact round_next' (by kernel_rfl) (by kernel_rfl)
      · obtain rfl := stepL_false h281 h
        refine W_exit (id := 0) [1, 7, 8] [22, 84, 998, 997] (fr' := [(1, aD (.slice (.pair tI (.pair tI tI))) a1), (7, .one (.ptr 22 0)), (8, .one (.slc 84))]) (L' := [(22, .cells [.slc 998, .slc 997]), (84, .seq tI x277.1), (998, .seq (.pair tI (.pair tI tI)) x277.2.2.1), (997, .map (.pair tI (.pair tI tI)) tI x277.2.2.2)]) (by kernel_rfl) (by kernel_rfl) ?_
        refine seqQ_exit ?_
        refine round_exit ?_
        exact exQ_mk (by kernel_rfl) (by kernel_rfl)
    · intro e fr L hJ
      obtain ⟨rfl, rfl, rfl⟩ := hJ
      refine LT_keep [1, 7, 8] [22, 84, 997, 998] (fr' := [(1, aD (.slice (.pair tI (.pair tI tI))) a1), (7, .one (.ptr 22 0)), (8, .one (.slc 84))]) (L' := [(22, .cells [.slc 998, .slc 997]), (84, .seq tI v519.1), (997, .map (.pair tI (.pair tI tI)) tI v519.2.2), (998, .seq (.pair tI (.pair tI tI)) v519.2.1)]) (by kernel_rfl) ?_
      refine blockQ_hit ?_
      refine seqQ_norm ?_
      refine W_seq (by kernel_rfl) ?_
      obtain ⟨v524, h525, h⟩ := bind_of h
      refine W_run 7 [(11, .val (.dat tI v524))] [7, 14] [22, 997, 998] (fr' := [(7, .one (.ptr 22 0)), (14, aI v524)]) (L' := [(22, .cells [.slc 998, .slc 997]), (997, .map (.pair tI (.pair tI tI)) tI v519.2.2), (998, .seq (.pair tI (.pair tI tI)) v519.2.1)]) (obs := [InR (w64 ((List.length a1 : Int) - (1 : Int))) (List.length v519.1), Idx v519.1 (w64 ((List.length a1 : Int) - (1 : Int))) v524]) (by kernel_rfl) (by kernel_rfl) (by kernel_rfl) (allP2 (InR.of h525) (allP1 (Idx.of h525))) ?_
      refine seqQ_norm ?_
      refine W_seq (by kernel_rfl) ?_
      refine W_region (by kernel_rfl) ?_
      refine WO_run (j := 6) (k := 6) (orcs := []) (kF := [99, 101]) (kL := [22, 997, 998]) (fr' := [(99, .one (.slc 998)), (101, aI (w64 (v524 + (1 : Int))))]) (L' := [(22, .cells [.slc 998, .slc 997]), (997, .map (.pair tI (.pair tI tI)) tI v519.2.2), (998, .seq (.pair tI (.pair tI tI)) v519.2.1)]) (obs := []) rfl (by kernel_rfl) allP0 ?_
      refine WO_frz 998 (by kernel_rfl) ?_
      obtain ⟨_, h526, h⟩ := bind_of h
      replace h526 := ck_some h526
      refine WO_run (j := 7) (k := 1) (orcs := []) (kF := [102]) (kL := [22, 997]) (fr' := [(102, aD (.slice (.pair tI (.pair tI tI))) (sub v519.2.1 (0 : Int) (w64 (v524 + (1 : Int)))))]) (L' := [(22, .cells [.dat (.slice (.pair tI (.pair tI tI))) v519.2.1, .slc 997]), (997, .map (.pair tI (.pair tI tI)) tI v519.2.2)]) (obs := [Cuts (0 : Int) (w64 (v524 + (1 : Int))) (List.length v519.2.1)]) rfl (by kernel_rfl) (allP1 h526) ?_
      obtain ⟨r527, h528, h⟩ := bind_of h
      refine WO_call1 (us := [none]) (d := 103) (t := 103) (p := True) (j := 8) rfl ⟨by kernel_rfl, by kernel_rfl, by kernel_rfl⟩ trivial (slices_Clone_LapiGateapiGate_ok h528) (by kernel_rfl) ?_
      refine WO_run (j := 10) (k := 2) (orcs := []) (kF := [4, 5]) (kL := [22, 103, 997]) (fr' := [(4, .one (.slc 103)), (5, aI (0 : Int))]) (L' := [(22, .cells [.dat (.slice (.pair tI (.pair tI tI))) v519.2.1, .slc 997]), (103, .seq (.pair tI (.pair tI tI)) r527), (997, .map (.pair tI (.pair tI tI)) tI v519.2.2)]) (obs := []) rfl (by kernel_rfl) allP0 ?_
      refine WO_fin [4, 5] [103] (fr' := [(4, .one (.slc 103)), (5, aI (0 : Int))]) (L' := [(103, .seq (.pair tI (.pair tI tI)) r527)]) (by kernel_rfl) (by kernel_rfl) ?_
      refine seqQ_norm ?_
      obtain rfl := Option.some.inj h
      refine W_frz 103 (by kernel_rfl) ?_
      refine W_ret [4, 5] [] (fr' := [(4, aD (.slice (.pair tI (.pair tI tI))) r527), (5, aI (0 : Int))]) (L' := []) (by kernel_rfl) (by kernel_rfl) ?_
      exact retQ_mk (by kernel_rfl) (by kernel_rfl) (by kernel_rfl)

def ref_Within (a0 : Int) (a1 : Int) (a2 : Int) : Option Bool :=
some ((decide (a0 ≤ a1)) && (decide (a1 ≤ a2)))
theorem ref_Within_ok {a0 : Int} {a1 : Int} {a2 : Int} {r : Bool} (h : ref_Within a0 a1 a2 = some r) : FnC Try.prog 10 [aI a0, aI a1, aI a2] [] (aB r) [] := by
  refine fnC_of_W (B := bodyOf Try.f10) (n := 15) Try.func10 (by kernel_rfl) (by kernel_rfl) (by kernel_rfl) (by kernel_rfl) (by kernel_rfl) ?_
  intro K
  refine W_seq (by kernel_rfl) ?_
  refine W_run 1 [] [0, 1, 2] [] (fr' := [(0, aI a0), (1, aI a1), (2, aI a2)]) (L' := []) (obs := []) (by kernel_rfl) (by kernel_rfl) (by kernel_rfl) allP0 ?_
  refine seqQ_norm ?_
  refine W_seq (by kernel_rfl) ?_
  refine W_run 9 [] [6] [] (fr' := [(6, aB ((decide (a0 ≤ a1)) && (decide (a1 ≤ a2))))]) (L' := []) (obs := []) (by kernel_rfl) (by kernel_rfl) (by kernel_rfl) allP0 ?_
  refine seqQ_norm ?_
  obtain rfl := Option.some.inj h
  refine W_ret [6] [] (fr' := [(6, aB ((decide (a0 ≤ a1)) && (decide (a1 ≤ a2))))]) (L' := []) (by kernel_rfl) (by kernel_rfl) ?_
  exact retQ_mk (by kernel_rfl) (by kernel_rfl) (by kernel_rfl)

def ref_Inside_b1 (a0 : Int) (i11 : Int) (v14 : Int) (x12 : Unit) : Option (Flow Unit (Esc Bool Unit)) :=
bif (decide (v14 < (0 : Int))) || (decide (v14 ≥ a0)) then
(some (.done (.ret false)))
else
(some (.next ()))
@[reducible] def ref_Inside_s2 (a0 : Int) (a1 : (List Int)) (v : Int × Unit) : Fr × LL := ([(0, aI a0), (7, aD (.slice tI) a1), (8, aI (List.length a1 : Int)), (9, aI v.1)], [])
@[reducible] def ref_Inside_s3 (v : Bool) : Fr × LL := ([(4, aB v)], [])
@[reducible] def ref_Inside_s4 (v : Unit) : Fr × LL := ([], [])
def ref_Inside (a0 : Int) (a1 : (List Int)) : Option Bool :=
(forL (ref_Inside_b1 a0) (fun x12 => (.brk ())) a1 0 ()).bind fun v19 =>
match v19 with
| .ret v24 =>
(some v24)
| .brk v25 =>
(some true)
theorem ref_Inside_ok {a0 : Int} {a1 : (List Int)} {r : Bool} (h : ref_Inside a0 a1 = some r) : FnC Try.prog 28 [aI a0, aD (.slice tI) a1] [] (aB r) [] := by
  refine fnC_of_W (B := bodyOf Try.f28) (n := 21) Try.func28 (by kernel_rfl) (by kernel_rfl) (by kernel_rfl) (by kernel_rfl) (by kernel_rfl) ?_
  intro K
  refine W_seq (by kernel_rfl) ?_
  refine W_run 1 [] [0, 1] [] (fr' := [(0, aI a0), (1, aD (.slice tI) a1)]) (L' := []) (obs := []) (by kernel_rfl) (by kernel_rfl) (by kernel_rfl) allP0 ?_
  refine seqQ_norm ?_
  refine W_seq (by kernel_rfl) ?_
  refine W_seq (by kernel_rfl) ?_
  refine W_run 3 [] [0, 7, 8, 9] [] (fr' := [(0, aI a0), (7, aD (.slice tI) a1), (8, aI (List.length a1 : Int)), (9, aI (0 : Int))]) (L' := []) (obs := []) (by kernel_rfl) (by kernel_rfl) (by kernel_rfl) allP0 ?_
  refine seqQ_norm ?_
  refine W_block (id := 0) (by kernel_rfl) ?_
  obtain ⟨v19, h20, h⟩ := bind_of h
  refine W_len (t := 7) (u := tI) (xs := a1) (by kernel_rfl) (fun h23 => ?_)
  obtain ⟨h21, h22⟩ := forL_iter h23 h20
  refine W_weaken [0, 7, 8, 9] [] (fr' := ((ref_Inside_s2 a0 a1) ((0 : Int), ())).1) (L' := ((ref_Inside_s2 a0 a1) ((0 : Int), ())).2) (by kernel_rfl) ?_
  refine W_cutK (W_loop (S := (ref_Inside_s2 a0 a1)) (J := (escQ (exQ .ret ref_Inside_s3) (exQ (.exit 0) ref_Inside_s4))) (by kernel_rfl) ?_ h21 _ v19 h22) ?_
  · rintro ⟨i11, x12⟩ s h
    refine W_seq (by kernel_rfl) ?_
    refine W_run 1 [] [0, 7, 8, 9, 10] [] (fr' := [(0, aI a0), (7, aD (.slice tI) a1), (8, aI (List.length a1 : Int)), (9, aI i11), (10, aB (decide (i11 < (List.length a1 : Int))))]) (L' := []) (obs := []) (by kernel_rfl) (by kernel_rfl) (by kernel_rfl) allP0 ?_
    refine seqQ_norm ?_
    refine W_seq (by kernel_rfl) ?_
    refine W_cond (o := .tmp 10) (b := decide (i11 < (List.length a1 : Int))) (by kernel_rfl) (by kernel_rfl) (fun h16 => ?_) (fun h16 => ?_)
    · replace h := stepL_true h16 h
      obtain ⟨v14, _, h15, h, rfl⟩ := h
      refine W_skip [0, 7, 8, 9] [] (fr' := [(0, aI a0), (7, aD (.slice tI) a1), (8, aI (List.length a1 : Int)), (9, aI i11)]) (L' := []) (by kernel_rfl) (by kernel_rfl) ?_
      refine seqQ_norm ?_
      refine W_seq (by kernel_rfl) ?_
      refine W_block (id := 1) (by kernel_rfl) ?_
      refine W_seq (by kernel_rfl) ?_
      refine W_run 3 [(1, .val (.dat tI v14))] [0, 6, 7, 8, 9] [] (fr' := [(0, aI a0), (6, aI v14), (7, aD (.slice tI) a1), (8, aI (List.length a1 : Int)), (9, aI i11)]) (L' := []) (obs := [Idx a1 i11 v14]) (by kernel_rfl) (by kernel_rfl) (by kernel_rfl) (allP1 (Idx.of h15)) ?_
      refine seqQ_norm ?_
      refine W_seq (by kernel_rfl) ?_
      refine W_run 7 [] [0, 7, 8, 9, 19] [] (fr' := [(0, aI a0), (7, aD (.slice tI) a1), (8, aI (List.length a1 : Int)), (9, aI i11), (19, aB ((decide (v14 < (0 : Int))) || (decide (v14 ≥ a0))))]) (L' := []) (obs := []) (by kernel_rfl) (by kernel_rfl) (by kernel_rfl) allP0 ?_
      refine seqQ_norm ?_
      refine W_cond (o := .tmp 19) (b := (decide (v14 < (0 : Int))) || (decide (v14 ≥ a0))) (by kernel_rfl) (by kernel_rfl) (fun h17 => ?_) (fun h17 => ?_)
      · replace h := ofT h17 h
        refine W_seq (by kernel_rfl) ?_
        refine W_run 1 [] [4] [] (fr' := [(4, aB false)]) (L' := []) (obs := []) (by kernel_rfl) (by kernel_rfl) (by kernel_rfl) allP0 ?_
        refine seqQ_norm ?_
        obtain rfl := Option.some.inj h
        refine W_ret [4] [] (fr' := [(4, aB false)]) (L' := []) (by kernel_rfl) (by kernel_rfl) ?_
        refine blockQ_ret ?_
        refine seqQ_ret ?_
        refine round_ret ?_
        refine escQ_ret ?_
        exact exQ_mk (by kernel_rfl) (by kernel_rfl)
      · replace h := ofF h17 h
        refine W_skip [0, 7, 8, 9] [] (fr' := [(0, aI a0), (7, aD (.slice tI) a1), (8, aI (List.length a1 : Int)), (9, aI i11)]) (L' := []) (by kernel_rfl) (by kernel_rfl) ?_
        refine blockQ_norm ?_
        refine seqQ_norm ?_
        obtain rfl := Option.some.inj h
        refine W_run 2 [] [0, 7, 8, 9] [] (fr' := [(0, aI a0), (7, aD (.slice tI) a1), (8, aI (List.length a1 : Int)), (9, aI (w64 (i11 + (1 : Int))))]) (L' := []) (obs := []) (by kernel_rfl) (by kernel_rfl) (by kernel_rfl) allP0 ?_
        exact round_next' (by kernel_rfl) (by kernel_rfl)
    · obtain rfl := stepL_false h16 h
      refine W_exit (id := 0) [] [] (fr' := []) (L' := []) (by kernel_rfl) (by kernel_rfl) ?_
      refine seqQ_exit ?_
      refine round_exit ?_
      refine escQ_brk ?_
      exact exQ_mk (by kernel_rfl) (by kernel_rfl)
  · intro e fr L hJ
    rcases v19 with v24 | v25
    · obtain ⟨rfl, rfl, rfl⟩ := hJ
      obtain rfl := Option.some.inj h
      refine LT_keep [4] [] (fr' := [(4, aB v24)]) (L' := []) (by kernel_rfl) ?_
      refine blockQ_ret ?_
      refine seqQ_ret ?_
      exact retQ_mk (by kernel_rfl) (by kernel_rfl) (by kernel_rfl)
    · obtain ⟨rfl, rfl, rfl⟩ := hJ
      refine LT_keep [] [] (fr' := []) (L' := []) (by kernel_rfl) ?_
      refine blockQ_hit ?_
      refine seqQ_norm ?_
      refine W_seq (by kernel_rfl) ?_
      refine W_run 1 [] [4] [] (fr' := [(4, aB true)]) (L' := []) (obs := []) (by kernel_rfl) (by kernel_rfl) (by kernel_rfl) allP0 ?_
      refine seqQ_norm ?_
      obtain rfl := Option.some.inj h
      refine W_ret [4] [] (fr' := [(4, aB true)]) (L' := []) (by kernel_rfl) (by kernel_rfl) ?_
      exact retQ_mk (by kernel_rfl) (by kernel_rfl) (by kernel_rfl)

def ref_GatesCheck_g7 (i105 : Int) (v108 : (Int × (Int × Int))) : Option Bool :=
bif v108.1 != (1 : Int) then
((ref_Inside i105 [v108.2.1]).bind fun r147 =>
bif !r147 then
(some true)
else
(bif decide (v108.1 ≥ (3 : Int)) then
((ref_Inside i105 [v108.2.2]).bind fun r151 =>
some (!r151))
else
(some false)))
else
(bif decide (v108.1 ≥ (3 : Int)) then
((ref_Inside i105 [v108.2.2]).bind fun r154 =>
some (!r154))
else
(some false))
@[reducible] def ref_GatesCheck_s8 (a0 : Int) (a1 : (List (Int × (Int × Int)))) (i105 : Int) (v : Bool) : Fr × LL := ([(0, aI a0), (7, aD (.slice (.pair tI (.pair tI tI))) a1), (8, aI (List.length a1 : Int)), (9, aI i105), (52, aB v)], [])
@[reducible] def ref_GatesCheck_s9 (a0 : Int) (a1 : (List (Int × (Int × Int)))) (i105 : Int) (v108 : (Int × (Int × Int))) (v : Bool) : Fr × LL := ([(0, aI a0), (5, aI i105), (6, .one (.ptr 6 0)), (7, aD (.slice (.pair tI (.pair tI tI))) a1), (8, aI (List.length a1 : Int)), (9, aI i105), (28, aB v)], [(6, .one (.pair tI (.pair tI tI)) v108)])
def ref_GatesCheck_b10 (a0 : Int) (i105 : Int) (v108 : (Int × (Int × Int))) (x106 : Unit) : Option (Flow Unit (Esc Int Unit)) :=
(ref_Within (1 : Int) v108.1 (4 : Int)).bind fun r111 =>
bif !r111 then
(some (.done (.ret (6 : Int))))
else
((bif v108.1 == (1 : Int) then
((ref_Inside a0 [v108.2.1]).bind fun r121 =>
some (!r121))
else
(some false)).bind fun v123 =>
bif v123 then
(some (.done (.ret (4 : Int))))
else
((ref_GatesCheck_g7 i105 v108).bind fun v156 =>
bif v156 then
(some (.done (.ret (2 : Int))))
else
(some (.next ()))))
@[reducible] def ref_GatesCheck_s11 (a0 : Int) (a1 : (List (Int × (Int × Int)))) (v : Int × Unit) : Fr × LL := ([(0, aI a0), (7, aD (.slice (.pair tI (.pair tI tI))) a1), (8, aI (List.length a1 : Int)), (9, aI v.1)], [])
@[reducible] def ref_GatesCheck_s12 (v : Int) : Fr × LL := ([(4, aI v)], [])
@[reducible] def ref_GatesCheck_s13 (v : Unit) : Fr × LL := ([], [])
def ref_GatesCheck (a0 : Int) (a1 : (List (Int × (Int × Int)))) : Option Int :=
(forL (ref_GatesCheck_b10 a0) (fun x106 => (.brk ())) a1 0 ()).bind fun v160 =>
match v160 with
| .ret v165 =>
(some v165)
| .brk v166 =>
(some (0 : Int))
theorem ref_GatesCheck_ok {a0 : Int} {a1 : (List (Int × (Int × Int)))} {r : Int} (h : ref_GatesCheck a0 a1 = some r) : FnC Try.prog 16 [aI a0, aD (.slice (.pair tI (.pair tI tI))) a1] [] (aI r) [] := by
  refine fnC_of_W (B := bodyOf Try.f16) (n := 54) Try.func16 (by kernel_rfl) (by kernel_rfl) (by kernel_rfl) (by kernel_rfl) (by kernel_rfl) ?_
  intro K
  refine W_seq (by kernel_rfl) ?_
  refine W_run 1 [] [0, 1] [] (fr' := [(0, aI a0), (1, aD (.slice (.pair tI (.pair tI tI))) a1)]) (L' := []) (obs := []) (by kernel_rfl) (by kernel_rfl) (by kernel_rfl) allP0 ?_
  refine seqQ_norm ?_
  refine W_seq (by kernel_rfl) ?_
  refine W_seq (by kernel_rfl) ?_
  refine W_run 3 [] [0, 7, 8, 9] [] (fr' := [(0, aI a0), (7, aD (.slice (.pair tI (.pair tI tI))) a1), (8, aI (List.length a1 : Int)), (9, aI (0 : Int))]) (L' := []) (obs := []) (by kernel_rfl) (by kernel_rfl) (by kernel_rfl) allP0 ?_
  refine seqQ_norm ?_
  refine W_block (id := 0) (by kernel_rfl) ?_
  obtain ⟨v160, h161, h⟩ := bind_of h
  refine W_len (t := 7) (u := (.pair tI (.pair tI tI))) (xs := a1) (by kernel_rfl) (fun h164 => ?_)
  obtain ⟨h162, h163⟩ := forL_iter h164 h161
  refine W_weaken [0, 7, 8, 9] [] (fr' := ((ref_GatesCheck_s11 a0 a1) ((0 : Int), ())).1) (L' := ((ref_GatesCheck_s11 a0 a1) ((0 : Int), ())).2) (by kernel_rfl) ?_
  refine W_cutK (W_loop (S := (ref_GatesCheck_s11 a0 a1)) (J := (escQ (exQ .ret ref_GatesCheck_s12) (exQ (.exit 0) ref_GatesCheck_s13))) (by kernel_rfl) ?_ h162 _ v160 h163) ?_
  · rintro ⟨i105, x106⟩ s h
    refine W_seq (by kernel_rfl) ?_
    refine W_run 1 [] [0, 7, 8, 9, 10] [] (fr' := [(0, aI a0), (7, aD (.slice (.pair tI (.pair tI tI))) a1), (8, aI (List.length a1 : Int)), (9, aI i105), (10, aB (decide (i105 < (List.length a1 : Int))))]) (L' := []) (obs := []) (by kernel_rfl) (by kernel_rfl) (by kernel_rfl) allP0 ?_
    refine seqQ_norm ?_
    refine W_seq (by kernel_rfl) ?_
    refine W_cond (o := .tmp 10) (b := decide (i105 < (List.length a1 : Int))) (by kernel_rfl) (by kernel_rfl) (fun h110 => ?_) (fun h110 => ?_)
    · replace h := stepL_true h110 h
      obtain ⟨v108, _, h109, h, rfl⟩ := h
      refine W_skip [0, 7, 8, 9] [] (fr' := [(0, aI a0), (7, aD (.slice (.pair tI (.pair tI tI))) a1), (8, aI (List.length a1 : Int)), (9, aI i105)]) (L' := []) (by kernel_rfl) (by kernel_rfl) ?_
      refine seqQ_norm ?_
      refine W_seq (by kernel_rfl) ?_
      refine W_block (id := 1) (by kernel_rfl) ?_
      refine W_seq (by kernel_rfl) ?_
      refine W_run 6 [(3, .val (.dat (.pair tI (.pair tI tI)) v108)), (7, .typed)] [0, 5, 6, 7, 8, 9] [6] (fr' := [(0, aI a0), (5, aI i105), (6, .one (.ptr 6 0)), (7, aD (.slice (.pair tI (.pair tI tI))) a1), (8, aI (List.length a1 : Int)), (9, aI i105)]) (L' := [(6, .one (.pair tI (.pair tI tI)) v108)]) (obs := [Idx a1 i105 v108, True]) (by kernel_rfl) (by kernel_rfl) (by kernel_rfl) (allP2 (Idx.of h109) (allP1 trivial)) ?_
      refine seqQ_norm ?_
      refine W_seq (by kernel_rfl) ?_
      refine W_seq (by kernel_rfl) ?_
      refine W_region (by kernel_rfl) ?_
      refine WO_run (j := 2) (k := 2) (orcs := []) (kF := [0, 5, 6, 7, 8, 9, 15]) (kL := [6]) (fr' := [(0, aI a0), (5, aI i105), (6, .one (.ptr 6 0)), (7, aD (.slice (.pair tI (.pair tI tI))) a1), (8, aI (List.length a1 : Int)), (9, aI i105), (15, aI v108.1)]) (L' := [(6, .one (.pair tI (.pair tI tI)) v108)]) (obs := []) rfl (by kernel_rfl) allP0 ?_
      obtain ⟨r111, h112, h⟩ := bind_of h
      refine WO_call0 (us := [none, none, none]) (d := 16) (p := True) (j := 3) rfl ⟨by kernel_rfl, by kernel_rfl, by kernel_rfl⟩ trivial (ref_Within_ok h112) (by kernel_rfl) ?_
      refine WO_run (j := 4) (k := 1) (orcs := []) (kF := [0, 5, 6, 7, 8, 9, 17]) (kL := [6]) (fr' := [(0, aI a0), (5, aI i105), (6, .one (.ptr 6 0)), (7, aD (.slice (.pair tI (.pair tI tI))) a1), (8, aI (List.length a1 : Int)), (9, aI i105), (17, aB (!r111))]) (L' := [(6, .one (.pair tI (.pair tI tI)) v108)]) (obs := []) rfl (by kernel_rfl) allP0 ?_
      refine WO_fin [0, 5, 6, 7, 8, 9, 17] [6] (fr' := [(0, aI a0), (5, aI i105), (6, .one (.ptr 6 0)), (7, aD (.slice (.pair tI (.pair tI tI))) a1), (8, aI (List.length a1 : Int)), (9, aI i105), (17, aB (!r111))]) (L' := [(6, .one (.pair tI (.pair tI tI)) v108)]) (by kernel_rfl) (by kernel_rfl) ?_
      refine seqQ_norm ?_
      refine W_cond (o := .tmp 17) (b := !r111) (by kernel_rfl) (by kernel_rfl) (fun h113 => ?_) (fun h113 => ?_)
      · replace h := ofT h113 h
        refine W_seq (by kernel_rfl) ?_
        refine W_run 1 [] [4] [] (fr' := [(4, aI (6 : Int))]) (L' := []) (obs := []) (by kernel_rfl) (by kernel_rfl) (by kernel_rfl) allP0 ?_
        refine seqQ_norm ?_
        obtain rfl := Option.some.inj h
        refine W_ret [4] [] (fr' := [(4, aI (6 : Int))]) (L' := []) (by kernel_rfl) (by kernel_rfl) ?_
        refine seqQ_ret ?_
        refine blockQ_ret ?_
        refine seqQ_ret ?_
        refine round_ret ?_
        refine escQ_ret ?_
        exact exQ_mk (by kernel_rfl) (by kernel_rfl)
      · replace h := ofF h113 h
        refine W_skip [0, 5, 6, 7, 8, 9] [6] (fr' := [(0, aI a0), (5, aI i105), (6, .one (.ptr 6 0)), (7, aD (.slice (.pair tI (.pair tI tI))) a1), (8, aI (List.length a1 : Int)), (9, aI i105)]) (L' := [(6, .one (.pair tI (.pair tI tI)) v108)]) (by kernel_rfl) (by kernel_rfl) ?_
        refine seqQ_norm ?_
        refine W_seq (by kernel_rfl) ?_
        refine W_seq (by kernel_rfl) ?_
        obtain ⟨v123, h124, h⟩ := bind_of h
        refine W_cutK (Q' := (exQ .normal (ref_GatesCheck_s9 a0 a1 i105 v108)) v123) ?_ ?_
        · replace h := h124
          refine W_region (by kernel_rfl) ?_
          refine WO_run (j := 4) (k := 4) (orcs := []) (kF := [0, 5, 6, 7, 8, 9, 21]) (kL := [6]) (fr' := [(0, aI a0), (5, aI i105), (6, .one (.ptr 6 0)), (7, aD (.slice (.pair tI (.pair tI tI))) a1), (8, aI (List.length a1 : Int)), (9, aI i105), (21, aB (v108.1 == (1 : Int)))]) (L' := [(6, .one (.pair tI (.pair tI tI)) v108)]) (obs := []) rfl (by kernel_rfl) allP0 ?_
          rcases Bool.eq_false_or_eq_true (v108.1 == (1 : Int)) with h120 | h120
          · replace h := ofT h120 h
            refine WO_run (j := 8) (k := 4) (orcs := [(8, .known true), (10, .known true), (12, .known true), (14, .known true)]) (kF := [0, 5, 6, 7, 8, 9, 21, 22, 25]) (kL := [6, 25]) (fr' := [(0, aI a0), (5, aI i105), (6, .one (.ptr 6 0)), (7, aD (.slice (.pair tI (.pair tI tI))) a1), (8, aI (List.length a1 : Int)), (9, aI i105), (21, aB (v108.1 == (1 : Int))), (22, aI a0), (25, .one (.slc 25))]) (L' := [(6, .one (.pair tI (.pair tI tI)) v108), (25, .seq tI [v108.2.1])]) (obs := [((v108.1 == (1 : Int)) = true), ((v108.1 == (1 : Int)) = true), ((v108.1 == (1 : Int)) = true), ((v108.1 == (1 : Int)) = true)]) rfl (by kernel_rfl) (allP2 h120 (allP2 h120 (allP2 h120 (allP1 h120)))) ?_
            obtain ⟨r121, h122, h⟩ := bind_of h
            refine WO_frz 25 (by kernel_rfl) ?_
            refine WO_call0 (us := [none, none]) (d := 26) (p := ((v108.1 == (1 : Int)) = true)) (j := 9) rfl ⟨by kernel_rfl, by kernel_rfl, by kernel_rfl⟩ h120 (ref_Inside_ok h122) (by kernel_rfl) ?_
            refine WO_run (j := 11) (k := 2) (orcs := [(18, .known true), (21, .val (.dat .bool true))]) (kF := [0, 5, 6, 7, 8, 9, 28]) (kL := [6]) (fr' := [(0, aI a0), (5, aI i105), (6, .one (.ptr 6 0)), (7, aD (.slice (.pair tI (.pair tI tI))) a1), (8, aI (List.length a1 : Int)), (9, aI i105), (28, aB (!r121))]) (L' := [(6, .one (.pair tI (.pair tI tI)) v108)]) (obs := [((v108.1 == (1 : Int)) = true), ((v108.1 == (1 : Int)) = true)]) rfl (by kernel_rfl) (allP2 h120 (allP1 h120)) ?_
            obtain rfl := Option.some.inj h
            refine WO_fin [0, 5, 6, 7, 8, 9, 28] [6] (fr' := [(0, aI a0), (5, aI i105), (6, .one (.ptr 6 0)), (7, aD (.slice (.pair tI (.pair tI tI))) a1), (8, aI (List.length a1 : Int)), (9, aI i105), (28, aB (!r121))]) (L' := [(6, .one (.pair tI (.pair tI tI)) v108)]) (by kernel_rfl) (by kernel_rfl) ?_
            exact exQ_mk (by kernel_rfl) (by kernel_rfl)
          · replace h := ofF h120 h
            refine WO_run (j := 11) (k := 7) (orcs := [(8, .known false), (10, .known false), (12, .known false), (14, .known false), (16, .known false), (18, .known false), (21, .val (.dat .bool false))]) (kF := [0, 5, 6, 7, 8, 9, 28]) (kL := [6]) (fr' := [(0, aI a0), (5, aI i105), (6, .one (.ptr 6 0)), (7, aD (.slice (.pair tI (.pair tI tI))) a1), (8, aI (List.length a1 : Int)), (9, aI i105), (28, aB false)]) (L' := [(6, .one (.pair tI (.pair tI tI)) v108)]) (obs := [((v108.1 == (1 : Int)) = false), ((v108.1 == (1 : Int)) = false), ((v108.1 == (1 : Int)) = false), ((v108.1 == (1 : Int)) = false), ((v108.1 == (1 : Int)) = false), ((v108.1 == (1 : Int)) = false), ((v108.1 == (1 : Int)) = false)]) rfl (by kernel_rfl) (allP2 h120 (allP2 h120 (allP2 h120 (allP2 h120 (allP2 h120 (allP2 h120 (allP1 h120))))))) ?_
            obtain rfl := Option.some.inj h
            refine WO_fin [0, 5, 6, 7, 8, 9, 28] [6] (fr' := [(0, aI a0), (5, aI i105), (6, .one (.ptr 6 0)), (7, aD (.slice (.pair tI (.pair tI tI))) a1), (8, aI (List.length a1 : Int)), (9, aI i105), (28, aB false)]) (L' := [(6, .one (.pair tI (.pair tI tI)) v108)]) (by kernel_rfl) (by kernel_rfl) ?_
            exact exQ_mk (by kernel_rfl) (by kernel_rfl)
        · intro e fr L hJ
          obtain ⟨rfl, rfl, rfl⟩ := hJ
          refine LT_keep [0, 5, 6, 7, 8, 9, 28] [6] (fr' := [(0, aI a0), (5, aI i105), (6, .one (.ptr 6 0)), (7, aD (.slice (.pair tI (.pair tI tI))) a1), (8, aI (List.length a1 : Int)), (9, aI i105), (28, aB v123)]) (L' := [(6, .one (.pair tI (.pair tI tI)) v108)]) (by kernel_rfl) ?_
          refine seqQ_norm ?_
          refine W_cond (o := .tmp 28) (b := v123) (by kernel_rfl) (by kernel_rfl) (fun h125 => ?_) (fun h125 => ?_)
          · replace h := ofT h125 h
            refine W_seq (by kernel_rfl) ?_
            refine W_run 1 [] [4] [] (fr' := [(4, aI (4 : Int))]) (L' := []) (obs := []) (by kernel_rfl) (by kernel_rfl) (by kernel_rfl) allP0 ?_
            refine seqQ_norm ?_
            obtain rfl := Option.some.inj h
            refine W_ret [4] [] (fr' := [(4, aI (4 : Int))]) (L' := []) (by kernel_rfl) (by kernel_rfl) ?_
            refine seqQ_ret ?_
            refine blockQ_ret ?_
            refine seqQ_ret ?_
            refine round_ret ?_
            refine escQ_ret ?_
            exact exQ_mk (by kernel_rfl) (by kernel_rfl)
          · replace h := ofF h125 h
            refine W_skip [0, 5, 6, 7, 8, 9] [6] (fr' := [(0, aI a0), (5, aI i105), (6, .one (.ptr 6 0)), (7, aD (.slice (.pair tI (.pair tI tI))) a1), (8, aI (List.length a1 : Int)), (9, aI i105)]) (L' := [(6, .one (.pair tI (.pair tI tI)) v108)]) (by kernel_rfl) (by kernel_rfl) ?_
            refine seqQ_norm ?_
            refine W_seq (by kernel_rfl) ?_
            obtain ⟨v156, h157, h⟩ := bind_of h
            refine W_cutK (Q' := (exQ .normal (ref_GatesCheck_s8 a0 a1 i105)) v156) ?_ ?_
            · replace h := h157
              refine W_region (by kernel_rfl) ?_
              refine WO_run (j := 4) (k := 4) (orcs := []) (kF := [0, 5, 6, 7, 8, 9, 32]) (kL := [6]) (fr' := [(0, aI a0), (5, aI i105), (6, .one (.ptr 6 0)), (7, aD (.slice (.pair tI (.pair tI tI))) a1), (8, aI (List.length a1 : Int)), (9, aI i105), (32, aB (v108.1 != (1 : Int)))]) (L' := [(6, .one (.pair tI (.pair tI tI)) v108)]) (obs := []) rfl (by kernel_rfl) allP0 ?_
              rcases Bool.eq_false_or_eq_true (v108.1 != (1 : Int)) with h146 | h146
              · replace h := ofT h146 h
                refine WO_run (j := 8) (k := 4) (orcs := [(8, .known true), (10, .known true), (12, .known true), (14, .known true)]) (kF := [0, 5, 6, 7, 8, 9, 32, 33, 36]) (kL := [6, 36]) (fr' := [(0, aI a0), (5, aI i105), (6, .one (.ptr 6 0)), (7, aD (.slice (.pair tI (.pair tI tI))) a1), (8, aI (List.length a1 : Int)), (9, aI i105), (32, aB (v108.1 != (1 : Int))), (33, aI i105), (36, .one (.slc 36))]) (L' := [(6, .one (.pair tI (.pair tI tI)) v108), (36, .seq tI [v108.2.1])]) (obs := [((v108.1 != (1 : Int)) = true), ((v108.1 != (1 : Int)) = true), ((v108.1 != (1 : Int)) = true), ((v108.1 != (1 : Int)) = true)]) rfl (by kernel_rfl) (allP2 h146 (allP2 h146 (allP2 h146 (allP1 h146)))) ?_
                obtain ⟨r147, h148, h⟩ := bind_of h
                refine WO_frz 36 (by kernel_rfl) ?_
                refine WO_call0 (us := [none, none]) (d := 37) (p := ((v108.1 != (1 : Int)) = true)) (j := 9) rfl ⟨by kernel_rfl, by kernel_rfl, by kernel_rfl⟩ h146 (ref_Inside_ok h148) (by kernel_rfl) ?_
                refine WO_run (j := 12) (k := 3) (orcs := [(18, .known true), (21, .val (.dat .bool true))]) (kF := [0, 5, 6, 7, 8, 9, 40]) (kL := [6]) (fr' := [(0, aI a0), (5, aI i105), (6, .one (.ptr 6 0)), (7, aD (.slice (.pair tI (.pair tI tI))) a1), (8, aI (List.length a1 : Int)), (9, aI i105), (40, aB (!r147))]) (L' := [(6, .one (.pair tI (.pair tI tI)) v108)]) (obs := [((v108.1 != (1 : Int)) = true), ((v108.1 != (1 : Int)) = true)]) rfl (by kernel_rfl) (allP2 h146 (allP1 h146)) ?_
                rcases Bool.eq_false_or_eq_true (!r147) with h149 | h149
                · replace h := ofT h149 h
                  refine WO_run (j := 24) (k := 12) (orcs := [(24, .known true), (26, .known true), (28, .known true), (30, .known true), (32, .known true), (34, .known true), (36, .known true), (38, .known true), (40, .known true), (42, .known true), (44, .known true), (47, .val (.dat .bool true))]) (kF := [0, 7, 8, 9, 52]) (kL := [6]) (fr' := [(0, aI a0), (7, aD (.slice (.pair tI (.pair tI tI))) a1), (8, aI (List.length a1 : Int)), (9, aI i105), (52, aB true)]) (L' := [(6, .one (.pair tI (.pair tI tI)) v108)]) (obs := [((!r147) = true), ((!r147) = true), ((!r147) = true), ((!r147) = true), ((!r147) = true), ((!r147) = true)]) rfl (by kernel_rfl) (allP2 h149 (allP2 h149 (allP2 h149 (allP2 h149 (allP2 h149 (allP1 h149)))))) ?_
                  obtain rfl := Option.some.inj h
                  refine WO_fin [0, 7, 8, 9, 52] [] (fr' := [(0, aI a0), (7, aD (.slice (.pair tI (.pair tI tI))) a1), (8, aI (List.length a1 : Int)), (9, aI i105), (52, aB true)]) (L' := []) (by kernel_rfl) (by kernel_rfl) ?_
                  exact exQ_mk (by kernel_rfl) (by kernel_rfl)
                · replace h := ofF h149 h
                  refine WO_run (j := 16) (k := 4) (orcs := [(24, .known false), (26, .known false), (28, .known false), (30, .known false)]) (kF := [0, 5, 6, 7, 8, 9, 40, 44]) (kL := [6]) (fr' := [(0, aI a0), (5, aI i105), (6, .one (.ptr 6 0)), (7, aD (.slice (.pair tI (.pair tI tI))) a1), (8, aI (List.length a1 : Int)), (9, aI i105), (40, aB (!r147)), (44, aB (decide (v108.1 ≥ (3 : Int))))]) (L' := [(6, .one (.pair tI (.pair tI tI)) v108)]) (obs := [((!r147) = false), ((!r147) = false), ((!r147) = false), ((!r147) = false)]) rfl (by kernel_rfl) (allP2 h149 (allP2 h149 (allP2 h149 (allP1 h149)))) ?_
                  rcases Bool.eq_false_or_eq_true (decide (v108.1 ≥ (3 : Int))) with h150 | h150
                  · replace h := ofT h150 h
                    refine WO_run (j := 20) (k := 4) (orcs := [(32, .known true), (34, .known true), (36, .known true), (38, .known true)]) (kF := [0, 7, 8, 9, 40, 44, 45, 48]) (kL := [6, 48]) (fr' := [(0, aI a0), (7, aD (.slice (.pair tI (.pair tI tI))) a1), (8, aI (List.length a1 : Int)), (9, aI i105), (40, aB (!r147)), (44, aB (decide (v108.1 ≥ (3 : Int)))), (45, aI i105), (48, .one (.slc 48))]) (L' := [(6, .one (.pair tI (.pair tI tI)) v108), (48, .seq tI [v108.2.2])]) (obs := [((decide (v108.1 ≥ (3 : Int))) = true), ((decide (v108.1 ≥ (3 : Int))) = true), ((decide (v108.1 ≥ (3 : Int))) = true), ((decide (v108.1 ≥ (3 : Int))) = true)]) rfl (by kernel_rfl) (allP2 h150 (allP2 h150 (allP2 h150 (allP1 h150)))) ?_
                    obtain ⟨r151, h152, h⟩ := bind_of h
                    refine WO_frz 48 (by kernel_rfl) ?_
                    refine WO_call0 (us := [none, none]) (d := 49) (p := ((decide (v108.1 ≥ (3 : Int))) = true)) (j := 21) rfl ⟨by kernel_rfl, by kernel_rfl, by kernel_rfl⟩ h150 (ref_Inside_ok h152) (by kernel_rfl) ?_
                    refine WO_run (j := 24) (k := 3) (orcs := [(42, .known true), (44, .known false), (45, .val (.dat .bool true)), (47, .val (.dat .bool false))]) (kF := [0, 7, 8, 9, 52]) (kL := [6]) (fr' := [(0, aI a0), (7, aD (.slice (.pair tI (.pair tI tI))) a1), (8, aI (List.length a1 : Int)), (9, aI i105), (52, aB (!r151))]) (L' := [(6, .one (.pair tI (.pair tI tI)) v108)]) (obs := [((decide (v108.1 ≥ (3 : Int))) = true), ((!r147) = false), ((decide (v108.1 ≥ (3 : Int))) = true), ((!r147) = false)]) rfl (by kernel_rfl) (allP2 h150 (allP2 h149 (allP2 h150 (allP1 h149)))) ?_
                    obtain rfl := Option.some.inj h
                    refine WO_fin [0, 7, 8, 9, 52] [] (fr' := [(0, aI a0), (7, aD (.slice (.pair tI (.pair tI tI))) a1), (8, aI (List.length a1 : Int)), (9, aI i105), (52, aB (!r151))]) (L' := []) (by kernel_rfl) (by kernel_rfl) ?_
                    exact exQ_mk (by kernel_rfl) (by kernel_rfl)
                  · replace h := ofF h150 h
                    refine WO_run (j := 24) (k := 8) (orcs := [(32, .known false), (34, .known false), (36, .known false), (38, .known false), (40, .known false), (42, .known false), (44, .known false), (45, .val (.dat .bool false)), (47, .val (.dat .bool false))]) (kF := [0, 7, 8, 9, 52]) (kL := [6]) (fr' := [(0, aI a0), (7, aD (.slice (.pair tI (.pair tI tI))) a1), (8, aI (List.length a1 : Int)), (9, aI i105), (52, aB false)]) (L' := [(6, .one (.pair tI (.pair tI tI)) v108)]) (obs := [((decide (v108.1 ≥ (3 : Int))) = false), ((decide (v108.1 ≥ (3 : Int))) = false), ((decide (v108.1 ≥ (3 : Int))) = false), ((decide (v108.1 ≥ (3 : Int))) = false), ((decide (v108.1 ≥ (3 : Int))) = false), ((decide (v108.1 ≥ (3 : Int))) = false), ((!r147) = false), ((decide (v108.1 ≥ (3 : Int))) = false), ((!r147) = false)]) rfl (by kernel_rfl) (allP2 h150 (allP2 h150 (allP2 h150 (allP2 h150 (allP2 h150 (allP2 h150 (allP2 h149 (allP2 h150 (allP1 h149))))))))) ?_
                    obtain rfl := Option.some.inj h
                    refine WO_fin [0, 7, 8, 9, 52] [] (fr' := [(0, aI a0), (7, aD (.slice (.pair tI (.pair tI tI))) a1), (8, aI (List.length a1 : Int)), (9, aI i105), (52, aB false)]) (L' := []) (by kernel_rfl) (by kernel_rfl) ?_
                    exact exQ_mk (by kernel_rfl) (by kernel_rfl)
              · replace h := ofF h146 h
                refine WO_run (j := 16) (k := 12) (orcs := [(8, .known false), (10, .known false), (12, .known false), (14, .known false), (16, .known false), (18, .known false), (21, .val (.dat .bool false)), (24, .known false), (26, .known false), (28, .known false), (30, .known false)]) (kF := [0, 5, 6, 7, 8, 9, 40, 44]) (kL := [6]) (fr' := [(0, aI a0), (5, aI i105), (6, .one (.ptr 6 0)), (7, aD (.slice (.pair tI (.pair tI tI))) a1), (8, aI (List.length a1 : Int)), (9, aI i105), (40, aB false), (44, aB (decide (v108.1 ≥ (3 : Int))))]) (L' := [(6, .one (.pair tI (.pair tI tI)) v108)]) (obs := [((v108.1 != (1 : Int)) = false), ((v108.1 != (1 : Int)) = false), ((v108.1 != (1 : Int)) = false), ((v108.1 != (1 : Int)) = false), ((v108.1 != (1 : Int)) = false), ((v108.1 != (1 : Int)) = false), ((v108.1 != (1 : Int)) = false), (false = false), (false = false), (false = false), (false = false)]) rfl (by kernel_rfl) (allP2 h146 (allP2 h146 (allP2 h146 (allP2 h146 (allP2 h146 (allP2 h146 (allP2 h146 (allP2 rfl (allP2 rfl (allP2 rfl (allP1 rfl))))))))))) ?_
                rcases Bool.eq_false_or_eq_true (decide (v108.1 ≥ (3 : Int))) with h153 | h153
                · replace h := ofT h153 h
                  refine WO_run (j := 20) (k := 4) (orcs := [(32, .known true), (34, .known true), (36, .known true), (38, .known true)]) (kF := [0, 7, 8, 9, 40, 44, 45, 48]) (kL := [6, 48]) (fr' := [(0, aI a0), (7, aD (.slice (.pair tI (.pair tI tI))) a1), (8, aI (List.length a1 : Int)), (9, aI i105), (40, aB false), (44, aB (decide (v108.1 ≥ (3 : Int)))), (45, aI i105), (48, .one (.slc 48))]) (L' := [(6, .one (.pair tI (.pair tI tI)) v108), (48, .seq tI [v108.2.2])]) (obs := [((decide (v108.1 ≥ (3 : Int))) = true), ((decide (v108.1 ≥ (3 : Int))) = true), ((decide (v108.1 ≥ (3 : Int))) = true), ((decide (v108.1 ≥ (3 : Int))) = true)]) rfl (by kernel_rfl) (allP2 h153 (allP2 h153 (allP2 h153 (allP1 h153)))) ?_
                  obtain ⟨r154, h155, h⟩ := bind_of h
                  refine WO_frz 48 (by kernel_rfl) ?_
                  refine WO_call0 (us := [none, none]) (d := 49) (p := ((decide (v108.1 ≥ (3 : Int))) = true)) (j := 21) rfl ⟨by kernel_rfl, by kernel_rfl, by kernel_rfl⟩ h153 (ref_Inside_ok h155) (by kernel_rfl) ?_
                  refine WO_run (j := 24) (k := 3) (orcs := [(42, .known true), (44, .known false), (45, .val (.dat .bool true)), (47, .val (.dat .bool false))]) (kF := [0, 7, 8, 9, 52]) (kL := [6]) (fr' := [(0, aI a0), (7, aD (.slice (.pair tI (.pair tI tI))) a1), (8, aI (List.length a1 : Int)), (9, aI i105), (52, aB (!r154))]) (L' := [(6, .one (.pair tI (.pair tI tI)) v108)]) (obs := [((decide (v108.1 ≥ (3 : Int))) = true), (false = false), ((decide (v108.1 ≥ (3 : Int))) = true), (false = false)]) rfl (by kernel_rfl) (allP2 h153 (allP2 rfl (allP2 h153 (allP1 rfl)))) ?_
                  obtain rfl := Option.some.inj h
                  refine WO_fin [0, 7, 8, 9, 52] [] (fr' := [(0, aI a0), (7, aD (.slice (.pair tI (.pair tI tI))) a1), (8, aI (List.length a1 : Int)), (9, aI i105), (52, aB (!r154))]) (L' := []) (by kernel_rfl) (by kernel_rfl) ?_
                  exact exQ_mk (by kernel_rfl) (by kernel_rfl)
                · replace h := ofF h153 h
                  refine WO_run (j := 24) (k := 8) (orcs := [(32, .known false), (34, .known false), (36, .known false), (38, .known false), (40, .known false), (42, .known false), (44, .known false), (45, .val (.dat .bool false)), (47, .val (.dat .bool false))]) (kF := [0, 7, 8, 9, 52]) (kL := [6]) (fr' := [(0, aI a0), (7, aD (.slice (.pair tI (.pair tI tI))) a1), (8, aI (List.length a1 : Int)), (9, aI i105), (52, aB false)]) (L' := [(6, .one (.pair tI (.pair tI tI)) v108)]) (obs := [((decide (v108.1 ≥ (3 : Int))) = false), ((decide (v108.1 ≥ (3 : Int))) = false), ((decide (v108.1 ≥ (3 : Int))) = false), ((decide (v108.1 ≥ (3 : Int))) = false), ((decide (v108.1 ≥ (3 : Int))) = false), ((decide (v108.1 ≥ (3 : Int))) = false), (false = false), ((decide (v108.1 ≥ (3 : Int))) = false), (false = false)]) rfl (by kernel_rfl) (allP2 h153 (allP2 h153 (allP2 h153 (allP2 h153 (allP2 h153 (allP2 h153 (allP2 rfl (allP2 h153 (allP1 rfl))))))))) ?_
                  obtain rfl := Option.some.inj h
                  refine WO_fin [0, 7, 8, 9, 52] [] (fr' := [(0, aI a0), (7, aD (.slice (.pair tI (.pair tI tI))) a1), (8, aI (List.length a1 : Int)), (9, aI i105), (52, aB false)]) (L' := []) (by kernel_rfl) (by kernel_rfl) ?_
                  exact exQ_mk (by kernel_rfl) (by kernel_rfl)
            · intro e fr L hJ
              obtain ⟨rfl, rfl, rfl⟩ := hJ
              refine LT_keep [0, 7, 8, 9, 52] [] (fr' := [(0, aI a0), (7, aD (.slice (.pair tI (.pair tI tI))) a1), (8, aI (List.length a1 : Int)), (9, aI i105), (52, aB v156)]) (L' := []) (by kernel_rfl) ?_
              refine seqQ_norm ?_
              refine W_cond (o := .tmp 52) (b := v156) (by kernel_rfl) (by kernel_rfl) (fun h158 => ?_) (fun h158 => ?_)
              · replace h := ofT h158 h
                refine W_seq (by kernel_rfl) ?_
                refine W_run 1 [] [4] [] (fr' := [(4, aI (2 : Int))]) (L' := []) (obs := []) (by kernel_rfl) (by kernel_rfl) (by kernel_rfl) allP0 ?_
                refine seqQ_norm ?_
                obtain rfl := Option.some.inj h
                refine W_ret [4] [] (fr' := [(4, aI (2 : Int))]) (L' := []) (by kernel_rfl) (by kernel_rfl) ?_
                refine blockQ_ret ?_
                refine seqQ_ret ?_
                refine round_ret ?_
                refine escQ_ret ?_
                exact exQ_mk (by kernel_rfl) (by kernel_rfl)
              · replace h := ofF h158 h
                refine W_skip [0, 7, 8, 9] [] (fr' := [(0, aI a0), (7, aD (.slice (.pair tI (.pair tI tI))) a1), (8, aI (List.length a1 : Int)), (9, aI i105)]) (L' := []) (by kernel_rfl) (by kernel_rfl) ?_
                refine blockQ_norm ?_
                refine seqQ_norm ?_
                obtain rfl := Option.some.inj h
                refine W_run 2 [] [0, 7, 8, 9] [] (fr' := [(0, aI a0), (7, aD (.slice (.pair tI (.pair tI tI))) a1), (8, aI (List.length a1 : Int)), (9, aI (w64 (i105 + (1 : Int))))]) (L' := []) (obs := []) (by kernel_rfl) (by kernel_rfl) (by kernel_rfl) allP0 ?_
                exact round_next' (by kernel_rfl) (by kernel_rfl)
    · obtain rfl := stepL_false h110 h
      refine W_exit (id := 0) [] [] (fr' := []) (L' := []) (by kernel_rfl) (by kernel_rfl) ?_
      refine seqQ_exit ?_
      refine round_exit ?_
      refine escQ_brk ?_
      exact exQ_mk (by kernel_rfl) (by kernel_rfl)
  · intro e fr L hJ
    rcases v160 with v165 | v166
    · obtain ⟨rfl, rfl, rfl⟩ := hJ
      obtain rfl := Option.some.inj h
      refine LT_keep [4] [] (fr' := [(4, aI v165)]) (L' := []) (by kernel_rfl) ?_
      refine blockQ_ret ?_
      refine seqQ_ret ?_
      exact retQ_mk (by kernel_rfl) (by kernel_rfl) (by kernel_rfl)
    · obtain ⟨rfl, rfl, rfl⟩ := hJ
      refine LT_keep [] [] (fr' := []) (L' := []) (by kernel_rfl) ?_
      refine blockQ_hit ?_
      refine seqQ_norm ?_
      refine W_seq (by kernel_rfl) ?_
      refine W_run 1 [] [4] [] (fr' := [(4, aI (0 : Int))]) (L' := []) (obs := []) (by kernel_rfl) (by kernel_rfl) (by kernel_rfl) allP0 ?_
      refine seqQ_norm ?_
      obtain rfl := Option.some.inj h
      refine W_ret [4] [] (fr' := [(4, aI (0 : Int))]) (L' := []) (by kernel_rfl) (by kernel_rfl) ?_
      exact retQ_mk (by kernel_rfl) (by kernel_rfl) (by kernel_rfl)

def ref_GateCheck_g1 (a0 : Int) (a1 : (List (Int × (Int × Int)))) : Option Bool :=
(ref_Within (0 : Int) a0 (5 : Int)).bind fun r11 =>
bif !r11 then
(some true)
else
((ref_Within (1 : Int) (List.length a1 : Int) (40 : Int)).bind fun r14 =>
some (!r14))
@[reducible] def ref_GateCheck_s2 (a0 : Int) (a1 : (List (Int × (Int × Int)))) (v : Bool) : Fr × LL := ([(0, aI a0), (1, aD (.slice (.pair tI (.pair tI tI))) a1), (13, aB v)], [])
def ref_GateCheck (a0 : Int) (a1 : (List (Int × (Int × Int)))) : Option Int :=
(ref_GateCheck_g1 a0 a1).bind fun v16 =>
bif v16 then
(some (1 : Int))
else
((ref_GatesCheck a0 a1).bind fun r19 =>
some r19)
theorem ref_GateCheck_ok {a0 : Int} {a1 : (List (Int × (Int × Int)))} {r : Int} (h : ref_GateCheck a0 a1 = some r) : FnC Try.prog 15 [aI a0, aD (.slice (.pair tI (.pair tI tI))) a1] [] (aI r) [] := by
  refine fnC_of_W (B := bodyOf Try.f15) (n := 17) Try.func15 (by kernel_rfl) (by kernel_rfl) (by kernel_rfl) (by kernel_rfl) (by kernel_rfl) ?_
  intro K
  refine W_seq (by kernel_rfl) ?_
  refine W_run 1 [] [0, 1] [] (fr' := [(0, aI a0), (1, aD (.slice (.pair tI (.pair tI tI))) a1)]) (L' := []) (obs := []) (by kernel_rfl) (by kernel_rfl) (by kernel_rfl) allP0 ?_
  refine seqQ_norm ?_
  refine W_seq (by kernel_rfl) ?_
  refine W_seq (by kernel_rfl) ?_
  obtain ⟨v16, h17, h⟩ := bind_of h
  refine W_cutK (Q' := (exQ .normal (ref_GateCheck_s2 a0 a1)) v16) ?_ ?_
  · replace h := h17
    refine W_region (by kernel_rfl) ?_
    refine WO_run (j := 1) (k := 1) (orcs := []) (kF := [0, 1, 5]) (kL := []) (fr' := [(0, aI a0), (1, aD (.slice (.pair tI (.pair tI tI))) a1), (5, aI a0)]) (L' := []) (obs := []) rfl (by kernel_rfl) allP0 ?_
    obtain ⟨r11, h12, h⟩ := bind_of h
    refine WO_call0 (us := [none, none, none]) (d := 6) (p := True) (j := 2) rfl ⟨by kernel_rfl, by kernel_rfl, by kernel_rfl⟩ trivial (ref_Within_ok h12) (by kernel_rfl) ?_
    refine WO_run (j := 4) (k := 2) (orcs := []) (kF := [0, 1, 8]) (kL := []) (fr' := [(0, aI a0), (1, aD (.slice (.pair tI (.pair tI tI))) a1), (8, aB (!r11))]) (L' := []) (obs := []) rfl (by kernel_rfl) allP0 ?_
    rcases Bool.eq_false_or_eq_true (!r11) with h13 | h13
    · replace h := ofT h13 h
      refine WO_run (j := 9) (k := 5) (orcs := [(8, .known true), (10, .known true), (12, .known true), (14, .known true), (17, .val (.dat .bool true))]) (kF := [0, 1, 13]) (kL := []) (fr' := [(0, aI a0), (1, aD (.slice (.pair tI (.pair tI tI))) a1), (13, aB true)]) (L' := []) (obs := [((!r11) = true), ((!r11) = true), ((!r11) = true), ((!r11) = true), ((!r11) = true)]) rfl (by kernel_rfl) (allP2 h13 (allP2 h13 (allP2 h13 (allP2 h13 (allP1 h13))))) ?_
      obtain rfl := Option.some.inj h
      refine WO_fin [0, 1, 13] [] (fr' := [(0, aI a0), (1, aD (.slice (.pair tI (.pair tI tI))) a1), (13, aB true)]) (L' := []) (by kernel_rfl) (by kernel_rfl) ?_
      exact exQ_mk (by kernel_rfl) (by kernel_rfl)
    · replace h := ofF h13 h
      refine WO_run (j := 6) (k := 2) (orcs := [(8, .known false), (10, .known false)]) (kF := [0, 1, 8, 10]) (kL := []) (fr' := [(0, aI a0), (1, aD (.slice (.pair tI (.pair tI tI))) a1), (8, aB (!r11)), (10, aI (List.length a1 : Int))]) (L' := []) (obs := [((!r11) = false), ((!r11) = false)]) rfl (by kernel_rfl) (allP2 h13 (allP1 h13)) ?_
      obtain ⟨r14, h15, h⟩ := bind_of h
      refine WO_call0 (us := [none, none, none]) (d := 11) (p := ((!r11) = false)) (j := 7) rfl ⟨by kernel_rfl, by kernel_rfl, by kernel_rfl⟩ h13 (ref_Within_ok h15) (by kernel_rfl) ?_
      refine WO_run (j := 9) (k := 2) (orcs := [(14, .known false), (17, .val (.dat .bool false))]) (kF := [0, 1, 13]) (kL := []) (fr' := [(0, aI a0), (1, aD (.slice (.pair tI (.pair tI tI))) a1), (13, aB (!r14))]) (L' := []) (obs := [((!r11) = false), ((!r11) = false)]) rfl (by kernel_rfl) (allP2 h13 (allP1 h13)) ?_
      obtain rfl := Option.some.inj h
      refine WO_fin [0, 1, 13] [] (fr' := [(0, aI a0), (1, aD (.slice (.pair tI (.pair tI tI))) a1), (13, aB (!r14))]) (L' := []) (by kernel_rfl) (by kernel_rfl) ?_
      exact exQ_mk (by kernel_rfl) (by kernel_rfl)
  · intro e fr L hJ
    obtain ⟨rfl, rfl, rfl⟩ := hJ
    refine LT_keep [0, 1, 13] [] (fr' := [(0, aI a0), (1, aD (.slice (.pair tI (.pair tI tI))) a1), (13, aB v16)]) (L' := []) (by kernel_rfl) ?_
    refine seqQ_norm ?_
    refine W_cond (o := .tmp 13) (b := v16) (by kernel_rfl) (by kernel_rfl) (fun h18 => ?_) (fun h18 => ?_)
    · replace h := ofT h18 h
      refine W_seq (by kernel_rfl) ?_
      refine W_run 1 [] [4] [] (fr' := [(4, aI (1 : Int))]) (L' := []) (obs := []) (by kernel_rfl) (by kernel_rfl) (by kernel_rfl) allP0 ?_
      refine seqQ_norm ?_
      obtain rfl := Option.some.inj h
      refine W_ret [4] [] (fr' := [(4, aI (1 : Int))]) (L' := []) (by kernel_rfl) (by kernel_rfl) ?_
      refine seqQ_ret ?_
      exact retQ_mk (by kernel_rfl) (by kernel_rfl) (by kernel_rfl)
    · replace h := ofF h18 h
      refine W_skip [0, 1] [] (fr' := [(0, aI a0), (1, aD (.slice (.pair tI (.pair tI tI))) a1)]) (L' := []) (by kernel_rfl) (by kernel_rfl) ?_
      refine seqQ_norm ?_
      refine W_seq (by kernel_rfl) ?_
      refine W_region (by kernel_rfl) ?_
      refine WO_run (j := 2) (k := 2) (orcs := []) (kF := [14, 15]) (kL := []) (fr' := [(14, aI a0), (15, aD (.slice (.pair tI (.pair tI tI))) a1)]) (L' := []) (obs := []) rfl (by kernel_rfl) allP0 ?_
      obtain ⟨r19, h20, h⟩ := bind_of h
      refine WO_call0 (us := [none, none]) (d := 16) (p := True) (j := 3) rfl ⟨by kernel_rfl, by kernel_rfl, by kernel_rfl⟩ trivial (ref_GatesCheck_ok h20) (by kernel_rfl) ?_
      refine WO_run (j := 4) (k := 1) (orcs := []) (kF := [4]) (kL := []) (fr' := [(4, aI r19)]) (L' := []) (obs := []) rfl (by kernel_rfl) allP0 ?_
      refine WO_fin [4] [] (fr' := [(4, aI r19)]) (L' := []) (by kernel_rfl) (by kernel_rfl) ?_
      refine seqQ_norm ?_
      obtain rfl := Option.some.inj h
      refine W_ret [4] [] (fr' := [(4, aI r19)]) (L' := []) (by kernel_rfl) (by kernel_rfl) ?_
      exact retQ_mk (by kernel_rfl) (by kernel_rfl) (by kernel_rfl)

def ref_Bit (a0 : Int) (a1 : Int) : Option Bool :=
bif (decide (a1 ≥ (0 : Int))) && (decide (a1 < (63 : Int))) then
((ck (0 ≤ IntKind.wrap .u64 (a1))).bind fun _ =>
some ((bAnd .i64 a0 (bShl .i64 (1 : Int) (IntKind.wrap .u64 (a1)))) != (0 : Int)))
else
(some false)
theorem ref_Bit_ok {a0 : Int} {a1 : Int} {r : Bool} (h : ref_Bit a0 a1 = some r) : FnC Try.prog 32 [aI a0, aI a1] [] (aB r) [] := by
  refine fnC_of_W (B := bodyOf Try.f32) (n := 19) Try.func32 (by kernel_rfl) (by kernel_rfl) (by kernel_rfl) (by kernel_rfl) (by kernel_rfl) ?_
  intro K
  refine W_seq (by kernel_rfl) ?_
  refine W_run 1 [] [0, 1] [] (fr' := [(0, aI a0), (1, aI a1)]) (L' := []) (obs := []) (by kernel_rfl) (by kernel_rfl) (by kernel_rfl) allP0 ?_
  refine seqQ_norm ?_
  refine W_seq (by kernel_rfl) ?_
  refine W_region (by kernel_rfl) ?_
  refine WO_run (j := 7) (k := 7) (orcs := []) (kF := [0, 1, 11]) (kL := []) (fr' := [(0, aI a0), (1, aI a1), (11, aB ((decide (a1 ≥ (0 : Int))) && (decide (a1 < (63 : Int)))))]) (L' := []) (obs := []) rfl (by kernel_rfl) allP0 ?_
  rcases Bool.eq_false_or_eq_true ((decide (a1 ≥ (0 : Int))) && (decide (a1 < (63 : Int)))) with h1 | h1
  · replace h := ofT h1 h
    obtain ⟨_, h2, h⟩ := bind_of h
    replace h2 := ck_some h2
    refine WO_run (j := 15) (k := 8) (orcs := [(14, .known true), (16, .known true), (18, .known true), (20, .known true), (22, .known true), (24, .known true), (27, .val (.dat .bool true))]) (kF := [4]) (kL := []) (fr' := [(4, aB ((bAnd .i64 a0 (bShl .i64 (1 : Int) (IntKind.wrap .u64 (a1)))) != (0 : Int)))]) (L' := []) (obs := [(((decide (a1 ≥ (0 : Int))) && (decide (a1 < (63 : Int)))) = true), (((decide (a1 ≥ (0 : Int))) && (decide (a1 < (63 : Int)))) = true), (((decide (a1 ≥ (0 : Int))) && (decide (a1 < (63 : Int)))) = true), (((decide (a1 ≥ (0 : Int))) && (decide (a1 < (63 : Int)))) = true), (0 ≤ IntKind.wrap .u64 (a1)), (((decide (a1 ≥ (0 : Int))) && (decide (a1 < (63 : Int)))) = true), (((decide (a1 ≥ (0 : Int))) && (decide (a1 < (63 : Int)))) = true), (((decide (a1 ≥ (0 : Int))) && (decide (a1 < (63 : Int)))) = true)]) rfl (by kernel_rfl) (allP2 h1 (allP2 h1 (allP2 h1 (allP2 h1 (allP2 h2 (allP2 h1 (allP2 h1 (allP1 h1)))))))) ?_
    refine WO_fin [4] [] (fr' := [(4, aB ((bAnd .i64 a0 (bShl .i64 (1 : Int) (IntKind.wrap .u64 (a1)))) != (0 : Int)))]) (L' := []) (by kernel_rfl) (by kernel_rfl) ?_
    refine seqQ_norm ?_
    obtain rfl := Option.some.inj h
    refine W_ret [4] [] (fr' := [(4, aB ((bAnd .i64 a0 (bShl .i64 (1 : Int) (IntKind.wrap .u64 (a1)))) != (0 : Int)))]) (L' := []) (by kernel_rfl) (by kernel_rfl) ?_
    exact retQ_mk (by kernel_rfl) (by kernel_rfl) (by kernel_rfl)
  · replace h := ofF h1 h
    refine WO_run (j := 15) (k := 8) (orcs := [(14, .known false), (16, .known false), (18, .known false), (20, .known false), (22, .known false), (24, .known false), (27, .val (.dat .bool false))]) (kF := [4]) (kL := []) (fr' := [(4, aB false)]) (L' := []) (obs := [(((decide (a1 ≥ (0 : Int))) && (decide (a1 < (63 : Int)))) = false), (((decide (a1 ≥ (0 : Int))) && (decide (a1 < (63 : Int)))) = false), (((decide (a1 ≥ (0 : Int))) && (decide (a1 < (63 : Int)))) = false), (((decide (a1 ≥ (0 : Int))) && (decide (a1 < (63 : Int)))) = false), (((decide (a1 ≥ (0 : Int))) && (decide (a1 < (63 : Int)))) = false), (((decide (a1 ≥ (0 : Int))) && (decide (a1 < (63 : Int)))) = false), (((decide (a1 ≥ (0 : Int))) && (decide (a1 < (63 : Int)))) = false)]) rfl (by kernel_rfl) (allP2 h1 (allP2 h1 (allP2 h1 (allP2 h1 (allP2 h1 (allP2 h1 (allP1 h1))))))) ?_
    refine WO_fin [4] [] (fr' := [(4, aB false)]) (L' := []) (by kernel_rfl) (by kernel_rfl) ?_
    refine seqQ_norm ?_
    obtain rfl := Option.some.inj h
    refine W_ret [4] [] (fr' := [(4, aB false)]) (L' := []) (by kernel_rfl) (by kernel_rfl) ?_
    exact retQ_mk (by kernel_rfl) (by kernel_rfl) (by kernel_rfl)

def ref_Gates_g5 (a1 : Int) (i202 : Int) (x203 : (List Bool)) (v205 : (Int × (Int × Int))) : Option (List Bool) :=
bif v205.1 == (1 : Int) then
((ref_Bit a1 v205.2.1).bind fun r269 =>
(idx x203 i202).bind fun v271 =>
some (List.set x203 (Int.toNat i202) r269))
else
(bif v205.1 == (2 : Int) then
((idx x203 v205.2.1).bind fun v274 =>
(idx x203 i202).bind fun v276 =>
some (List.set x203 (Int.toNat i202) (!v274)))
else
(bif v205.1 == (3 : Int) then
((idx x203 v205.2.1).bind fun v279 =>
bif v279 then
((idx x203 v205.2.2).bind fun v282 =>
(idx x203 i202).bind fun v284 =>
some (List.set x203 (Int.toNat i202) v282))
else
((idx x203 i202).bind fun v286 =>
some (List.set x203 (Int.toNat i202) false)))
else
(bif v205.1 == (4 : Int) then
((idx x203 v205.2.1).bind fun v289 =>
bif v289 then
((idx x203 i202).bind fun v292 =>
some (List.set x203 (Int.toNat i202) true))
else
((idx x203 v205.2.2).bind fun v294 =>
(idx x203 i202).bind fun v296 =>
some (List.set x203 (Int.toNat i202) v294)))
else
(some x203))))
@[reducible] def ref_Gates_s6 (a0 : (List (Int × (Int × Int)))) (a1 : Int) (i202 : Int) (v : (List Bool)) : Fr × LL := ([(1, aI a1), (5, .one (.slc 10)), (11, aD (.slice (.pair tI (.pair tI tI))) a0), (12, aI (List.length a0 : Int)), (13, aI i202)], [(10, .seq .bool v)])
def ref_Gates_b7 (a1 : Int) (i202 : Int) (v205 : (Int × (Int × Int))) (x203 : (List Bool)) : Option (Flow (List Bool) (List Bool)) :=
(ref_Gates_g5 a1 i202 x203 v205).bind fun v298 =>
some (.next v298)
@[reducible] def ref_Gates_s8 (a0 : (List (Int × (Int × Int)))) (a1 : Int) (v : Int × (List Bool)) : Fr × LL := ([(1, aI a1), (5, .one (.slc 10)), (11, aD (.slice (.pair tI (.pair tI tI))) a0), (12, aI (List.length a0 : Int)), (13, aI v.1)], [(10, .seq .bool v.2)])
@[reducible] def ref_Gates_s9 (v : (List Bool)) : Fr × LL := ([(5, .one (.slc 10))], [(10, .seq .bool v)])
def ref_Gates (a0 : (List (Int × (Int × Int)))) (a1 : Int) : Option (List Bool) :=
(ck (0 ≤ (List.length a0 : Int) ∧ (List.length a0 : Int) = (List.length a0 : Int) ∧ (List.length a0 : Int) ≤ 4294967296)).bind fun _ =>
(forL (ref_Gates_b7 a1) (fun x203 => x203) a0 0 (List.replicate (Int.toNat (List.length a0 : Int)) false)).bind fun v301 =>
some v301
theorem ref_Gates_ok {a0 : (List (Int × (Int × Int)))} {a1 : Int} {r : (List Bool)} (h : ref_Gates a0 a1 = some r) : FnC Try.prog 17 [aD (.slice (.pair tI (.pair tI tI))) a0, aI a1] [] (aD (.slice .bool) r) [] := by
  refine fnC_of_W (B := bodyOf Try.f17) (n := 76) Try.func17 (by kernel_rfl) (by kernel_rfl) (by kernel_rfl) (by kernel_rfl) (by kernel_rfl) ?_
  intro K
  refine W_seq (by kernel_rfl) ?_
  refine W_run 1 [] [0, 1] [] (fr' := [(0, aD (.slice (.pair tI (.pair tI tI))) a0), (1, aI a1)]) (L' := []) (obs := []) (by kernel_rfl) (by kernel_rfl) (by kernel_rfl) allP0 ?_
  refine seqQ_norm ?_
  refine W_seq (by kernel_rfl) ?_
  obtain ⟨_, h1, h⟩ := bind_of h
  replace h1 := ck_some h1
  refine W_run 4 [] [0, 1, 5] [10] (fr' := [(0, aD (.slice (.pair tI (.pair tI tI))) a0), (1, aI a1), (5, .one (.slc 10))]) (L' := [(10, .seq .bool (List.replicate (Int.toNat (List.length a0 : Int)) false))]) (obs := [0 ≤ (List.length a0 : Int) ∧ (List.length a0 : Int) = (List.length a0 : Int) ∧ SmallLen (List.length a0 : Int)]) (by kernel_rfl) (by kernel_rfl) (by kernel_rfl) (allP1 h1) ?_
  refine seqQ_norm ?_
  refine W_seq (by kernel_rfl) ?_
  refine W_seq (by kernel_rfl) ?_
  refine W_run 3 [] [1, 5, 11, 12, 13] [10] (fr' := [(1, aI a1), (5, .one (.slc 10)), (11, aD (.slice (.pair tI (.pair tI tI))) a0), (12, aI (List.length a0 : Int)), (13, aI (0 : Int))]) (L' := [(10, .seq .bool (List.replicate (Int.toNat (List.length a0 : Int)) false))]) (obs := []) (by kernel_rfl) (by kernel_rfl) (by kernel_rfl) allP0 ?_
  refine seqQ_norm ?_
  refine W_block (id := 0) (by kernel_rfl) ?_
  obtain ⟨v301, h302, h⟩ := bind_of h
  refine W_len (t := 11) (u := (.pair tI (.pair tI tI))) (xs := a0) (by kernel_rfl) (fun h305 => ?_)
  obtain ⟨h303, h304⟩ := forL_iter h305 h302
  refine W_weaken [1, 5, 11, 12, 13] [10] (fr' := ((ref_Gates_s8 a0 a1) ((0 : Int), List.replicate (Int.toNat (List.length a0 : Int)) false)).1) (L' := ((ref_Gates_s8 a0 a1) ((0 : Int), List.replicate (Int.toNat (List.length a0 : Int)) false)).2) (by kernel_rfl) ?_
  refine W_cutK (W_loop (S := (ref_Gates_s8 a0 a1)) (J := (exQ (.exit 0) ref_Gates_s9)) (by kernel_rfl) ?_ h303 _ v301 h304) ?_
  · rintro ⟨i202, x203⟩ s h
    refine W_seq (by kernel_rfl) ?_
    refine W_run 1 [] [1, 5, 11, 12, 13, 14] [10] (fr' := [(1, aI a1), (5, .one (.slc 10)), (11, aD (.slice (.pair tI (.pair tI tI))) a0), (12, aI (List.length a0 : Int)), (13, aI i202), (14, aB (decide (i202 < (List.length a0 : Int))))]) (L' := [(10, .seq .bool x203)]) (obs := []) (by kernel_rfl) (by kernel_rfl) (by kernel_rfl) allP0 ?_
    refine seqQ_norm ?_
    refine W_seq (by kernel_rfl) ?_
    refine W_cond (o := .tmp 14) (b := decide (i202 < (List.length a0 : Int))) (by kernel_rfl) (by kernel_rfl) (fun h207 => ?_) (fun h207 => ?_)
    · replace h := stepL_true h207 h
      obtain ⟨v205, _, h206, h, rfl⟩ := h
      refine W_skip [1, 5, 11, 12, 13] [10] (fr' := [(1, aI a1), (5, .one (.slc 10)), (11, aD (.slice (.pair tI (.pair tI tI))) a0), (12, aI (List.length a0 : Int)), (13, aI i202)]) (L' := [(10, .seq .bool x203)]) (by kernel_rfl) (by kernel_rfl) ?_
      refine seqQ_norm ?_
      refine W_seq (by kernel_rfl) ?_
      obtain ⟨v298, h299, h⟩ := bind_of h
      refine W_cutK (Q' := (exQ .normal (ref_Gates_s6 a0 a1 i202)) v298) ?_ ?_
      · replace h := h299
        refine W_block (id := 1) (by kernel_rfl) ?_
        refine W_seq (by kernel_rfl) ?_
        refine W_run 6 [(3, .val (.dat (.pair tI (.pair tI tI)) v205)), (7, .typed)] [1, 5, 6, 7, 11, 12, 13] [10, 7] (fr' := [(1, aI a1), (5, .one (.slc 10)), (6, aI i202), (7, .one (.ptr 7 0)), (11, aD (.slice (.pair tI (.pair tI tI))) a0), (12, aI (List.length a0 : Int)), (13, aI i202)]) (L' := [(10, .seq .bool x203), (7, .one (.pair tI (.pair tI tI)) v205)]) (obs := [Idx a0 i202 v205, True]) (by kernel_rfl) (by kernel_rfl) (by kernel_rfl) (allP2 (Idx.of h206) (allP1 trivial)) ?_
        refine seqQ_norm ?_
        refine W_seq (by kernel_rfl) ?_
        refine W_run 2 [] [1, 5, 6, 7, 11, 12, 13, 19] [10, 7] (fr' := [(1, aI a1), (5, .one (.slc 10)), (6, aI i202), (7, .one (.ptr 7 0)), (11, aD (.slice (.pair tI (.pair tI tI))) a0), (12, aI (List.length a0 : Int)), (13, aI i202), (19, aI v205.1)]) (L' := [(10, .seq .bool x203), (7, .one (.pair tI (.pair tI tI)) v205)]) (obs := []) (by kernel_rfl) (by kernel_rfl) (by kernel_rfl) allP0 ?_
        refine seqQ_norm ?_
        refine W_block (id := 2) (by kernel_rfl) ?_
        refine W_seq (by kernel_rfl) ?_
        refine W_run 2 [] [1, 5, 6, 7, 11, 12, 13, 19, 20] [10, 7] (fr' := [(1, aI a1), (5, .one (.slc 10)), (6, aI i202), (7, .one (.ptr 7 0)), (11, aD (.slice (.pair tI (.pair tI tI))) a0), (12, aI (List.length a0 : Int)), (13, aI i202), (19, aI v205.1), (20, aB (v205.1 == (1 : Int)))]) (L' := [(10, .seq .bool x203), (7, .one (.pair tI (.pair tI tI)) v205)]) (obs := []) (by kernel_rfl) (by kernel_rfl) (by kernel_rfl) allP0 ?_
        refine seqQ_norm ?_
        refine W_cond (o := .tmp 20) (b := v205.1 == (1 : Int)) (by kernel_rfl) (by kernel_rfl) (fun h268 => ?_) (fun h268 => ?_)
        · replace h := ofT h268 h
          refine W_region (by kernel_rfl) ?_
          refine WO_run (j := 5) (k := 5) (orcs := []) (kF := [1, 5, 11, 12, 13, 22, 23, 24, 26]) (kL := [7, 10]) (fr' := [(1, aI a1), (5, .one (.slc 10)), (11, aD (.slice (.pair tI (.pair tI tI))) a0), (12, aI (List.length a0 : Int)), (13, aI i202), (22, .one (.slc 10)), (23, aI i202), (24, aI a1), (26, aI v205.2.1)]) (L' := [(7, .one (.pair tI (.pair tI tI)) v205), (10, .seq .bool x203)]) (obs := []) rfl (by kernel_rfl) allP0 ?_
          obtain ⟨r269, h270, h⟩ := bind_of h
          refine WO_call0 (us := [none, none]) (d := 27) (p := True) (j := 6) rfl ⟨by kernel_rfl, by kernel_rfl, by kernel_rfl⟩ trivial (ref_Bit_ok h270) (by kernel_rfl) ?_
          obtain ⟨v271, h272, h⟩ := bind_of h
          refine WO_run (j := 8) (k := 2) (orcs := []) (kF := [1, 5, 11, 12, 13]) (kL := [7, 10]) (fr' := [(1, aI a1), (5, .one (.slc 10)), (11, aD (.slice (.pair tI (.pair tI tI))) a0), (12, aI (List.length a0 : Int)), (13, aI i202)]) (L' := [(7, .one (.pair tI (.pair tI tI)) v205), (10, .seq .bool (List.set x203 (Int.toNat i202) r269))]) (obs := [InR i202 (List.length x203), InR i202 (List.length x203)]) rfl (by kernel_rfl) (allP2 (InR.of h272) (allP1 (InR.of h272))) ?_
          obtain rfl := Option.some.inj h
          refine WO_fin [1, 5, 11, 12, 13] [10] (fr' := [(1, aI a1), (5, .one (.slc 10)), (11, aD (.slice (.pair tI (.pair tI tI))) a0), (12, aI (List.length a0 : Int)), (13, aI i202)]) (L' := [(10, .seq .bool (List.set x203 (Int.toNat i202) r269))]) (by kernel_rfl) (by kernel_rfl) ?_
          refine blockQ_norm ?_
          refine blockQ_norm ?_
          exact exQ_mk (by kernel_rfl) (by kernel_rfl)
        · replace h := ofF h268 h
          refine W_seq (by kernel_rfl) ?_
          refine W_run 2 [] [1, 5, 6, 7, 11, 12, 13, 19, 29] [10, 7] (fr' := [(1, aI a1), (5, .one (.slc 10)), (6, aI i202), (7, .one (.ptr 7 0)), (11, aD (.slice (.pair tI (.pair tI tI))) a0), (12, aI (List.length a0 : Int)), (13, aI i202), (19, aI v205.1), (29, aB (v205.1 == (2 : Int)))]) (L' := [(10, .seq .bool x203), (7, .one (.pair tI (.pair tI tI)) v205)]) (obs := []) (by kernel_rfl) (by kernel_rfl) (by kernel_rfl) allP0 ?_
          refine seqQ_norm ?_
          refine W_cond (o := .tmp 29) (b := v205.1 == (2 : Int)) (by kernel_rfl) (by kernel_rfl) (fun h273 => ?_) (fun h273 => ?_)
          · replace h := ofT h273 h
            obtain ⟨v274, h275, h⟩ := bind_of h
            obtain ⟨v276, h277, h⟩ := bind_of h
            obtain rfl := Option.some.inj h
            refine W_run 10 [(13, .val (.dat .bool v274))] [1, 5, 11, 12, 13] [10] (fr' := [(1, aI a1), (5, .one (.slc 10)), (11, aD (.slice (.pair tI (.pair tI tI))) a0), (12, aI (List.length a0 : Int)), (13, aI i202)]) (L' := [(10, .seq .bool (List.set x203 (Int.toNat i202) (!v274)))]) (obs := [InR v205.2.1 (List.length x203), Idx x203 v205.2.1 v274, InR i202 (List.length x203), InR i202 (List.length x203)]) (by kernel_rfl) (by kernel_rfl) (by kernel_rfl) (allP2 (InR.of h275) (allP2 (Idx.of h275) (allP2 (InR.of h277) (allP1 (InR.of h277))))) ?_
            refine blockQ_norm ?_
            refine blockQ_norm ?_
            exact exQ_mk (by kernel_rfl) (by kernel_rfl)
          · replace h := ofF h273 h
            refine W_seq (by kernel_rfl) ?_
            refine W_run 2 [] [1, 5, 6, 7, 11, 12, 13, 19, 40] [10, 7] (fr' := [(1, aI a1), (5, .one (.slc 10)), (6, aI i202), (7, .one (.ptr 7 0)), (11, aD (.slice (.pair tI (.pair tI tI))) a0), (12, aI (List.length a0 : Int)), (13, aI i202), (19, aI v205.1), (40, aB (v205.1 == (3 : Int)))]) (L' := [(10, .seq .bool x203), (7, .one (.pair tI (.pair tI tI)) v205)]) (obs := []) (by kernel_rfl) (by kernel_rfl) (by kernel_rfl) allP0 ?_
            refine seqQ_norm ?_
            refine W_cond (o := .tmp 40) (b := v205.1 == (3 : Int)) (by kernel_rfl) (by kernel_rfl) (fun h278 => ?_) (fun h278 => ?_)
            · replace h := ofT h278 h
              obtain ⟨v279, h280, h⟩ := bind_of h
              refine W_region (by kernel_rfl) ?_
              refine WO_run (j := 8) (k := 8) (orcs := [(13, .val (.dat .bool v279))]) (kF := [1, 5, 7, 11, 12, 13, 42, 43, 49]) (kL := [7, 10]) (fr' := [(1, aI a1), (5, .one (.slc 10)), (7, .one (.ptr 7 0)), (11, aD (.slice (.pair tI (.pair tI tI))) a0), (12, aI (List.length a0 : Int)), (13, aI i202), (42, .one (.slc 10)), (43, aI i202), (49, aB v279)]) (L' := [(7, .one (.pair tI (.pair tI tI)) v205), (10, .seq .bool x203)]) (obs := [InR v205.2.1 (List.length x203), Idx x203 v205.2.1 v279]) rfl (by kernel_rfl) (allP2 (InR.of h280) (allP1 (Idx.of h280))) ?_
              rcases Bool.eq_false_or_eq_true (v279) with h281 | h281
              · replace h := ofT h281 h
                obtain ⟨v282, h283, h⟩ := bind_of h
                obtain ⟨v284, h285, h⟩ := bind_of h
                refine WO_run (j := 16) (k := 8) (orcs := [(16, .known true), (18, .known true), (20, .known true), (22, .known true), (24, .known true), (25, .val (.dat .bool v282)), (27, .val (.dat .bool true))]) (kF := [1, 5, 11, 12, 13]) (kL := [7, 10]) (fr' := [(1, aI a1), (5, .one (.slc 10)), (11, aD (.slice (.pair tI (.pair tI tI))) a0), (12, aI (List.length a0 : Int)), (13, aI i202)]) (L' := [(7, .one (.pair tI (.pair tI tI)) v205), (10, .seq .bool (List.set x203 (Int.toNat i202) v282))]) (obs := [(v279 = true), (v279 = true), (v279 = true), (v279 = true), InR v205.2.2 (List.length x203), (v279 = true), Idx x203 v205.2.2 v282, (v279 = true), InR i202 (List.length x203), InR i202 (List.length x203)]) rfl (by kernel_rfl) (allP2 h281 (allP2 h281 (allP2 h281 (allP2 h281 (allP2 (InR.of h283) (allP2 h281 (allP2 (Idx.of h283) (allP2 h281 (allP2 (InR.of h285) (allP1 (InR.of h285))))))))))) ?_
                obtain rfl := Option.some.inj h
                refine WO_fin [1, 5, 11, 12, 13] [10] (fr' := [(1, aI a1), (5, .one (.slc 10)), (11, aD (.slice (.pair tI (.pair tI tI))) a0), (12, aI (List.length a0 : Int)), (13, aI i202)]) (L' := [(10, .seq .bool (List.set x203 (Int.toNat i202) v282))]) (by kernel_rfl) (by kernel_rfl) ?_
                refine blockQ_norm ?_
                refine blockQ_norm ?_
                exact exQ_mk (by kernel_rfl) (by kernel_rfl)
              · replace h := ofF h281 h
                obtain ⟨v286, h287, h⟩ := bind_of h
                refine WO_run (j := 16) (k := 8) (orcs := [(16, .known false), (18, .known false), (20, .known false), (22, .known false), (24, .known false), (27, .val (.dat .bool false))]) (kF := [1, 5, 11, 12, 13]) (kL := [7, 10]) (fr' := [(1, aI a1), (5, .one (.slc 10)), (11, aD (.slice (.pair tI (.pair tI tI))) a0), (12, aI (List.length a0 : Int)), (13, aI i202)]) (L' := [(7, .one (.pair tI (.pair tI tI)) v205), (10, .seq .bool (List.set x203 (Int.toNat i202) false))]) (obs := [(v279 = false), (v279 = false), (v279 = false), (v279 = false), (v279 = false), (v279 = false), InR i202 (List.length x203), InR i202 (List.length x203)]) rfl (by kernel_rfl) (allP2 h281 (allP2 h281 (allP2 h281 (allP2 h281 (allP2 h281 (allP2 h281 (allP2 (InR.of h287) (allP1 (InR.of h287))))))))) ?_
                obtain rfl := Option.some.inj h
                refine WO_fin [1, 5, 11, 12, 13] [10] (fr' := [(1, aI a1), (5, .one (.slc 10)), (11, aD (.slice (.pair tI (.pair tI tI))) a0), (12, aI (List.length a0 : Int)), (13, aI i202)]) (L' := [(10, .seq .bool (List.set x203 (Int.toNat i202) false))]) (by kernel_rfl) (by kernel_rfl) ?_
                refine blockQ_norm ?_
                refine blockQ_norm ?_
                exact exQ_mk (by kernel_rfl) (by kernel_rfl)
            · replace h := ofF h278 h
              refine W_seq (by kernel_rfl) ?_
              refine W_run 2 [] [1, 5, 6, 7, 11, 12, 13, 57] [10, 7] (fr' := [(1, aI a1), (5, .one (.slc 10)), (6, aI i202), (7, .one (.ptr 7 0)), (11, aD (.slice (.pair tI (.pair tI tI))) a0), (12, aI (List.length a0 : Int)), (13, aI i202), (57, aB (v205.1 == (4 : Int)))]) (L' := [(10, .seq .bool x203), (7, .one (.pair tI (.pair tI tI)) v205)]) (obs := []) (by kernel_rfl) (by kernel_rfl) (by kernel_rfl) allP0 ?_
              refine seqQ_norm ?_
              refine W_cond (o := .tmp 57) (b := v205.1 == (4 : Int)) (by kernel_rfl) (by kernel_rfl) (fun h288 => ?_) (fun h288 => ?_)
              · replace h := ofT h288 h
                obtain ⟨v289, h290, h⟩ := bind_of h
                refine W_region (by kernel_rfl) ?_
                refine WO_run (j := 8) (k := 8) (orcs := [(13, .val (.dat .bool v289))]) (kF := [1, 5, 7, 11, 12, 13, 59, 60, 66]) (kL := [7, 10]) (fr' := [(1, aI a1), (5, .one (.slc 10)), (7, .one (.ptr 7 0)), (11, aD (.slice (.pair tI (.pair tI tI))) a0), (12, aI (List.length a0 : Int)), (13, aI i202), (59, .one (.slc 10)), (60, aI i202), (66, aB v289)]) (L' := [(7, .one (.pair tI (.pair tI tI)) v205), (10, .seq .bool x203)]) (obs := [InR v205.2.1 (List.length x203), Idx x203 v205.2.1 v289]) rfl (by kernel_rfl) (allP2 (InR.of h290) (allP1 (Idx.of h290))) ?_
                rcases Bool.eq_false_or_eq_true (v289) with h291 | h291
                · replace h := ofT h291 h
                  obtain ⟨v292, h293, h⟩ := bind_of h
                  refine WO_run (j := 16) (k := 8) (orcs := [(16, .known true), (18, .known true), (20, .known true), (22, .known true), (24, .known true), (27, .val (.dat .bool true))]) (kF := [1, 5, 11, 12, 13]) (kL := [7, 10]) (fr' := [(1, aI a1), (5, .one (.slc 10)), (11, aD (.slice (.pair tI (.pair tI tI))) a0), (12, aI (List.length a0 : Int)), (13, aI i202)]) (L' := [(7, .one (.pair tI (.pair tI tI)) v205), (10, .seq .bool (List.set x203 (Int.toNat i202) true))]) (obs := [(v289 = true), (v289 = true), (v289 = true), (v289 = true), (v289 = true), (v289 = true), InR i202 (List.length x203), InR i202 (List.length x203)]) rfl (by kernel_rfl) (allP2 h291 (allP2 h291 (allP2 h291 (allP2 h291 (allP2 h291 (allP2 h291 (allP2 (InR.of h293) (allP1 (InR.of h293))))))))) ?_
                  obtain rfl := Option.some.inj h
                  refine WO_fin [1, 5, 11, 12, 13] [10] (fr' := [(1, aI a1), (5, .one (.slc 10)), (11, aD (.slice (.pair tI (.pair tI tI))) a0), (12, aI (List.length a0 : Int)), (13, aI i202)]) (L' := [(10, .seq .bool (List.set x203 (Int.toNat i202) true))]) (by kernel_rfl) (by kernel_rfl) ?_
                  refine blockQ_norm ?_
                  refine blockQ_norm ?_
                  exact exQ_mk (by kernel_rfl) (by kernel_rfl)
                · replace h := ofF h291 h
                  obtain ⟨v294, h295, h⟩ := bind_of h
                  obtain ⟨v296, h297, h⟩ := bind_of h
                  refine WO_run (j := 16) (k := 8) (orcs := [(16, .known false), (18, .known false), (20, .known false), (22, .known false), (24, .known false), (25, .val (.dat .bool v294)), (27, .val (.dat .bool false))]) (kF := [1, 5, 11, 12, 13]) (kL := [7, 10]) (fr' := [(1, aI a1), (5, .one (.slc 10)), (11, aD (.slice (.pair tI (.pair tI tI))) a0), (12, aI (List.length a0 : Int)), (13, aI i202)]) (L' := [(7, .one (.pair tI (.pair tI tI)) v205), (10, .seq .bool (List.set x203 (Int.toNat i202) v294))]) (obs := [(v289 = false), (v289 = false), (v289 = false), (v289 = false), InR v205.2.2 (List.length x203), (v289 = false), Idx x203 v205.2.2 v294, (v289 = false), InR i202 (List.length x203), InR i202 (List.length x203)]) rfl (by kernel_rfl) (allP2 h291 (allP2 h291 (allP2 h291 (allP2 h291 (allP2 (InR.of h295) (allP2 h291 (allP2 (Idx.of h295) (allP2 h291 (allP2 (InR.of h297) (allP1 (InR.of h297))))))))))) ?_
                  obtain rfl := Option.some.inj h
                  refine WO_fin [1, 5, 11, 12, 13] [10] (fr' := [(1, aI a1), (5, .one (.slc 10)), (11, aD (.slice (.pair tI (.pair tI tI))) a0), (12, aI (List.length a0 : Int)), (13, aI i202)]) (L' := [(10, .seq .bool (List.set x203 (Int.toNat i202) v294))]) (by kernel_rfl) (by kernel_rfl) ?_
                  refine blockQ_norm ?_
                  refine blockQ_norm ?_
                  exact exQ_mk (by kernel_rfl) (by kernel_rfl)
              · replace h := ofF h288 h
                obtain rfl := Option.some.inj h
                refine W_skip [1, 5, 11, 12, 13] [10] (fr' := [(1, aI a1), (5, .one (.slc 10)), (11, aD (.slice (.pair tI (.pair tI tI))) a0), (12, aI (List.length a0 : Int)), (13, aI i202)]) (L' := [(10, .seq .bool x203)]) (by kernel_rfl) (by kernel_rfl) ?_
                refine blockQ_norm ?_
                refine blockQ_norm ?_
                exact exQ_mk (by kernel_rfl) (by kernel_rfl)
      · intro e fr L hJ
        obtain ⟨rfl, rfl, rfl⟩ := hJ
        refine LT_keep [1, 5, 11, 12, 13] [10] (fr' := [(1, aI a1), (5, .one (.slc 10)), (11, aD (.slice (.pair tI (.pair tI tI))) a0), (12, aI (List.length a0 : Int)), (13, aI i202)]) (L' := [(10, .seq .bool v298)]) (by kernel_rfl) ?_
        refine seqQ_norm ?_
        obtain rfl := Option.some.inj h
        refine W_run 2 [] [1, 5, 11, 12, 13] [10] (fr' := [(1, aI a1), (5, .one (.slc 10)), (11, aD (.slice (.pair tI (.pair tI tI))) a0), (12, aI (List.length a0 : Int)), (13, aI (w64 (i202 + (1 : Int))))]) (L' := [(10, .seq .bool v298)]) (obs := []) (by kernel_rfl) (by kernel_rfl) (by kernel_rfl) allP0 ?_
        exact round_next' (by kernel_rfl) (by kernel_rfl)
    · obtain rfl := stepL_false h207 h
      refine W_exit (id := 0) [5] [10] (fr' := [(5, .one (.slc 10))]) (L' := [(10, .seq .bool x203)]) (by kernel_rfl) (by kernel_rfl) ?_
      refine seqQ_exit ?_
      refine round_exit ?_
      exact exQ_mk (by kernel_rfl) (by kernel_rfl)
  · intro e fr L hJ
    obtain ⟨rfl, rfl, rfl⟩ := hJ
    refine LT_keep [5] [10] (fr' := [(5, .one (.slc 10))]) (L' := [(10, .seq .bool v301)]) (by kernel_rfl) ?_
    refine blockQ_hit ?_
    refine seqQ_norm ?_
    refine W_seq (by kernel_rfl) ?_
    refine W_run 2 [] [4] [10] (fr' := [(4, .one (.slc 10))]) (L' := [(10, .seq .bool v301)]) (obs := []) (by kernel_rfl) (by kernel_rfl) (by kernel_rfl) allP0 ?_
    refine seqQ_norm ?_
    obtain rfl := Option.some.inj h
    refine W_frz 10 (by kernel_rfl) ?_
    refine W_ret [4] [] (fr' := [(4, aD (.slice .bool) v301)]) (L' := []) (by kernel_rfl) (by kernel_rfl) ?_
    exact retQ_mk (by kernel_rfl) (by kernel_rfl) (by kernel_rfl)

def law_GateTurns_g1 (a0 : Int) (a1 : (List (Int × (Int × Int)))) (r1 : ((List (Int × (Int × Int))) × Int)) : Option Bool :=
bif ((r1.2 != (0 : Int)) || ((List.length r1.1 : Int) == (0 : Int))) || (decide ((List.length r1.1 : Int) > (w64 ((2 : Int) * (List.length a1 : Int))))) then
(some true)
else
((ref_GatesCheck a0 r1.1).bind fun r13 =>
some (r13 != (0 : Int)))
@[reducible] def law_GateTurns_s4 (a0 : Int) (a1 : (List (Int × (Int × Int)))) (r1 : ((List (Int × (Int × Int))) × Int)) (i50 : Int) (v : Bool) : Fr × LL := ([(0, aI a0), (1, aD (.slice (.pair tI (.pair tI tI))) a1), (5, aD (.slice (.pair tI (.pair tI tI))) r1.1), (51, aD (.slice (.pair tI (.pair tI tI))) r1.1), (52, aI (List.length r1.1 : Int)), (53, aI i50), (68, aB v)], [])
def law_GateTurns_b5 (r1 : ((List (Int × (Int × Int))) × Int)) (i50 : Int) (v53 : (Int × (Int × Int))) (x51 : Unit) : Option (Flow Unit (Esc Bool Unit)) :=
(bif v53.1 == (2 : Int) then
((idx r1.1 v53.2.1).bind fun v63 =>
some (v63.1 != (1 : Int)))
else
(some false)).bind fun v65 =>
bif v65 then
(some (.done (.ret false)))
else
(some (.next ()))
@[reducible] def law_GateTurns_s6 (a0 : Int) (a1 : (List (Int × (Int × Int)))) (r1 : ((List (Int × (Int × Int))) × Int)) (v : Int × Unit) : Fr × LL := ([(0, aI a0), (1, aD (.slice (.pair tI (.pair tI tI))) a1), (5, aD (.slice (.pair tI (.pair tI tI))) r1.1), (51, aD (.slice (.pair tI (.pair tI tI))) r1.1), (52, aI (List.length r1.1 : Int)), (53, aI v.1)], [])
@[reducible] def law_GateTurns_s7 (v : Bool) : Fr × LL := ([(4, aB v)], [])
@[reducible] def law_GateTurns_s8 (a0 : Int) (a1 : (List (Int × (Int × Int)))) (r1 : ((List (Int × (Int × Int))) × Int)) (v : Unit) : Fr × LL := ([(0, aI a0), (1, aD (.slice (.pair tI (.pair tI tI))) a1), (5, aD (.slice (.pair tI (.pair tI tI))) r1.1)], [])
def law_GateTurns_b9 (a0 : Int) (a1 : (List (Int × (Int × Int)))) (r1 : ((List (Int × (Int × Int))) × Int)) (x88 : Int) : Option (Flow Int (Esc Bool Unit)) :=
(ck (0 ≤ IntKind.wrap .u64 (a0))).bind fun _ =>
bif decide (x88 < (bShl .i64 (1 : Int) (IntKind.wrap .u64 (a0)))) then
((ref_Gates a1 x88).bind fun r102 =>
(idx r102 (w64 ((List.length a1 : Int) - (1 : Int)))).bind fun v104 =>
(ref_Gates r1.1 x88).bind fun r106 =>
(idx r106 (w64 ((List.length r1.1 : Int) - (1 : Int)))).bind fun v108 =>
bif !(v104 == v108) then
(some (.done (.ret false)))
else
(some (.next (w64 (x88 + (1 : Int))))))
else
(some (.done (.brk ())))
@[reducible] def law_GateTurns_s10 (a0 : Int) (a1 : (List (Int × (Int × Int)))) (r1 : ((List (Int × (Int × Int))) × Int)) (v : Int) : Fr × LL := ([(0, aI a0), (1, aD (.slice (.pair tI (.pair tI tI))) a1), (5, aD (.slice (.pair tI (.pair tI tI))) r1.1), (10, aI v)], [])
@[reducible] def law_GateTurns_s11 (v : Bool) : Fr × LL := ([(4, aB v)], [])
@[reducible] def law_GateTurns_s12 (v : Unit) : Fr × LL := ([], [])
@[reducible] def law_GateTurns_s13 (a0 : Int) (a1 : (List (Int × (Int × Int)))) (r1 : ((List (Int × (Int × Int))) × Int)) (v : Bool) : Fr × LL := ([(0, aI a0), (1, aD (.slice (.pair tI (.pair tI tI))) a1), (5, aD (.slice (.pair tI (.pair tI tI))) r1.1), (50, aB v)], [])
def law_GateTurns (fuel : Nat) (a0 : Int) (a1 : (List (Int × (Int × Int)))) : Option Bool :=
(gate_Turn a0 a1).bind fun r1 =>
(ref_GateCheck a0 a1).bind fun r3 =>
bif r3 != (0 : Int) then
(some ((r1.2 == r3) && ((List.length r1.1 : Int) == (0 : Int))))
else
((law_GateTurns_g1 a0 a1 r1).bind fun v15 =>
bif v15 then
(some false)
else
((forL (law_GateTurns_b5 r1) (fun x51 => (.brk ())) r1.1 0 ()).bind fun v69 =>
match v69 with
| .ret v74 =>
(some v74)
| .brk v75 =>
((iter (law_GateTurns_b9 a0 a1 r1) fuel (0 : Int)).bind fun v111 =>
match v111 with
| .ret v115 =>
(some v115)
| .brk v116 =>
(some true))))
theorem law_GateTurns_ok {fuel : Nat} {a0 : Int} {a1 : (List (Int × (Int × Int)))} {r : Bool} (h : law_GateTurns fuel a0 a1 = some r) : FnC Try.prog 4 [aI a0, aD (.slice (.pair tI (.pair tI tI))) a1] [] (aB r) [] := by
  refine fnC_of_W (B := bodyOf Try.f4) (n := 94) Try.func4 (by kernel_rfl) (by kernel_rfl) (by kernel_rfl) (by kernel_rfl) (by kernel_rfl) ?_
  intro K
  refine W_seq (by kernel_rfl) ?_
  refine W_run 1 [] [0, 1] [] (fr' := [(0, aI a0), (1, aD (.slice (.pair tI (.pair tI tI))) a1)]) (L' := []) (obs := []) (by kernel_rfl) (by kernel_rfl) (by kernel_rfl) allP0 ?_
  refine seqQ_norm ?_
  refine W_seq (by kernel_rfl) ?_
  refine W_region (by kernel_rfl) ?_
  refine WO_run (j := 2) (k := 2) (orcs := []) (kF := [0, 1, 12, 13]) (kL := []) (fr' := [(0, aI a0), (1, aD (.slice (.pair tI (.pair tI tI))) a1), (12, aI a0), (13, aD (.slice (.pair tI (.pair tI tI))) a1)]) (L' := []) (obs := []) rfl (by kernel_rfl) allP0 ?_
  obtain ⟨r1, h2, h⟩ := bind_of h
  refine WO_call0 (us := [none, none]) (d := 14) (p := True) (j := 3) rfl ⟨by kernel_rfl, by kernel_rfl, by kernel_rfl⟩ trivial (gate_Turn_ok h2) (by kernel_rfl) ?_
  refine WO_run (j := 8) (k := 5) (orcs := []) (kF := [0, 1, 5, 6]) (kL := []) (fr' := [(0, aI a0), (1, aD (.slice (.pair tI (.pair tI tI))) a1), (5, aD (.slice (.pair tI (.pair tI tI))) r1.1), (6, aI r1.2)]) (L' := []) (obs := []) rfl (by kernel_rfl) allP0 ?_
  refine WO_fin [0, 1, 5, 6] [] (fr' := [(0, aI a0), (1, aD (.slice (.pair tI (.pair tI tI))) a1), (5, aD (.slice (.pair tI (.pair tI tI))) r1.1), (6, aI r1.2)]) (L' := []) (by kernel_rfl) (by kernel_rfl) ?_
  refine seqQ_norm ?_
  refine W_seq (by kernel_rfl) ?_
  refine W_region (by kernel_rfl) ?_
  refine WO_run (j := 2) (k := 2) (orcs := []) (kF := [0, 1, 5, 6, 17, 18]) (kL := []) (fr' := [(0, aI a0), (1, aD (.slice (.pair tI (.pair tI tI))) a1), (5, aD (.slice (.pair tI (.pair tI tI))) r1.1), (6, aI r1.2), (17, aI a0), (18, aD (.slice (.pair tI (.pair tI tI))) a1)]) (L' := []) (obs := []) rfl (by kernel_rfl) allP0 ?_
  obtain ⟨r3, h4, h⟩ := bind_of h
  refine WO_call0 (us := [none, none]) (d := 19) (p := True) (j := 3) rfl ⟨by kernel_rfl, by kernel_rfl, by kernel_rfl⟩ trivial (ref_GateCheck_ok h4) (by kernel_rfl) ?_
  refine WO_run (j := 4) (k := 1) (orcs := []) (kF := [0, 1, 5, 6, 7]) (kL := []) (fr' := [(0, aI a0), (1, aD (.slice (.pair tI (.pair tI tI))) a1), (5, aD (.slice (.pair tI (.pair tI tI))) r1.1), (6, aI r1.2), (7, aI r3)]) (L' := []) (obs := []) rfl (by kernel_rfl) allP0 ?_
  refine WO_fin [0, 1, 5, 6, 7] [] (fr' := [(0, aI a0), (1, aD (.slice (.pair tI (.pair tI tI))) a1), (5, aD (.slice (.pair tI (.pair tI tI))) r1.1), (6, aI r1.2), (7, aI r3)]) (L' := []) (by kernel_rfl) (by kernel_rfl) ?_
  refine seqQ_norm ?_
  refine W_seq (by kernel_rfl) ?_
  refine W_seq (by kernel_rfl) ?_
  refine W_run 2 [] [0, 1, 5, 6, 7, 21] [] (fr' := [(0, aI a0), (1, aD (.slice (.pair tI (.pair tI tI))) a1), (5, aD (.slice (.pair tI (.pair tI tI))) r1.1), (6, aI r1.2), (7, aI r3), (21, aB (r3 != (0 : Int)))]) (L' := []) (obs := []) (by kernel_rfl) (by kernel_rfl) (by kernel_rfl) allP0 ?_
  refine seqQ_norm ?_
  refine W_cond (o := .tmp 21) (b := r3 != (0 : Int)) (by kernel_rfl) (by kernel_rfl) (fun h5 => ?_) (fun h5 => ?_)
  · replace h := ofT h5 h
    refine W_seq (by kernel_rfl) ?_
    refine W_run 9 [] [4] [] (fr' := [(4, aB ((r1.2 == r3) && ((List.length r1.1 : Int) == (0 : Int))))]) (L' := []) (obs := []) (by kernel_rfl) (by kernel_rfl) (by kernel_rfl) allP0 ?_
    refine seqQ_norm ?_
    obtain rfl := Option.some.inj h
    refine W_ret [4] [] (fr' := [(4, aB ((r1.2 == r3) && ((List.length r1.1 : Int) == (0 : Int))))]) (L' := []) (by kernel_rfl) (by kernel_rfl) ?_
    refine seqQ_ret ?_
    exact retQ_mk (by kernel_rfl) (by kernel_rfl) (by kernel_rfl)
  · replace h := ofF h5 h
    refine W_skip [0, 1, 5, 6] [] (fr' := [(0, aI a0), (1, aD (.slice (.pair tI (.pair tI tI))) a1), (5, aD (.slice (.pair tI (.pair tI tI))) r1.1), (6, aI r1.2)]) (L' := []) (by kernel_rfl) (by kernel_rfl) ?_
    refine seqQ_norm ?_
    refine W_seq (by kernel_rfl) ?_
    refine W_seq (by kernel_rfl) ?_
    obtain ⟨v15, h16, h⟩ := bind_of h
    refine W_cutK (Q' := (exQ .normal (law_GateTurns_s13 a0 a1 r1)) v15) ?_ ?_
    · replace h := h16
      refine W_region (by kernel_rfl) ?_
      refine WO_run (j := 16) (k := 16) (orcs := []) (kF := [0, 1, 5, 45]) (kL := []) (fr' := [(0, aI a0), (1, aD (.slice (.pair tI (.pair tI tI))) a1), (5, aD (.slice (.pair tI (.pair tI tI))) r1.1), (45, aB (((r1.2 != (0 : Int)) || ((List.length r1.1 : Int) == (0 : Int))) || (decide ((List.length r1.1 : Int) > (w64 ((2 : Int) * (List.length a1 : Int)))))))]) (L' := []) (obs := []) rfl (by kernel_rfl) allP0 ?_
      rcases Bool.eq_false_or_eq_true (((r1.2 != (0 : Int)) || ((List.length r1.1 : Int) == (0 : Int))) || (decide ((List.length r1.1 : Int) > (w64 ((2 : Int) * (List.length a1 : Int)))))) with h12 | h12
      · replace h := ofT h12 h
        refine WO_run (j := 21) (k := 5) (orcs := [(32, .known true), (34, .known true), (36, .known true), (38, .known true), (41, .val (.dat .bool true))]) (kF := [0, 1, 5, 50]) (kL := []) (fr' := [(0, aI a0), (1, aD (.slice (.pair tI (.pair tI tI))) a1), (5, aD (.slice (.pair tI (.pair tI tI))) r1.1), (50, aB true)]) (L' := []) (obs := [((((r1.2 != (0 : Int)) || ((List.length r1.1 : Int) == (0 : Int))) || (decide ((List.length r1.1 : Int) > (w64 ((2 : Int) * (List.length a1 : Int)))))) = true), ((((r1.2 != (0 : Int)) || ((List.length r1.1 : Int) == (0 : Int))) || (decide ((List.length r1.1 : Int) > (w64 ((2 : Int) * (List.length a1 : Int)))))) = true), ((((r1.2 != (0 : Int)) || ((List.length r1.1 : Int) == (0 : Int))) || (decide ((List.length r1.1 : Int) > (w64 ((2 : Int) * (List.length a1 : Int)))))) = true), ((((r1.2 != (0 : Int)) || ((List.length r1.1 : Int) == (0 : Int))) || (decide ((List.length r1.1 : Int) > (w64 ((2 : Int) * (List.length a1 : Int)))))) = true), ((((r1.2 != (0 : Int)) || ((List.length r1.1 : Int) == (0 : Int))) || (decide ((List.length r1.1 : Int) > (w64 ((2 : Int) * (List.length a1 : Int)))))) = true)]) rfl (by kernel_rfl) (allP2 h12 (allP2 h12 (allP2 h12 (allP2 h12 (allP1 h12))))) ?_
        obtain rfl := Option.some.inj h
        refine WO_fin [0, 1, 5, 50] [] (fr' := [(0, aI a0), (1, aD (.slice (.pair tI (.pair tI tI))) a1), (5, aD (.slice (.pair tI (.pair tI tI))) r1.1), (50, aB true)]) (L' := []) (by kernel_rfl) (by kernel_rfl) ?_
        exact exQ_mk (by kernel_rfl) (by kernel_rfl)
      · replace h := ofF h12 h
        refine WO_run (j := 18) (k := 2) (orcs := [(32, .known false), (34, .known false)]) (kF := [0, 1, 5, 45, 46, 47]) (kL := []) (fr' := [(0, aI a0), (1, aD (.slice (.pair tI (.pair tI tI))) a1), (5, aD (.slice (.pair tI (.pair tI tI))) r1.1), (45, aB (((r1.2 != (0 : Int)) || ((List.length r1.1 : Int) == (0 : Int))) || (decide ((List.length r1.1 : Int) > (w64 ((2 : Int) * (List.length a1 : Int))))))), (46, aI a0), (47, aD (.slice (.pair tI (.pair tI tI))) r1.1)]) (L' := []) (obs := [((((r1.2 != (0 : Int)) || ((List.length r1.1 : Int) == (0 : Int))) || (decide ((List.length r1.1 : Int) > (w64 ((2 : Int) * (List.length a1 : Int)))))) = false), ((((r1.2 != (0 : Int)) || ((List.length r1.1 : Int) == (0 : Int))) || (decide ((List.length r1.1 : Int) > (w64 ((2 : Int) * (List.length a1 : Int)))))) = false)]) rfl (by kernel_rfl) (allP2 h12 (allP1 h12)) ?_
        obtain ⟨r13, h14, h⟩ := bind_of h
        refine WO_call0 (us := [none, none]) (d := 48) (p := ((((r1.2 != (0 : Int)) || ((List.length r1.1 : Int) == (0 : Int))) || (decide ((List.length r1.1 : Int) > (w64 ((2 : Int) * (List.length a1 : Int)))))) = false)) (j := 19) rfl ⟨by kernel_rfl, by kernel_rfl, by kernel_rfl⟩ h12 (ref_GatesCheck_ok h14) (by kernel_rfl) ?_
        refine WO_run (j := 21) (k := 2) (orcs := [(38, .known false), (41, .val (.dat .bool false))]) (kF := [0, 1, 5, 50]) (kL := []) (fr' := [(0, aI a0), (1, aD (.slice (.pair tI (.pair tI tI))) a1), (5, aD (.slice (.pair tI (.pair tI tI))) r1.1), (50, aB (r13 != (0 : Int)))]) (L' := []) (obs := [((((r1.2 != (0 : Int)) || ((List.length r1.1 : Int) == (0 : Int))) || (decide ((List.length r1.1 : Int) > (w64 ((2 : Int) * (List.length a1 : Int)))))) = false), ((((r1.2 != (0 : Int)) || ((List.length r1.1 : Int) == (0 : Int))) || (decide ((List.length r1.1 : Int) > (w64 ((2 : Int) * (List.length a1 : Int)))))) = false)]) rfl (by kernel_rfl) (allP2 h12 (allP1 h12)) ?_
        obtain rfl := Option.some.inj h
        refine WO_fin [0, 1, 5, 50] [] (fr' := [(0, aI a0), (1, aD (.slice (.pair tI (.pair tI tI))) a1), (5, aD (.slice (.pair tI (.pair tI tI))) r1.1), (50, aB (r13 != (0 : Int)))]) (L' := []) (by kernel_rfl) (by kernel_rfl) ?_
        exact exQ_mk (by kernel_rfl) (by kernel_rfl)
    · intro e fr L hJ
      obtain ⟨rfl, rfl, rfl⟩ := hJ
      refine LT_keep [0, 1, 5, 50] [] (fr' := [(0, aI a0), (1, aD (.slice (.pair tI (.pair tI tI))) a1), (5, aD (.slice (.pair tI (.pair tI tI))) r1.1), (50, aB v15)]) (L' := []) (by kernel_rfl) ?_
      refine seqQ_norm ?_
      refine W_cond (o := .tmp 50) (b := v15) (by kernel_rfl) (by kernel_rfl) (fun h17 => ?_) (fun h17 => ?_)
      · replace h := ofT h17 h
        refine W_seq (by kernel_rfl) ?_
        refine W_run 1 [] [4] [] (fr' := [(4, aB false)]) (L' := []) (obs := []) (by kernel_rfl) (by kernel_rfl) (by kernel_rfl) allP0 ?_
        refine seqQ_norm ?_
        obtain rfl := Option.some.inj h
        refine W_ret [4] [] (fr' := [(4, aB false)]) (L' := []) (by kernel_rfl) (by kernel_rfl) ?_
        refine seqQ_ret ?_
        exact retQ_mk (by kernel_rfl) (by kernel_rfl) (by kernel_rfl)
      · replace h := ofF h17 h
        refine W_skip [0, 1, 5] [] (fr' := [(0, aI a0), (1, aD (.slice (.pair tI (.pair tI tI))) a1), (5, aD (.slice (.pair tI (.pair tI tI))) r1.1)]) (L' := []) (by kernel_rfl) (by kernel_rfl) ?_
        refine seqQ_norm ?_
        refine W_seq (by kernel_rfl) ?_
        refine W_seq (by kernel_rfl) ?_
        refine W_run 3 [] [0, 1, 5, 51, 52, 53] [] (fr' := [(0, aI a0), (1, aD (.slice (.pair tI (.pair tI tI))) a1), (5, aD (.slice (.pair tI (.pair tI tI))) r1.1), (51, aD (.slice (.pair tI (.pair tI tI))) r1.1), (52, aI (List.length r1.1 : Int)), (53, aI (0 : Int))]) (L' := []) (obs := []) (by kernel_rfl) (by kernel_rfl) (by kernel_rfl) allP0 ?_
        refine seqQ_norm ?_
        refine W_block (id := 0) (by kernel_rfl) ?_
        obtain ⟨v69, h70, h⟩ := bind_of h
        refine W_len (t := 51) (u := (.pair tI (.pair tI tI))) (xs := r1.1) (by kernel_rfl) (fun h73 => ?_)
        obtain ⟨h71, h72⟩ := forL_iter h73 h70
        refine W_weaken [0, 1, 5, 51, 52, 53] [] (fr' := ((law_GateTurns_s6 a0 a1 r1) ((0 : Int), ())).1) (L' := ((law_GateTurns_s6 a0 a1 r1) ((0 : Int), ())).2) (by kernel_rfl) ?_
        refine W_cutK (W_loop (S := (law_GateTurns_s6 a0 a1 r1)) (J := (escQ (exQ .ret law_GateTurns_s7) (exQ (.exit 0) (law_GateTurns_s8 a0 a1 r1)))) (by kernel_rfl) ?_ h71 _ v69 h72) ?_
        · rintro ⟨i50, x51⟩ s h
          refine W_seq (by kernel_rfl) ?_
          refine W_run 1 [] [0, 1, 5, 51, 52, 53, 54] [] (fr' := [(0, aI a0), (1, aD (.slice (.pair tI (.pair tI tI))) a1), (5, aD (.slice (.pair tI (.pair tI tI))) r1.1), (51, aD (.slice (.pair tI (.pair tI tI))) r1.1), (52, aI (List.length r1.1 : Int)), (53, aI i50), (54, aB (decide (i50 < (List.length r1.1 : Int))))]) (L' := []) (obs := []) (by kernel_rfl) (by kernel_rfl) (by kernel_rfl) allP0 ?_
          refine seqQ_norm ?_
          refine W_seq (by kernel_rfl) ?_
          refine W_cond (o := .tmp 54) (b := decide (i50 < (List.length r1.1 : Int))) (by kernel_rfl) (by kernel_rfl) (fun h55 => ?_) (fun h55 => ?_)
          · replace h := stepL_true h55 h
            obtain ⟨v53, _, h54, h, rfl⟩ := h
            refine W_skip [0, 1, 5, 51, 52, 53] [] (fr' := [(0, aI a0), (1, aD (.slice (.pair tI (.pair tI tI))) a1), (5, aD (.slice (.pair tI (.pair tI tI))) r1.1), (51, aD (.slice (.pair tI (.pair tI tI))) r1.1), (52, aI (List.length r1.1 : Int)), (53, aI i50)]) (L' := []) (by kernel_rfl) (by kernel_rfl) ?_
            refine seqQ_norm ?_
            refine W_seq (by kernel_rfl) ?_
            refine W_block (id := 1) (by kernel_rfl) ?_
            refine W_seq (by kernel_rfl) ?_
            refine W_run 4 [(1, .val (.dat (.pair tI (.pair tI tI)) v53)), (5, .typed)] [0, 1, 5, 9, 51, 52, 53] [9] (fr' := [(0, aI a0), (1, aD (.slice (.pair tI (.pair tI tI))) a1), (5, aD (.slice (.pair tI (.pair tI tI))) r1.1), (9, .one (.ptr 9 0)), (51, aD (.slice (.pair tI (.pair tI tI))) r1.1), (52, aI (List.length r1.1 : Int)), (53, aI i50)]) (L' := [(9, .one (.pair tI (.pair tI tI)) v53)]) (obs := [Idx r1.1 i50 v53, True]) (by kernel_rfl) (by kernel_rfl) (by kernel_rfl) (allP2 (Idx.of h54) (allP1 trivial)) ?_
            refine seqQ_norm ?_
            refine W_seq (by kernel_rfl) ?_
            obtain ⟨v65, h66, h⟩ := bind_of h
            refine W_cutK (Q' := (exQ .normal (law_GateTurns_s4 a0 a1 r1 i50)) v65) ?_ ?_
            · replace h := h66
              refine W_region (by kernel_rfl) ?_
              refine WO_run (j := 4) (k := 4) (orcs := []) (kF := [0, 1, 5, 9, 51, 52, 53, 60]) (kL := [9]) (fr' := [(0, aI a0), (1, aD (.slice (.pair tI (.pair tI tI))) a1), (5, aD (.slice (.pair tI (.pair tI tI))) r1.1), (9, .one (.ptr 9 0)), (51, aD (.slice (.pair tI (.pair tI tI))) r1.1), (52, aI (List.length r1.1 : Int)), (53, aI i50), (60, aB (v53.1 == (2 : Int)))]) (L' := [(9, .one (.pair tI (.pair tI tI)) v53)]) (obs := []) rfl (by kernel_rfl) allP0 ?_
              rcases Bool.eq_false_or_eq_true (v53.1 == (2 : Int)) with h62 | h62
              · replace h := ofT h62 h
                obtain ⟨v63, h64, h⟩ := bind_of h
                refine WO_run (j := 12) (k := 8) (orcs := [(8, .known true), (10, .known true), (12, .known true), (14, .known true), (15, .val (.dat (.pair tI (.pair tI tI)) v63)), (16, .known true), (18, .known true), (20, .known true), (23, .val (.dat .bool true))]) (kF := [0, 1, 5, 51, 52, 53, 68]) (kL := [9]) (fr' := [(0, aI a0), (1, aD (.slice (.pair tI (.pair tI tI))) a1), (5, aD (.slice (.pair tI (.pair tI tI))) r1.1), (51, aD (.slice (.pair tI (.pair tI tI))) r1.1), (52, aI (List.length r1.1 : Int)), (53, aI i50), (68, aB (v63.1 != (1 : Int)))]) (L' := [(9, .one (.pair tI (.pair tI tI)) v53)]) (obs := [((v53.1 == (2 : Int)) = true), ((v53.1 == (2 : Int)) = true), ((v53.1 == (2 : Int)) = true), ((v53.1 == (2 : Int)) = true), Idx r1.1 v53.2.1 v63, ((v53.1 == (2 : Int)) = true), ((v53.1 == (2 : Int)) = true), ((v53.1 == (2 : Int)) = true), ((v53.1 == (2 : Int)) = true)]) rfl (by kernel_rfl) (allP2 h62 (allP2 h62 (allP2 h62 (allP2 h62 (allP2 (Idx.of h64) (allP2 h62 (allP2 h62 (allP2 h62 (allP1 h62))))))))) ?_
                obtain rfl := Option.some.inj h
                refine WO_fin [0, 1, 5, 51, 52, 53, 68] [] (fr' := [(0, aI a0), (1, aD (.slice (.pair tI (.pair tI tI))) a1), (5, aD (.slice (.pair tI (.pair tI tI))) r1.1), (51, aD (.slice (.pair tI (.pair tI tI))) r1.1), (52, aI (List.length r1.1 : Int)), (53, aI i50), (68, aB (v63.1 != (1 : Int)))]) (L' := []) (by kernel_rfl) (by kernel_rfl) ?_
                exact exQ_mk (by kernel_rfl) (by kernel_rfl)
              · replace h := ofF h62 h
                refine WO_run (j := 12) (k := 8) (orcs := [(8, .known false), (10, .known false), (12, .known false), (14, .known false), (16, .known false), (18, .known false), (20, .known false), (23, .val (.dat .bool false))]) (kF := [0, 1, 5, 51, 52, 53, 68]) (kL := [9]) (fr' := [(0, aI a0), (1, aD (.slice (.pair tI (.pair tI tI))) a1), (5, aD (.slice (.pair tI (.pair tI tI))) r1.1), (51, aD (.slice (.pair tI (.pair tI tI))) r1.1), (52, aI (List.length r1.1 : Int)), (53, aI i50), (68, aB false)]) (L' := [(9, .one (.pair tI (.pair tI tI)) v53)]) (obs := [((v53.1 == (2 : Int)) = false), ((v53.1 == (2 : Int)) = false), ((v53.1 == (2 : Int)) = false), ((v53.1 == (2 : Int)) = false), ((v53.1 == (2 : Int)) = false), ((v53.1 == (2 : Int)) = false), ((v53.1 == (2 : Int)) = false), ((v53.1 == (2 : Int)) = false)]) rfl (by kernel_rfl) (allP2 h62 (allP2 h62 (allP2 h62 (allP2 h62 (allP2 h62 (allP2 h62 (allP2 h62 (allP1 h62)))))))) ?_
                obtain rfl := Option.some.inj h
                refine WO_fin [0, 1, 5, 51, 52, 53, 68] [] (fr' := [(0, aI a0), (1, aD (.slice (.pair tI (.pair tI tI))) a1), (5, aD (.slice (.pair tI (.pair tI tI))) r1.1), (51, aD (.slice (.pair tI (.pair tI tI))) r1.1), (52, aI (List.length r1.1 : Int)), (53, aI i50), (68, aB false)]) (L' := []) (by kernel_rfl) (by kernel_rfl) ?_
                exact exQ_mk (by kernel_rfl) (by kernel_rfl)
            · intro e fr L hJ
              obtain ⟨rfl, rfl, rfl⟩ := hJ
              refine LT_keep [0, 1, 5, 51, 52, 53, 68] [] (fr' := [(0, aI a0), (1, aD (.slice (.pair tI (.pair tI tI))) a1), (5, aD (.slice (.pair tI (.pair tI tI))) r1.1), (51, aD (.slice (.pair tI (.pair tI tI))) r1.1), (52, aI (List.length r1.1 : Int)), (53, aI i50), (68, aB v65)]) (L' := []) (by kernel_rfl) ?_
              refine seqQ_norm ?_
              refine W_cond (o := .tmp 68) (b := v65) (by kernel_rfl) (by kernel_rfl) (fun h67 => ?_) (fun h67 => ?_)
              · replace h := ofT h67 h
                refine W_seq (by kernel_rfl) ?_
                refine W_run 1 [] [4] [] (fr' := [(4, aB false)]) (L' := []) (obs := []) (by kernel_rfl) (by kernel_rfl) (by kernel_rfl) allP0 ?_
                refine seqQ_norm ?_
                obtain rfl := Option.some.inj h
                refine W_ret [4] [] (fr' := [(4, aB false)]) (L' := []) (by kernel_rfl) (by kernel_rfl) ?_
                refine blockQ_ret ?_
                refine seqQ_ret ?_
                refine round_ret ?_
                refine escQ_ret ?_
                exact exQ_mk (by kernel_rfl) (by kernel_rfl)
              · replace h := ofF h67 h
                refine W_skip [0, 1, 5, 51, 52, 53] [] (fr' := [(0, aI a0), (1, aD (.slice (.pair tI (.pair tI tI))) a1), (5, aD (.slice (.pair tI (.pair tI tI))) r1.1), (51, aD (.slice (.pair tI (.pair tI tI))) r1.1), (52, aI (List.length r1.1 : Int)), (53, aI i50)]) (L' := []) (by kernel_rfl) (by kernel_rfl) ?_
                refine blockQ_norm ?_
                refine seqQ_norm ?_
                obtain rfl := Option.some.inj h
                refine W_run 2 [] [0, 1, 5, 51, 52, 53] [] (fr' := [(0, aI a0), (1, aD (.slice (.pair tI (.pair tI tI))) a1), (5, aD (.slice (.pair tI (.pair tI tI))) r1.1), (51, aD (.slice (.pair tI (.pair tI tI))) r1.1), (52, aI (List.length r1.1 : Int)), (53, aI (w64 (i50 + (1 : Int))))]) (L' := []) (obs := []) (by kernel_rfl) (by kernel_rfl) (by kernel_rfl) allP0 ?_
                exact round_next' (by kernel_rfl) (by kernel_rfl)
          · obtain rfl := stepL_false h55 h
            refine W_exit (id := 0) [0, 1, 5] [] (fr' := [(0, aI a0), (1, aD (.slice (.pair tI (.pair tI tI))) a1), (5, aD (.slice (.pair tI (.pair tI tI))) r1.1)]) (L' := []) (by kernel_rfl) (by kernel_rfl) ?_
            refine seqQ_exit ?_
            refine round_exit ?_
            refine escQ_brk ?_
            exact exQ_mk (by kernel_rfl) (by kernel_rfl)
        · intro e fr L hJ
          rcases v69 with v74 | v75
          · obtain ⟨rfl, rfl, rfl⟩ := hJ
            obtain rfl := Option.some.inj h
            refine LT_keep [4] [] (fr' := [(4, aB v74)]) (L' := []) (by kernel_rfl) ?_
            refine blockQ_ret ?_
            refine seqQ_ret ?_
            exact retQ_mk (by kernel_rfl) (by kernel_rfl) (by kernel_rfl)
          · obtain ⟨rfl, rfl, rfl⟩ := hJ
            refine LT_keep [0, 1, 5] [] (fr' := [(0, aI a0), (1, aD (.slice (.pair tI (.pair tI tI))) a1), (5, aD (.slice (.pair tI (.pair tI tI))) r1.1)]) (L' := []) (by kernel_rfl) ?_
            refine blockQ_hit ?_
            refine seqQ_norm ?_
            refine W_seq (by kernel_rfl) ?_
            refine W_seq (by kernel_rfl) ?_
            refine W_run 1 [] [0, 1, 5, 10] [] (fr' := [(0, aI a0), (1, aD (.slice (.pair tI (.pair tI tI))) a1), (5, aD (.slice (.pair tI (.pair tI tI))) r1.1), (10, aI (0 : Int))]) (L' := []) (obs := []) (by kernel_rfl) (by kernel_rfl) (by kernel_rfl) allP0 ?_
            refine seqQ_norm ?_
            refine W_block (id := 2) (by kernel_rfl) ?_
            obtain ⟨v111, h112, h⟩ := bind_of h
            refine W_weaken [0, 1, 5, 10] [] (fr' := ((law_GateTurns_s10 a0 a1 r1) (0 : Int)).1) (L' := ((law_GateTurns_s10 a0 a1 r1) (0 : Int)).2) (by kernel_rfl) ?_
            refine W_cutK (W_loop (S := (law_GateTurns_s10 a0 a1 r1)) (J := (escQ (exQ .ret law_GateTurns_s11) (exQ (.exit 2) law_GateTurns_s12))) (by kernel_rfl) ?_ fuel _ v111 h112) ?_
            · rintro x88 s h
              refine W_seq (by kernel_rfl) ?_
              refine W_seq (by kernel_rfl) ?_
              obtain ⟨_, h100, h⟩ := bind_of h
              replace h100 := ck_some h100
              refine W_run 5 [] [0, 1, 5, 10, 74] [] (fr' := [(0, aI a0), (1, aD (.slice (.pair tI (.pair tI tI))) a1), (5, aD (.slice (.pair tI (.pair tI tI))) r1.1), (10, aI x88), (74, aB (decide (x88 < (bShl .i64 (1 : Int) (IntKind.wrap .u64 (a0))))))]) (L' := []) (obs := [(0 ≤ IntKind.wrap .u64 (a0))]) (by kernel_rfl) (by kernel_rfl) (by kernel_rfl) (allP1 h100) ?_
              refine seqQ_norm ?_
              refine W_cond (o := .tmp 74) (b := decide (x88 < (bShl .i64 (1 : Int) (IntKind.wrap .u64 (a0))))) (by kernel_rfl) (by kernel_rfl) (fun h101 => ?_) (fun h101 => ?_)
              · replace h := ofT h101 h
                refine W_skip [0, 1, 5, 10] [] (fr' := [(0, aI a0), (1, aD (.slice (.pair tI (.pair tI tI))) a1), (5, aD (.slice (.pair tI (.pair tI tI))) r1.1), (10, aI x88)]) (L' := []) (by kernel_rfl) (by kernel_rfl) ?_
                refine seqQ_norm ?_
                refine W_seq (by kernel_rfl) ?_
                refine W_block (id := 3) (by kernel_rfl) ?_
                refine W_seq (by kernel_rfl) ?_
                obtain ⟨r102, h103, h⟩ := bind_of h
                obtain ⟨v104, h105, h⟩ := bind_of h
                obtain ⟨r106, h107, h⟩ := bind_of h
                obtain ⟨v108, h109, h⟩ := bind_of h
                refine W_draw2 17 [(13, .val (.dat .bool v104)), (29, .val (.dat .bool v108))] [(2, [none, none], aD (.slice .bool) r102), (10, [none, none], aD (.slice .bool) r106)] [0, 1, 5, 10, 93] [] (fr' := [(0, aI a0), (1, aD (.slice (.pair tI (.pair tI tI))) a1), (5, aD (.slice (.pair tI (.pair tI tI))) r1.1), (10, aI x88), (93, aB (!(v104 == v108)))]) (L' := []) (out := [(77, aD (.slice (.pair tI (.pair tI tI))) a1), (78, aI x88), (79, aD (.slice .bool) r102), (80, aD (.slice (.pair tI (.pair tI tI))) a1), (81, aI (List.length a1 : Int)), (82, aI (w64 ((List.length a1 : Int) - (1 : Int)))), (83, .one (.dptr .bool v104)), (84, aB v104), (85, aD (.slice (.pair tI (.pair tI tI))) r1.1), (86, aI x88), (87, aD (.slice .bool) r106), (88, aD (.slice (.pair tI (.pair tI tI))) r1.1), (89, aI (List.length r1.1 : Int)), (90, aI (w64 ((List.length r1.1 : Int) - (1 : Int)))), (91, .one (.dptr .bool v108)), (92, aB v108), (93, aB (!(v104 == v108)))]) (obs := [True, Idx r102 (w64 ((List.length a1 : Int) - (1 : Int))) v104, True, Idx r106 (w64 ((List.length r1.1 : Int) - (1 : Int))) v108]) (obs2 := []) (calls := [(17, [aD (.slice (.pair tI (.pair tI tI))) a1, aI x88], aD (.slice .bool) r102), (17, [aD (.slice (.pair tI (.pair tI tI))) r1.1, aI x88], aD (.slice .bool) r106)]) (by kernel_rfl) (by kernel_rfl) (by kernel_rfl) (by kernel_rfl) (allP2 trivial (allP2 (Idx.of h105) (allP2 trivial (allP1 (Idx.of h109))))) (allC1 (by kernel_rfl) (ref_Gates_ok h103) (by kernel_rfl) (allC1 (by kernel_rfl) (ref_Gates_ok h107) (by kernel_rfl) allC0)) (by kernel_rfl) allP0 ?_
                refine seqQ_norm ?_
                refine W_cond (o := .tmp 93) (b := !(v104 == v108)) (by kernel_rfl) (by kernel_rfl) (fun h110 => ?_) (fun h110 => ?_)
                · replace h := ofT h110 h
                  refine W_seq (by kernel_rfl) ?_
                  refine W_run 1 [] [4] [] (fr' := [(4, aB false)]) (L' := []) (obs := []) (by kernel_rfl) (by kernel_rfl) (by kernel_rfl) allP0 ?_
                  refine seqQ_norm ?_
                  obtain rfl := Option.some.inj h
                  refine W_ret [4] [] (fr' := [(4, aB false)]) (L' := []) (by kernel_rfl) (by kernel_rfl) ?_
                  refine blockQ_ret ?_
                  refine seqQ_ret ?_
                  refine round_ret ?_
                  refine escQ_ret ?_
                  exact exQ_mk (by kernel_rfl) (by kernel_rfl)
                · replace h := ofF h110 h
                  refine W_skip [0, 1, 5, 10] [] (fr' := [(0, aI a0), (1, aD (.slice (.pair tI (.pair tI tI))) a1), (5, aD (.slice (.pair tI (.pair tI tI))) r1.1), (10, aI x88)]) (L' := []) (by kernel_rfl) (by kernel_rfl) ?_
                  refine blockQ_norm ?_
                  refine seqQ_norm ?_
                  obtain rfl := Option.some.inj h
                  refine W_run 3 [] [0, 1, 5, 10] [] (fr' := [(0, aI a0), (1, aD (.slice (.pair tI (.pair tI tI))) a1), (5, aD (.slice (.pair tI (.pair tI tI))) r1.1), (10, aI (w64 (x88 + (1 : Int))))]) (L' := []) (obs := []) (by kernel_rfl) (by kernel_rfl) (by kernel_rfl) allP0 ?_
                  exact round_next' (by kernel_rfl) (by kernel_rfl)
              · replace h := ofF h101 h
                obtain rfl := Option.some.inj h
                refine W_exit (id := 2) [] [] (fr' := []) (L' := []) (by kernel_rfl) (by kernel_rfl) ?_
                refine seqQ_exit ?_
                refine round_exit ?_
                refine escQ_brk ?_
                exact exQ_mk (by kernel_rfl) (by kernel_rfl)
            · intro e fr L hJ
              rcases v111 with v115 | v116
              · obtain ⟨rfl, rfl, rfl⟩ := hJ
                obtain rfl := Option.some.inj h
                refine LT_keep [4] [] (fr' := [(4, aB v115)]) (L' := []) (by kernel_rfl) ?_
                refine blockQ_ret ?_
                refine seqQ_ret ?_
                exact retQ_mk (by kernel_rfl) (by kernel_rfl) (by kernel_rfl)
              · obtain ⟨rfl, rfl, rfl⟩ := hJ
                refine LT_keep [] [] (fr' := []) (L' := []) (by kernel_rfl) ?_
                refine blockQ_hit ?_
                refine seqQ_norm ?_
                refine W_seq (by kernel_rfl) ?_
                refine W_run 1 [] [4] [] (fr' := [(4, aB true)]) (L' := []) (obs := []) (by kernel_rfl) (by kernel_rfl) (by kernel_rfl) allP0 ?_
                refine seqQ_norm ?_
                obtain rfl := Option.some.inj h
                refine W_ret [4] [] (fr' := [(4, aB true)]) (L' := []) (by kernel_rfl) (by kernel_rfl) ?_
                exact retQ_mk (by kernel_rfl) (by kernel_rfl) (by kernel_rfl)
end Go.Proofs.Ythjdegeajfhakaa.gateTurns
