/- What the functions that NameBuilds calls compute, as models, and that they compute it: written by a program of mine. -/
import Derived.Test.YtcallckeeohoaaaProg
import Derived.Test.YtcallckeeohoaaaSl4
set_option linter.all false
set_option maxRecDepth 100000
namespace Go.Proofs.Ytcallckeeohoaaa.nameBuilds
open Go Go.Sl
def gate_Wrong_1 (a0 : Int) (c0 : Int) : Option Bool :=
some ((decide (a0 ≥ (0 : Int))) && (decide (a0 < c0)))
theorem gate_Wrong_1_ok {a0 : Int} {c0 : Int} {r : Bool} (h : gate_Wrong_1 a0 c0 = some r) : FnC Try.prog 74 [aI a0, .one (.ptr 1000 0)] [(1000, .cells [.dat tI c0])] (aB r) [(1000, .cells [.dat tI c0])] := by
  refine fnC_of_W (B := bodyOf Try.f74) (n := 11) Try.func74 (by kernel_rfl) (by kernel_rfl) (by kernel_rfl) (by kernel_rfl) (by kernel_rfl) ?_
  intro K
  refine W_seq (by kernel_rfl) ?_
  refine W_run 1 [] [0, 1] [1000] (fr' := [(0, aI a0), (1, .one (.ptr 1000 0))]) (L' := [(1000, .cells [.dat tI c0])]) (obs := []) (by kernel_rfl) (by kernel_rfl) (by kernel_rfl) allP0 ?_
  refine seqQ_norm ?_
  refine W_seq (by kernel_rfl) ?_
  refine W_run 8 [] [3] [1000] (fr' := [(3, aB ((decide (a0 ≥ (0 : Int))) && (decide (a0 < c0))))]) (L' := [(1000, .cells [.dat tI c0])]) (obs := []) (by kernel_rfl) (by kernel_rfl) (by kernel_rfl) allP0 ?_
  refine seqQ_norm ?_
  obtain rfl := Option.some.inj h
  refine W_ret [3] [1000] (fr' := [(3, aB ((decide (a0 ≥ (0 : Int))) && (decide (a0 < c0))))]) (L' := [(1000, .cells [.dat tI c0])]) (by kernel_rfl) (by kernel_rfl) ?_
  exact retQ_mk (by kernel_rfl) (by kernel_rfl) (by kernel_rfl)

@[reducible] def gate_Wrong_s38 (a0 : Int) (a1 : (List (Int × (Int × Int)))) (i265 : Int) (v268 : (Int × (Int × Int))) (v : Bool) : Fr × LL := ([(0, aI a0), (6, .one (.ptr 6 0)), (7, .one (.fn 74 [(5, 0)])), (8, aD (.slice (.pair tI (.pair tI tI))) a1), (9, aI (List.length a1 : Int)), (10, aI i265), (40, aB v)], [(6, .one (.pair tI (.pair tI tI)) v268), (5, .cells [.dat tI i265])])
def gate_Wrong_g39 (i265 : Int) (v268 : (Int × (Int × Int))) : Option Bool :=
(bif decide (v268.1 > (1 : Int)) then
((gate_Wrong_1 v268.2.1 i265).bind fun r386 =>
some (!r386))
else
(some false)).bind fun v388 =>
bif v388 then
(some v388)
else
(bif decide (v268.1 > (2 : Int)) then
((gate_Wrong_1 v268.2.2 i265).bind fun r392 =>
some (!r392))
else
(some false))
@[reducible] def gate_Wrong_s40 (a0 : Int) (a1 : (List (Int × (Int × Int)))) (i265 : Int) (v : Bool) : Fr × LL := ([(0, aI a0), (8, aD (.slice (.pair tI (.pair tI tI))) a1), (9, aI (List.length a1 : Int)), (10, aI i265), (40, aB v)], [])
@[reducible] def gate_Wrong_s41 (a0 : Int) (a1 : (List (Int × (Int × Int)))) (i265 : Int) (v268 : (Int × (Int × Int))) (v : Bool) : Fr × LL := ([(0, aI a0), (6, .one (.ptr 6 0)), (7, .one (.fn 74 [(5, 0)])), (8, aD (.slice (.pair tI (.pair tI tI))) a1), (9, aI (List.length a1 : Int)), (10, aI i265), (25, aB v)], [(6, .one (.pair tI (.pair tI tI)) v268), (5, .cells [.dat tI i265])])
@[reducible] def gate_Wrong_s42 (a0 : Int) (a1 : (List (Int × (Int × Int)))) (i265 : Int) (v268 : (Int × (Int × Int))) (v : Bool) : Fr × LL := ([(0, aI a0), (6, .one (.ptr 6 0)), (7, .one (.fn 74 [(5, 0)])), (8, aD (.slice (.pair tI (.pair tI tI))) a1), (9, aI (List.length a1 : Int)), (10, aI i265), (16, aB v)], [(6, .one (.pair tI (.pair tI tI)) v268), (5, .cells [.dat tI i265])])
def gate_Wrong_b43 (a0 : Int) (i265 : Int) (v268 : (Int × (Int × Int))) (x266 : Unit) : Option (Flow Unit (Esc Int Unit)) :=
(bif decide (v268.1 < (1 : Int)) then
(some true)
else
(some (decide (v268.1 > (4 : Int))))).bind fun v337 =>
bif v337 then
(some (.done (.ret (6 : Int))))
else
((bif v268.1 == (1 : Int) then
(bif decide (v268.2.1 < (0 : Int)) then
(some true)
else
(some (decide (v268.2.1 ≥ a0))))
else
(some false)).bind fun v346 =>
bif v346 then
(some (.done (.ret (4 : Int))))
else
((gate_Wrong_g39 i265 v268).bind fun v394 =>
bif v394 then
(some (.done (.ret (2 : Int))))
else
(some (.next ()))))
@[reducible] def gate_Wrong_s44 (a0 : Int) (a1 : (List (Int × (Int × Int)))) (v : Int × Unit) : Fr × LL := ([(0, aI a0), (8, aD (.slice (.pair tI (.pair tI tI))) a1), (9, aI (List.length a1 : Int)), (10, aI v.1)], [])
@[reducible] def gate_Wrong_s45 (v : Int) : Fr × LL := ([(4, aI v)], [])
@[reducible] def gate_Wrong_s46 (v : Unit) : Fr × LL := ([], [])
def gate_Wrong (a0 : Int) (a1 : (List (Int × (Int × Int)))) : Option Int :=
(forL (gate_Wrong_b43 a0) (fun x266 => (.brk ())) a1 0 ()).bind fun v398 =>
match v398 with
| .ret v403 =>
(some v403)
| .brk v404 =>
(some (0 : Int))
theorem gate_Wrong_ok {a0 : Int} {a1 : (List (Int × (Int × Int)))} {r : Int} (h : gate_Wrong a0 a1 = some r) : FnC Try.prog 66 [aI a0, aD (.slice (.pair tI (.pair tI tI))) a1] [] (aI r) [] := by
  refine fnC_of_W (B := bodyOf Try.f66) (n := 62) Try.func66 (by kernel_rfl) (by kernel_rfl) (by kernel_rfl) (by kernel_rfl) (by kernel_rfl) ?_
  intro K
  refine W_seq (by kernel_rfl) ?_
  refine W_run 1 [] [0, 1] [] (fr' := [(0, aI a0), (1, aD (.slice (.pair tI (.pair tI tI))) a1)]) (L' := []) (obs := []) (by kernel_rfl) (by kernel_rfl) (by kernel_rfl) allP0 ?_
  refine seqQ_norm ?_
  refine W_seq (by kernel_rfl) ?_
  refine W_seq (by kernel_rfl) ?_
  refine W_run 3 [] [0, 8, 9, 10] [] (fr' := [(0, aI a0), (8, aD (.slice (.pair tI (.pair tI tI))) a1), (9, aI (List.length a1 : Int)), (10, aI (0 : Int))]) (L' := []) (obs := []) (by kernel_rfl) (by kernel_rfl) (by kernel_rfl) allP0 ?_
  refine seqQ_norm ?_
  refine W_block (id := 0) (by kernel_rfl) ?_
  obtain ⟨v398, h399, h⟩ := bind_of h
  refine W_len (t := 8) (u := (.pair tI (.pair tI tI))) (xs := a1) (by kernel_rfl) (fun h402 => ?_)
  obtain ⟨h400, h401⟩ := forL_iter h402 h399
  refine W_weaken [0, 8, 9, 10] [] (fr' := ((gate_Wrong_s44 a0 a1) ((0 : Int), ())).1) (L' := ((gate_Wrong_s44 a0 a1) ((0 : Int), ())).2) (by kernel_rfl) ?_
  refine W_cutK (W_loop (S := (gate_Wrong_s44 a0 a1)) (J := (escQ (exQ .ret gate_Wrong_s45) (exQ (.exit 0) gate_Wrong_s46))) (by kernel_rfl) ?_ h400 _ v398 h401) ?_
  · rintro ⟨i265, x266⟩ s h
    refine W_seq (by kernel_rfl) ?_
    refine W_run 1 [] [0, 8, 9, 10, 11] [] (fr' := [(0, aI a0), (8, aD (.slice (.pair tI (.pair tI tI))) a1), (9, aI (List.length a1 : Int)), (10, aI i265), (11, aB (decide (i265 < (List.length a1 : Int))))]) (L' := []) (obs := []) (by kernel_rfl) (by kernel_rfl) (by kernel_rfl) allP0 ?_
    refine seqQ_norm ?_
    refine W_seq (by kernel_rfl) ?_
    refine W_cond (o := .tmp 11) (b := decide (i265 < (List.length a1 : Int))) (by kernel_rfl) (by kernel_rfl) (fun h270 => ?_) (fun h270 => ?_)
    · replace h := stepL_true h270 h
      obtain ⟨v268, _, h269, h, rfl⟩ := h
      refine W_skip [0, 8, 9, 10] [] (fr' := [(0, aI a0), (8, aD (.slice (.pair tI (.pair tI tI))) a1), (9, aI (List.length a1 : Int)), (10, aI i265)]) (L' := []) (by kernel_rfl) (by kernel_rfl) ?_
      refine seqQ_norm ?_
      refine W_seq (by kernel_rfl) ?_
      refine W_block (id := 1) (by kernel_rfl) ?_
      refine W_seq (by kernel_rfl) ?_
      refine W_run 7 [(3, .val (.dat (.pair tI (.pair tI tI)) v268)), (9, .typed)] [0, 5, 6, 8, 9, 10] [5, 6] (fr' := [(0, aI a0), (5, .one (.ptr 5 0)), (6, .one (.ptr 6 0)), (8, aD (.slice (.pair tI (.pair tI tI))) a1), (9, aI (List.length a1 : Int)), (10, aI i265)]) (L' := [(5, .cells [.dat tI i265]), (6, .one (.pair tI (.pair tI tI)) v268)]) (obs := [Idx a1 i265 v268, True, True]) (by kernel_rfl) (by kernel_rfl) (by kernel_rfl) (allP2 (Idx.of h269) (allP2 trivial (allP1 trivial))) ?_
      refine seqQ_norm ?_
      refine W_seq (by kernel_rfl) ?_
      refine W_run 2 [] [0, 6, 7, 8, 9, 10] [6, 5] (fr' := [(0, aI a0), (6, .one (.ptr 6 0)), (7, .one (.fn 74 [(5, 0)])), (8, aD (.slice (.pair tI (.pair tI tI))) a1), (9, aI (List.length a1 : Int)), (10, aI i265)]) (L' := [(6, .one (.pair tI (.pair tI tI)) v268), (5, .cells [.dat tI i265])]) (obs := []) (by kernel_rfl) (by kernel_rfl) (by kernel_rfl) allP0 ?_
      refine seqQ_norm ?_
      refine W_block (id := 2) (by kernel_rfl) ?_
      refine W_seq (by kernel_rfl) ?_
      obtain ⟨v337, h338, h⟩ := bind_of h
      refine W_cutK (Q' := (exQ .normal (gate_Wrong_s42 a0 a1 i265 v268)) v337) ?_ ?_
      · replace h := h338
        refine W_region (by kernel_rfl) ?_
        refine WO_run (j := 4) (k := 4) (orcs := []) (kF := [0, 6, 7, 8, 9, 10, 20]) (kL := [5, 6]) (fr' := [(0, aI a0), (6, .one (.ptr 6 0)), (7, .one (.fn 74 [(5, 0)])), (8, aD (.slice (.pair tI (.pair tI tI))) a1), (9, aI (List.length a1 : Int)), (10, aI i265), (20, aB (decide (v268.1 < (1 : Int))))]) (L' := [(5, .cells [.dat tI i265]), (6, .one (.pair tI (.pair tI tI)) v268)]) (obs := []) rfl (by kernel_rfl) allP0 ?_
        rcases Bool.eq_false_or_eq_true (decide (v268.1 < (1 : Int))) with h336 | h336
        · replace h := ofT h336 h
          refine WO_run (j := 9) (k := 5) (orcs := [(8, .known true), (10, .known true), (12, .known true), (15, .val (.dat .bool true))]) (kF := [0, 6, 7, 8, 9, 10, 16]) (kL := [5, 6]) (fr' := [(0, aI a0), (6, .one (.ptr 6 0)), (7, .one (.fn 74 [(5, 0)])), (8, aD (.slice (.pair tI (.pair tI tI))) a1), (9, aI (List.length a1 : Int)), (10, aI i265), (16, aB true)]) (L' := [(5, .cells [.dat tI i265]), (6, .one (.pair tI (.pair tI tI)) v268)]) (obs := [((decide (v268.1 < (1 : Int))) = true), ((decide (v268.1 < (1 : Int))) = true), ((decide (v268.1 < (1 : Int))) = true), ((decide (v268.1 < (1 : Int))) = true)]) rfl (by kernel_rfl) (allP2 h336 (allP2 h336 (allP2 h336 (allP1 h336)))) ?_
          obtain rfl := Option.some.inj h
          refine WO_fin [0, 6, 7, 8, 9, 10, 16] [6, 5] (fr' := [(0, aI a0), (6, .one (.ptr 6 0)), (7, .one (.fn 74 [(5, 0)])), (8, aD (.slice (.pair tI (.pair tI tI))) a1), (9, aI (List.length a1 : Int)), (10, aI i265), (16, aB true)]) (L' := [(6, .one (.pair tI (.pair tI tI)) v268), (5, .cells [.dat tI i265])]) (by kernel_rfl) (by kernel_rfl) ?_
          exact exQ_mk (by kernel_rfl) (by kernel_rfl)
        · replace h := ofF h336 h
          refine WO_run (j := 9) (k := 5) (orcs := [(8, .known false), (10, .known false), (12, .known false), (15, .val (.dat .bool false))]) (kF := [0, 6, 7, 8, 9, 10, 16]) (kL := [5, 6]) (fr' := [(0, aI a0), (6, .one (.ptr 6 0)), (7, .one (.fn 74 [(5, 0)])), (8, aD (.slice (.pair tI (.pair tI tI))) a1), (9, aI (List.length a1 : Int)), (10, aI i265), (16, aB (decide (v268.1 > (4 : Int))))]) (L' := [(5, .cells [.dat tI i265]), (6, .one (.pair tI (.pair tI tI)) v268)]) (obs := [((decide (v268.1 < (1 : Int))) = false), ((decide (v268.1 < (1 : Int))) = false), ((decide (v268.1 < (1 : Int))) = false), ((decide (v268.1 < (1 : Int))) = false)]) rfl (by kernel_rfl) (allP2 h336 (allP2 h336 (allP2 h336 (allP1 h336)))) ?_
          obtain rfl := Option.some.inj h
          refine WO_fin [0, 6, 7, 8, 9, 10, 16] [6, 5] (fr' := [(0, aI a0), (6, .one (.ptr 6 0)), (7, .one (.fn 74 [(5, 0)])), (8, aD (.slice (.pair tI (.pair tI tI))) a1), (9, aI (List.length a1 : Int)), (10, aI i265), (16, aB (decide (v268.1 > (4 : Int))))]) (L' := [(6, .one (.pair tI (.pair tI tI)) v268), (5, .cells [.dat tI i265])]) (by kernel_rfl) (by kernel_rfl) ?_
          exact exQ_mk (by kernel_rfl) (by kernel_rfl)
      · intro e fr L hJ
        obtain ⟨rfl, rfl, rfl⟩ := hJ
        refine LT_keep [0, 6, 7, 8, 9, 10, 16] [6, 5] (fr' := [(0, aI a0), (6, .one (.ptr 6 0)), (7, .one (.fn 74 [(5, 0)])), (8, aD (.slice (.pair tI (.pair tI tI))) a1), (9, aI (List.length a1 : Int)), (10, aI i265), (16, aB v337)]) (L' := [(6, .one (.pair tI (.pair tI tI)) v268), (5, .cells [.dat tI i265])]) (by kernel_rfl) ?_
        refine seqQ_norm ?_
        refine W_cond (o := .tmp 16) (b := v337) (by kernel_rfl) (by kernel_rfl) (fun h339 => ?_) (fun h339 => ?_)
        · replace h := ofT h339 h
          refine W_seq (by kernel_rfl) ?_
          refine W_run 1 [] [4] [] (fr' := [(4, aI (6 : Int))]) (L' := []) (obs := []) (by kernel_rfl) (by kernel_rfl) (by kernel_rfl) allP0 ?_
          refine seqQ_norm ?_
          obtain rfl := Option.some.inj h
          refine W_ret [4] [] (fr' := [(4, aI (6 : Int))]) (L' := []) (by kernel_rfl) (by kernel_rfl) ?_
          refine blockQ_ret ?_
          refine blockQ_ret ?_
          refine seqQ_ret ?_
          refine round_ret ?_
          refine escQ_ret ?_
          exact exQ_mk (by kernel_rfl) (by kernel_rfl)
        · replace h := ofF h339 h
          refine W_seq (by kernel_rfl) ?_
          obtain ⟨v346, h347, h⟩ := bind_of h
          refine W_cutK (Q' := (exQ .normal (gate_Wrong_s41 a0 a1 i265 v268)) v346) ?_ ?_
          · replace h := h347
            refine W_region (by kernel_rfl) ?_
            refine WO_run (j := 4) (k := 4) (orcs := []) (kF := [0, 6, 7, 8, 9, 10, 29]) (kL := [5, 6]) (fr' := [(0, aI a0), (6, .one (.ptr 6 0)), (7, .one (.fn 74 [(5, 0)])), (8, aD (.slice (.pair tI (.pair tI tI))) a1), (9, aI (List.length a1 : Int)), (10, aI i265), (29, aB (v268.1 == (1 : Int)))]) (L' := [(5, .cells [.dat tI i265]), (6, .one (.pair tI (.pair tI tI)) v268)]) (obs := []) rfl (by kernel_rfl) allP0 ?_
            rcases Bool.eq_false_or_eq_true (v268.1 == (1 : Int)) with h344 | h344
            · replace h := ofT h344 h
              refine WO_run (j := 8) (k := 4) (orcs := [(8, .known true), (10, .known true), (12, .known true), (14, .known true)]) (kF := [0, 6, 7, 8, 9, 10, 29, 33]) (kL := [5, 6]) (fr' := [(0, aI a0), (6, .one (.ptr 6 0)), (7, .one (.fn 74 [(5, 0)])), (8, aD (.slice (.pair tI (.pair tI tI))) a1), (9, aI (List.length a1 : Int)), (10, aI i265), (29, aB (v268.1 == (1 : Int))), (33, aB (decide (v268.2.1 < (0 : Int))))]) (L' := [(5, .cells [.dat tI i265]), (6, .one (.pair tI (.pair tI tI)) v268)]) (obs := [((v268.1 == (1 : Int)) = true), ((v268.1 == (1 : Int)) = true), ((v268.1 == (1 : Int)) = true), ((v268.1 == (1 : Int)) = true)]) rfl (by kernel_rfl) (allP2 h344 (allP2 h344 (allP2 h344 (allP1 h344)))) ?_
              rcases Bool.eq_false_or_eq_true (decide (v268.2.1 < (0 : Int))) with h345 | h345
              · replace h := ofT h345 h
                refine WO_run (j := 15) (k := 7) (orcs := [(16, .known true), (18, .known true), (20, .known true), (22, .known true), (24, .known true), (25, .val (.dat .bool true)), (27, .val (.dat .bool true))]) (kF := [0, 6, 7, 8, 9, 10, 25]) (kL := [5, 6]) (fr' := [(0, aI a0), (6, .one (.ptr 6 0)), (7, .one (.fn 74 [(5, 0)])), (8, aD (.slice (.pair tI (.pair tI tI))) a1), (9, aI (List.length a1 : Int)), (10, aI i265), (25, aB true)]) (L' := [(5, .cells [.dat tI i265]), (6, .one (.pair tI (.pair tI tI)) v268)]) (obs := [((decide (v268.2.1 < (0 : Int))) = true), ((decide (v268.2.1 < (0 : Int))) = true), ((decide (v268.2.1 < (0 : Int))) = true), ((decide (v268.2.1 < (0 : Int))) = true), ((v268.1 == (1 : Int)) = true), ((decide (v268.2.1 < (0 : Int))) = true), ((v268.1 == (1 : Int)) = true)]) rfl (by kernel_rfl) (allP2 h345 (allP2 h345 (allP2 h345 (allP2 h345 (allP2 h344 (allP2 h345 (allP1 h344))))))) ?_
                obtain rfl := Option.some.inj h
                refine WO_fin [0, 6, 7, 8, 9, 10, 25] [6, 5] (fr' := [(0, aI a0), (6, .one (.ptr 6 0)), (7, .one (.fn 74 [(5, 0)])), (8, aD (.slice (.pair tI (.pair tI tI))) a1), (9, aI (List.length a1 : Int)), (10, aI i265), (25, aB true)]) (L' := [(6, .one (.pair tI (.pair tI tI)) v268), (5, .cells [.dat tI i265])]) (by kernel_rfl) (by kernel_rfl) ?_
                exact exQ_mk (by kernel_rfl) (by kernel_rfl)
              · replace h := ofF h345 h
                refine WO_run (j := 15) (k := 7) (orcs := [(16, .known false), (18, .known false), (20, .known false), (22, .known false), (24, .known true), (25, .val (.dat .bool false)), (27, .val (.dat .bool true))]) (kF := [0, 6, 7, 8, 9, 10, 25]) (kL := [5, 6]) (fr' := [(0, aI a0), (6, .one (.ptr 6 0)), (7, .one (.fn 74 [(5, 0)])), (8, aD (.slice (.pair tI (.pair tI tI))) a1), (9, aI (List.length a1 : Int)), (10, aI i265), (25, aB (decide (v268.2.1 ≥ a0)))]) (L' := [(5, .cells [.dat tI i265]), (6, .one (.pair tI (.pair tI tI)) v268)]) (obs := [((decide (v268.2.1 < (0 : Int))) = false), ((decide (v268.2.1 < (0 : Int))) = false), ((decide (v268.2.1 < (0 : Int))) = false), ((decide (v268.2.1 < (0 : Int))) = false), ((v268.1 == (1 : Int)) = true), ((decide (v268.2.1 < (0 : Int))) = false), ((v268.1 == (1 : Int)) = true)]) rfl (by kernel_rfl) (allP2 h345 (allP2 h345 (allP2 h345 (allP2 h345 (allP2 h344 (allP2 h345 (allP1 h344))))))) ?_
                obtain rfl := Option.some.inj h
                refine WO_fin [0, 6, 7, 8, 9, 10, 25] [6, 5] (fr' := [(0, aI a0), (6, .one (.ptr 6 0)), (7, .one (.fn 74 [(5, 0)])), (8, aD (.slice (.pair tI (.pair tI tI))) a1), (9, aI (List.length a1 : Int)), (10, aI i265), (25, aB (decide (v268.2.1 ≥ a0)))]) (L' := [(6, .one (.pair tI (.pair tI tI)) v268), (5, .cells [.dat tI i265])]) (by kernel_rfl) (by kernel_rfl) ?_
                exact exQ_mk (by kernel_rfl) (by kernel_rfl)
            · replace h := ofF h344 h
              refine WO_run (j := 15) (k := 11) (orcs := [(8, .known false), (10, .known false), (12, .known false), (14, .known false), (16, .known true), (18, .known true), (20, .known true), (22, .known true), (24, .known false), (27, .val (.dat .bool false))]) (kF := [0, 6, 7, 8, 9, 10, 25]) (kL := [5, 6]) (fr' := [(0, aI a0), (6, .one (.ptr 6 0)), (7, .one (.fn 74 [(5, 0)])), (8, aD (.slice (.pair tI (.pair tI tI))) a1), (9, aI (List.length a1 : Int)), (10, aI i265), (25, aB false)]) (L' := [(5, .cells [.dat tI i265]), (6, .one (.pair tI (.pair tI tI)) v268)]) (obs := [((v268.1 == (1 : Int)) = false), ((v268.1 == (1 : Int)) = false), ((v268.1 == (1 : Int)) = false), ((v268.1 == (1 : Int)) = false), ((v268.1 == (1 : Int)) = false), ((v268.1 == (1 : Int)) = false)]) rfl (by kernel_rfl) (allP2 h344 (allP2 h344 (allP2 h344 (allP2 h344 (allP2 h344 (allP1 h344)))))) ?_
              obtain rfl := Option.some.inj h
              refine WO_fin [0, 6, 7, 8, 9, 10, 25] [6, 5] (fr' := [(0, aI a0), (6, .one (.ptr 6 0)), (7, .one (.fn 74 [(5, 0)])), (8, aD (.slice (.pair tI (.pair tI tI))) a1), (9, aI (List.length a1 : Int)), (10, aI i265), (25, aB false)]) (L' := [(6, .one (.pair tI (.pair tI tI)) v268), (5, .cells [.dat tI i265])]) (by kernel_rfl) (by kernel_rfl) ?_
              exact exQ_mk (by kernel_rfl) (by kernel_rfl)
          · intro e fr L hJ
            obtain ⟨rfl, rfl, rfl⟩ := hJ
            refine LT_keep [0, 6, 7, 8, 9, 10, 25] [6, 5] (fr' := [(0, aI a0), (6, .one (.ptr 6 0)), (7, .one (.fn 74 [(5, 0)])), (8, aD (.slice (.pair tI (.pair tI tI))) a1), (9, aI (List.length a1 : Int)), (10, aI i265), (25, aB v346)]) (L' := [(6, .one (.pair tI (.pair tI tI)) v268), (5, .cells [.dat tI i265])]) (by kernel_rfl) ?_
            refine seqQ_norm ?_
            refine W_cond (o := .tmp 25) (b := v346) (by kernel_rfl) (by kernel_rfl) (fun h348 => ?_) (fun h348 => ?_)
            · replace h := ofT h348 h
              refine W_seq (by kernel_rfl) ?_
              refine W_run 1 [] [4] [] (fr' := [(4, aI (4 : Int))]) (L' := []) (obs := []) (by kernel_rfl) (by kernel_rfl) (by kernel_rfl) allP0 ?_
              refine seqQ_norm ?_
              obtain rfl := Option.some.inj h
              refine W_ret [4] [] (fr' := [(4, aI (4 : Int))]) (L' := []) (by kernel_rfl) (by kernel_rfl) ?_
              refine blockQ_ret ?_
              refine blockQ_ret ?_
              refine seqQ_ret ?_
              refine round_ret ?_
              refine escQ_ret ?_
              exact exQ_mk (by kernel_rfl) (by kernel_rfl)
            · replace h := ofF h348 h
              refine W_seq (by kernel_rfl) ?_
              obtain ⟨v394, h395, h⟩ := bind_of h
              refine W_cutK (Q' := (exQ .normal (gate_Wrong_s40 a0 a1 i265)) v394) ?_ ?_
              · replace h := h395
                refine W_seq (by kernel_rfl) ?_
                obtain ⟨v388, h389, h⟩ := bind_of h
                refine W_cutK (Q' := (exQ .normal (gate_Wrong_s38 a0 a1 i265 v268)) v388) ?_ ?_
                · replace h := h389
                  refine W_region (by kernel_rfl) ?_
                  refine WO_run (j := 4) (k := 4) (orcs := []) (kF := [0, 6, 7, 8, 9, 10, 44]) (kL := [5, 6]) (fr' := [(0, aI a0), (6, .one (.ptr 6 0)), (7, .one (.fn 74 [(5, 0)])), (8, aD (.slice (.pair tI (.pair tI tI))) a1), (9, aI (List.length a1 : Int)), (10, aI i265), (44, aB (decide (v268.1 > (1 : Int))))]) (L' := [(5, .cells [.dat tI i265]), (6, .one (.pair tI (.pair tI tI)) v268)]) (obs := []) rfl (by kernel_rfl) allP0 ?_
                  rcases Bool.eq_false_or_eq_true (decide (v268.1 > (1 : Int))) with h385 | h385
                  · replace h := ofT h385 h
                    refine WO_run (j := 7) (k := 3) (orcs := [(8, .known true), (10, .known true), (12, .known true)]) (kF := [0, 6, 7, 8, 9, 10, 44, 45, 47]) (kL := [5, 6]) (fr' := [(0, aI a0), (6, .one (.ptr 6 0)), (7, .one (.fn 74 [(5, 0)])), (8, aD (.slice (.pair tI (.pair tI tI))) a1), (9, aI (List.length a1 : Int)), (10, aI i265), (44, aB (decide (v268.1 > (1 : Int)))), (45, .one (.fn 74 [(5, 0)])), (47, aI v268.2.1)]) (L' := [(5, .cells [.dat tI i265]), (6, .one (.pair tI (.pair tI tI)) v268)]) (obs := [((decide (v268.1 > (1 : Int))) = true), ((decide (v268.1 > (1 : Int))) = true), ((decide (v268.1 > (1 : Int))) = true)]) rfl (by kernel_rfl) (allP2 h385 (allP2 h385 (allP1 h385))) ?_
                    obtain ⟨r386, h387, h⟩ := bind_of h
                    refine WO_lend [(1000, 5)] (us := [none, none]) (d := 48) (p := ((decide (v268.1 > (1 : Int))) = true)) (j := 8) rfl ⟨by kernel_rfl, by kernel_rfl, by kernel_rfl⟩ h385 (gate_Wrong_1_ok h387) (by kernel_rfl) (by kernel_rfl) ?_
                    refine WO_run (j := 11) (k := 3) (orcs := [(16, .known true), (19, .val (.dat .bool true))]) (kF := [0, 6, 7, 8, 9, 10, 40]) (kL := [5, 6]) (fr' := [(0, aI a0), (6, .one (.ptr 6 0)), (7, .one (.fn 74 [(5, 0)])), (8, aD (.slice (.pair tI (.pair tI tI))) a1), (9, aI (List.length a1 : Int)), (10, aI i265), (40, aB (!r386))]) (L' := [(5, .cells [.dat tI i265]), (6, .one (.pair tI (.pair tI tI)) v268)]) (obs := [((decide (v268.1 > (1 : Int))) = true), ((decide (v268.1 > (1 : Int))) = true)]) rfl (by kernel_rfl) (allP2 h385 (allP1 h385)) ?_
                    obtain rfl := Option.some.inj h
                    refine WO_fin [0, 6, 7, 8, 9, 10, 40] [6, 5] (fr' := [(0, aI a0), (6, .one (.ptr 6 0)), (7, .one (.fn 74 [(5, 0)])), (8, aD (.slice (.pair tI (.pair tI tI))) a1), (9, aI (List.length a1 : Int)), (10, aI i265), (40, aB (!r386))]) (L' := [(6, .one (.pair tI (.pair tI tI)) v268), (5, .cells [.dat tI i265])]) (by kernel_rfl) (by kernel_rfl) ?_
                    exact exQ_mk (by kernel_rfl) (by kernel_rfl)
                  · replace h := ofF h385 h
                    refine WO_run (j := 11) (k := 7) (orcs := [(8, .known false), (10, .known false), (12, .known false), (14, .known false), (16, .known false), (19, .val (.dat .bool false))]) (kF := [0, 6, 7, 8, 9, 10, 40]) (kL := [5, 6]) (fr' := [(0, aI a0), (6, .one (.ptr 6 0)), (7, .one (.fn 74 [(5, 0)])), (8, aD (.slice (.pair tI (.pair tI tI))) a1), (9, aI (List.length a1 : Int)), (10, aI i265), (40, aB false)]) (L' := [(5, .cells [.dat tI i265]), (6, .one (.pair tI (.pair tI tI)) v268)]) (obs := [((decide (v268.1 > (1 : Int))) = false), ((decide (v268.1 > (1 : Int))) = false), ((decide (v268.1 > (1 : Int))) = false), ((decide (v268.1 > (1 : Int))) = false), ((decide (v268.1 > (1 : Int))) = false), ((decide (v268.1 > (1 : Int))) = false)]) rfl (by kernel_rfl) (allP2 h385 (allP2 h385 (allP2 h385 (allP2 h385 (allP2 h385 (allP1 h385)))))) ?_
                    obtain rfl := Option.some.inj h
                    refine WO_fin [0, 6, 7, 8, 9, 10, 40] [6, 5] (fr' := [(0, aI a0), (6, .one (.ptr 6 0)), (7, .one (.fn 74 [(5, 0)])), (8, aD (.slice (.pair tI (.pair tI tI))) a1), (9, aI (List.length a1 : Int)), (10, aI i265), (40, aB false)]) (L' := [(6, .one (.pair tI (.pair tI tI)) v268), (5, .cells [.dat tI i265])]) (by kernel_rfl) (by kernel_rfl) ?_
                    exact exQ_mk (by kernel_rfl) (by kernel_rfl)
                · intro e fr L hJ
                  obtain ⟨rfl, rfl, rfl⟩ := hJ
                  refine LT_keep [0, 6, 7, 8, 9, 10, 40] [6, 5] (fr' := [(0, aI a0), (6, .one (.ptr 6 0)), (7, .one (.fn 74 [(5, 0)])), (8, aD (.slice (.pair tI (.pair tI tI))) a1), (9, aI (List.length a1 : Int)), (10, aI i265), (40, aB v388)]) (L' := [(6, .one (.pair tI (.pair tI tI)) v268), (5, .cells [.dat tI i265])]) (by kernel_rfl) ?_
                  refine seqQ_norm ?_
                  refine W_cond (o := .tmp 40) (b := v388) (by kernel_rfl) (by kernel_rfl) (fun h390 => ?_) (fun h390 => ?_)
                  · replace h := ofT h390 h
                    obtain rfl := Option.some.inj h
                    refine W_skip [0, 8, 9, 10, 40] [] (fr' := [(0, aI a0), (8, aD (.slice (.pair tI (.pair tI tI))) a1), (9, aI (List.length a1 : Int)), (10, aI i265), (40, aB v388)]) (L' := []) (by kernel_rfl) (by kernel_rfl) ?_
                    exact exQ_mk (by kernel_rfl) (by kernel_rfl)
                  · replace h := ofF h390 h
                    refine W_region (by kernel_rfl) ?_
                    refine WO_run (j := 4) (k := 4) (orcs := []) (kF := [0, 6, 7, 8, 9, 10, 40, 54]) (kL := [5, 6]) (fr' := [(0, aI a0), (6, .one (.ptr 6 0)), (7, .one (.fn 74 [(5, 0)])), (8, aD (.slice (.pair tI (.pair tI tI))) a1), (9, aI (List.length a1 : Int)), (10, aI i265), (40, aB v388), (54, aB (decide (v268.1 > (2 : Int))))]) (L' := [(5, .cells [.dat tI i265]), (6, .one (.pair tI (.pair tI tI)) v268)]) (obs := []) rfl (by kernel_rfl) allP0 ?_
                    rcases Bool.eq_false_or_eq_true (decide (v268.1 > (2 : Int))) with h391 | h391
                    · replace h := ofT h391 h
                      refine WO_run (j := 7) (k := 3) (orcs := [(8, .known true), (10, .known true), (12, .known true)]) (kF := [0, 8, 9, 10, 40, 54, 55, 57]) (kL := [5, 6]) (fr' := [(0, aI a0), (8, aD (.slice (.pair tI (.pair tI tI))) a1), (9, aI (List.length a1 : Int)), (10, aI i265), (40, aB v388), (54, aB (decide (v268.1 > (2 : Int)))), (55, .one (.fn 74 [(5, 0)])), (57, aI v268.2.2)]) (L' := [(5, .cells [.dat tI i265]), (6, .one (.pair tI (.pair tI tI)) v268)]) (obs := [((decide (v268.1 > (2 : Int))) = true), ((decide (v268.1 > (2 : Int))) = true), ((decide (v268.1 > (2 : Int))) = true)]) rfl (by kernel_rfl) (allP2 h391 (allP2 h391 (allP1 h391))) ?_
                      obtain ⟨r392, h393, h⟩ := bind_of h
                      refine WO_lend [(1000, 5)] (us := [none, none]) (d := 58) (p := ((decide (v268.1 > (2 : Int))) = true)) (j := 8) rfl ⟨by kernel_rfl, by kernel_rfl, by kernel_rfl⟩ h391 (gate_Wrong_1_ok h393) (by kernel_rfl) (by kernel_rfl) ?_
                      refine WO_run (j := 11) (k := 3) (orcs := [(16, .known true), (19, .val (.dat .bool true))]) (kF := [0, 8, 9, 10, 40]) (kL := [5, 6]) (fr' := [(0, aI a0), (8, aD (.slice (.pair tI (.pair tI tI))) a1), (9, aI (List.length a1 : Int)), (10, aI i265), (40, aB (!r392))]) (L' := [(5, .cells [.dat tI i265]), (6, .one (.pair tI (.pair tI tI)) v268)]) (obs := [((decide (v268.1 > (2 : Int))) = true), ((decide (v268.1 > (2 : Int))) = true)]) rfl (by kernel_rfl) (allP2 h391 (allP1 h391)) ?_
                      obtain rfl := Option.some.inj h
                      refine WO_fin [0, 8, 9, 10, 40] [] (fr' := [(0, aI a0), (8, aD (.slice (.pair tI (.pair tI tI))) a1), (9, aI (List.length a1 : Int)), (10, aI i265), (40, aB (!r392))]) (L' := []) (by kernel_rfl) (by kernel_rfl) ?_
                      exact exQ_mk (by kernel_rfl) (by kernel_rfl)
                    · replace h := ofF h391 h
                      refine WO_run (j := 11) (k := 7) (orcs := [(8, .known false), (10, .known false), (12, .known false), (14, .known false), (16, .known false), (19, .val (.dat .bool false))]) (kF := [0, 8, 9, 10, 40]) (kL := [5, 6]) (fr' := [(0, aI a0), (8, aD (.slice (.pair tI (.pair tI tI))) a1), (9, aI (List.length a1 : Int)), (10, aI i265), (40, aB false)]) (L' := [(5, .cells [.dat tI i265]), (6, .one (.pair tI (.pair tI tI)) v268)]) (obs := [((decide (v268.1 > (2 : Int))) = false), ((decide (v268.1 > (2 : Int))) = false), ((decide (v268.1 > (2 : Int))) = false), ((decide (v268.1 > (2 : Int))) = false), ((decide (v268.1 > (2 : Int))) = false), ((decide (v268.1 > (2 : Int))) = false)]) rfl (by kernel_rfl) (allP2 h391 (allP2 h391 (allP2 h391 (allP2 h391 (allP2 h391 (allP1 h391)))))) ?_
                      obtain rfl := Option.some.inj h
                      refine WO_fin [0, 8, 9, 10, 40] [] (fr' := [(0, aI a0), (8, aD (.slice (.pair tI (.pair tI tI))) a1), (9, aI (List.length a1 : Int)), (10, aI i265), (40, aB false)]) (L' := []) (by kernel_rfl) (by kernel_rfl) ?_
                      exact exQ_mk (by kernel_rfl) (by kernel_rfl)
              · intro e fr L hJ
                obtain ⟨rfl, rfl, rfl⟩ := hJ
                refine LT_keep [0, 8, 9, 10, 40] [] (fr' := [(0, aI a0), (8, aD (.slice (.pair tI (.pair tI tI))) a1), (9, aI (List.length a1 : Int)), (10, aI i265), (40, aB v394)]) (L' := []) (by kernel_rfl) ?_
                refine seqQ_norm ?_
                refine W_cond (o := .tmp 40) (b := v394) (by kernel_rfl) (by kernel_rfl) (fun h396 => ?_) (fun h396 => ?_)
                · replace h := ofT h396 h
                  refine W_seq (by kernel_rfl) ?_
                  refine W_run 1 [] [4] [] (fr' := [(4, aI (2 : Int))]) (L' := []) (obs := []) (by kernel_rfl) (by kernel_rfl) (by kernel_rfl) allP0 ?_
                  refine seqQ_norm ?_
                  obtain rfl := Option.some.inj h
                  refine W_ret [4] [] (fr' := [(4, aI (2 : Int))]) (L' := []) (by kernel_rfl) (by kernel_rfl) ?_
                  refine blockQ_ret ?_
                  refine blockQ_ret ?_
                  refine seqQ_ret ?_
                  refine round_ret ?_
                  refine escQ_ret ?_
                  exact exQ_mk (by kernel_rfl) (by kernel_rfl)
                · replace h := ofF h396 h
                  refine W_skip [0, 8, 9, 10] [] (fr' := [(0, aI a0), (8, aD (.slice (.pair tI (.pair tI tI))) a1), (9, aI (List.length a1 : Int)), (10, aI i265)]) (L' := []) (by kernel_rfl) (by kernel_rfl) ?_
                  refine blockQ_norm ?_
                  refine blockQ_norm ?_
                  refine seqQ_norm ?_
                  obtain rfl := Option.some.inj h
                  refine W_run 2 [] [0, 8, 9, 10] [] (fr' := [(0, aI a0), (8, aD (.slice (.pair tI (.pair tI tI))) a1), (9, aI (List.length a1 : Int)), (10, aI (w64 (i265 + (1 : Int))))]) (L' := []) (obs := []) (by kernel_rfl) (by kernel_rfl) (by kernel_rfl) allP0 ?_
                  exact round_next' (by kernel_rfl) (by kernel_rfl)
    · obtain rfl := stepL_false h270 h
      refine W_exit (id := 0) [] [] (fr' := []) (L' := []) (by kernel_rfl) (by kernel_rfl) ?_
      refine seqQ_exit ?_
      refine round_exit ?_
      refine escQ_brk ?_
      exact exQ_mk (by kernel_rfl) (by kernel_rfl)
  · intro e fr L hJ
    rcases v398 with v403 | v404
    · obtain ⟨rfl, rfl, rfl⟩ := hJ
      obtain rfl := Option.some.inj h
      refine LT_keep [4] [] (fr' := [(4, aI v403)]) (L' := []) (by kernel_rfl) ?_
      refine blockQ_ret ?_
      refine seqQ_ret ?_
      exact retQ_mk (by kernel_rfl) (by kernel_rfl) (by kernel_rfl)
    · obtain ⟨rfl, rfl, rfl⟩ := hJ
      refine LT_keep [] [] (fr' := []) (L' := []) (by kernel_rfl) ?_
      refine blockQ_hit ?_
      refine seqQ_norm ?_
      refine W_seq (by kernel_rfl) ?_
      refine W_run 1 [] [4] [] (fr' := [(4, aI (0 : Int))]) (L' := []) (obs := []) (by kernel_rfl) (by kernel_rfl) (by kernel_rfl) allP0 ?_
      refine seqQ_norm ?_
      obtain rfl := Option.some.inj h
      refine W_ret [4] [] (fr' := [(4, aI (0 : Int))]) (L' := []) (by kernel_rfl) (by kernel_rfl) ?_
      exact retQ_mk (by kernel_rfl) (by kernel_rfl) (by kernel_rfl)

def gate_Check (a0 : Int) (a1 : (List (Int × (Int × Int)))) : Option Int :=
bif (((decide (a0 < (0 : Int))) || (decide (a0 > (5 : Int)))) || (decide ((List.length a1 : Int) < (1 : Int)))) || (decide ((List.length a1 : Int) > (40 : Int))) then
(some (1 : Int))
else
((gate_Wrong a0 a1).bind fun r2 =>
some r2)
theorem gate_Check_ok {a0 : Int} {a1 : (List (Int × (Int × Int)))} {r : Int} (h : gate_Check a0 a1 = some r) : FnC Try.prog 41 [aI a0, aD (.slice (.pair tI (.pair tI tI))) a1] [] (aI r) [] := by
  refine fnC_of_W (B := bodyOf Try.f41) (n := 24) Try.func41 (by kernel_rfl) (by kernel_rfl) (by kernel_rfl) (by kernel_rfl) (by kernel_rfl) ?_
  intro K
  refine W_seq (by kernel_rfl) ?_
  refine W_run 1 [] [0, 1] [] (fr' := [(0, aI a0), (1, aD (.slice (.pair tI (.pair tI tI))) a1)]) (L' := []) (obs := []) (by kernel_rfl) (by kernel_rfl) (by kernel_rfl) allP0 ?_
  refine seqQ_norm ?_
  refine W_seq (by kernel_rfl) ?_
  refine W_seq (by kernel_rfl) ?_
  refine W_run 16 [] [0, 1, 20] [] (fr' := [(0, aI a0), (1, aD (.slice (.pair tI (.pair tI tI))) a1), (20, aB ((((decide (a0 < (0 : Int))) || (decide (a0 > (5 : Int)))) || (decide ((List.length a1 : Int) < (1 : Int)))) || (decide ((List.length a1 : Int) > (40 : Int)))))]) (L' := []) (obs := []) (by kernel_rfl) (by kernel_rfl) (by kernel_rfl) allP0 ?_
  refine seqQ_norm ?_
  refine W_cond (o := .tmp 20) (b := (((decide (a0 < (0 : Int))) || (decide (a0 > (5 : Int)))) || (decide ((List.length a1 : Int) < (1 : Int)))) || (decide ((List.length a1 : Int) > (40 : Int)))) (by kernel_rfl) (by kernel_rfl) (fun h1 => ?_) (fun h1 => ?_)
  · replace h := ofT h1 h
    refine W_seq (by kernel_rfl) ?_
    refine W_run 1 [] [4] [] (fr' := [(4, aI (1 : Int))]) (L' := []) (obs := []) (by kernel_rfl) (by kernel_rfl) (by kernel_rfl) allP0 ?_
    refine seqQ_norm ?_
    obtain rfl := Option.some.inj h
    refine W_ret [4] [] (fr' := [(4, aI (1 : Int))]) (L' := []) (by kernel_rfl) (by kernel_rfl) ?_
    refine seqQ_ret ?_
    exact retQ_mk (by kernel_rfl) (by kernel_rfl) (by kernel_rfl)
  · replace h := ofF h1 h
    refine W_skip [0, 1] [] (fr' := [(0, aI a0), (1, aD (.slice (.pair tI (.pair tI tI))) a1)]) (L' := []) (by kernel_rfl) (by kernel_rfl) ?_
    refine seqQ_norm ?_
    refine W_seq (by kernel_rfl) ?_
    refine W_region (by kernel_rfl) ?_
    refine WO_run (j := 2) (k := 2) (orcs := []) (kF := [21, 22]) (kL := []) (fr' := [(21, aI a0), (22, aD (.slice (.pair tI (.pair tI tI))) a1)]) (L' := []) (obs := []) rfl (by kernel_rfl) allP0 ?_
    obtain ⟨r2, h3, h⟩ := bind_of h
    refine WO_call0 (us := [none, none]) (d := 23) (p := True) (j := 3) rfl ⟨by kernel_rfl, by kernel_rfl, by kernel_rfl⟩ trivial (gate_Wrong_ok h3) (by kernel_rfl) ?_
    refine WO_run (j := 4) (k := 1) (orcs := []) (kF := [4]) (kL := []) (fr' := [(4, aI r2)]) (L' := []) (obs := []) rfl (by kernel_rfl) allP0 ?_
    refine WO_fin [4] [] (fr' := [(4, aI r2)]) (L' := []) (by kernel_rfl) (by kernel_rfl) ?_
    refine seqQ_norm ?_
    obtain rfl := Option.some.inj h
    refine W_ret [4] [] (fr' := [(4, aI r2)]) (L' := []) (by kernel_rfl) (by kernel_rfl) ?_
    exact retQ_mk (by kernel_rfl) (by kernel_rfl) (by kernel_rfl)

def name_Build_1_i3 (a0 : (List Int)) (a1 : (List Int)) (c0 : (List ((List Int) × (List Int)))) : Option (List ((List Int) × (List Int))) :=
(ck ((List.length c0 : Int) + 1 ≤ 4294967296)).bind fun _ =>
some (c0 ++ [(a0, a1)])
theorem name_Build_1_i3_ok {a0 : (List Int)} {a1 : (List Int)} {c0 : (List ((List Int) × (List Int)))} {r : (List ((List Int) × (List Int)))} (h : name_Build_1_i3 a0 a1 c0 = some r) : FnC Try.prog 42 [aD (.slice tI) a0, aD (.slice tI) a1, .one (.ptr 1000 0)] [(1000, .cells [.slc 2001]), (2001, .seq (.pair (.slice tI) (.slice tI)) c0)] (.tup []) [(1000, .cells [.slc 2001]), (2001, .seq (.pair (.slice tI) (.slice tI)) r)] := by
  refine fnC_of_W (B := bodyOf Try.f42) (n := 11) Try.func42 (by kernel_rfl) (by kernel_rfl) (by kernel_rfl) (by kernel_rfl) (by kernel_rfl) ?_
  intro K
  obtain ⟨_, h1, h⟩ := bind_of h
  replace h1 := ck_some h1
  obtain rfl := Option.some.inj h
  refine W_run 7 [] [] [1000, 2001] (fr' := []) (L' := [(1000, .cells [.slc 2001]), (2001, .seq (.pair (.slice tI) (.slice tI)) (c0 ++ [(a0, a1)]))]) (obs := [SmallLen (List.length c0 + List.length [(a0, a1)]), True]) (by kernel_rfl) (by kernel_rfl) (by kernel_rfl) (allP2 h1 (allP1 trivial)) ?_
  exact ⟨.inr rfl, by kernel_rfl, by kernel_rfl, by kernel_rfl⟩

def name_Build_g5 (x201 : (Int × (List Int) × (List ((List Int) × (List Int))))) (v203 : (Int × (Int × Int))) : Option (Int × (List Int) × (List ((List Int) × (List Int)))) :=
bif v203.1 == (1 : Int) then
((ck ((List.length x201.2.1 : Int) + 1 ≤ 4294967296)).bind fun _ =>
some (x201.1, x201.2.1 ++ [v203.2.1], x201.2.2))
else
((idx x201.2.1 v203.2.1).bind fun v264 =>
(ck ((List.length x201.2.1 : Int) + 1 ≤ 4294967296)).bind fun _ =>
bif v203.1 == (2 : Int) then
((name_Build_1_i3 [x201.1, v264] [] x201.2.2).bind fun r268 =>
(name_Build_1_i3 [] [x201.1, v264] r268).bind fun r270 =>
some (w64 (x201.1 + (1 : Int)), x201.2.1 ++ [x201.1], r270))
else
(bif v203.1 == (3 : Int) then
((idx (x201.2.1 ++ [x201.1]) v203.2.2).bind fun v273 =>
(name_Build_1_i3 [v264] [x201.1] x201.2.2).bind fun r275 =>
(name_Build_1_i3 [v273] [x201.1] r275).bind fun r277 =>
(name_Build_1_i3 [x201.1] [v264, v273] r277).bind fun r279 =>
some (w64 (x201.1 + (1 : Int)), x201.2.1 ++ [x201.1], r279))
else
(bif v203.1 == (4 : Int) then
((idx (x201.2.1 ++ [x201.1]) v203.2.2).bind fun v282 =>
(name_Build_1_i3 [x201.1] [v264] x201.2.2).bind fun r284 =>
(name_Build_1_i3 [x201.1] [v282] r284).bind fun r286 =>
(name_Build_1_i3 [v264, v282] [x201.1] r286).bind fun r288 =>
some (w64 (x201.1 + (1 : Int)), x201.2.1 ++ [x201.1], r288))
else
(some (w64 (x201.1 + (1 : Int)), x201.2.1 ++ [x201.1], x201.2.2)))))
@[reducible] def name_Build_s6 (a1 : (List (Int × (Int × Int)))) (i200 : Int) (v : (Int × (List Int) × (List ((List Int) × (List Int))))) : Fr × LL := ([(8, .one (.slc 39)), (9, .one (.ptr 9 0)), (10, aI v.1), (11, .one (.fn 42 [(9, 0)])), (26, aD (.slice (.pair tI (.pair tI tI))) a1), (27, aI (List.length a1 : Int)), (28, aI i200)], [(39, .seq tI v.2.1), (9, .cells [.slc 998]), (998, .seq (.pair (.slice tI) (.slice tI)) v.2.2)])
def name_Build_b7 (i200 : Int) (v203 : (Int × (Int × Int))) (x201 : (Int × (List Int) × (List ((List Int) × (List Int))))) : Option (Flow (Int × (List Int) × (List ((List Int) × (List Int)))) (Int × (List Int) × (List ((List Int) × (List Int))))) :=
(name_Build_g5 x201 v203).bind fun v290 =>
some (.next (v290.1, v290.2.1, v290.2.2))
@[reducible] def name_Build_s8 (a1 : (List (Int × (Int × Int)))) (v : Int × (Int × (List Int) × (List ((List Int) × (List Int))))) : Fr × LL := ([(8, .one (.slc 39)), (9, .one (.ptr 9 0)), (10, aI v.2.1), (11, .one (.fn 42 [(9, 0)])), (26, aD (.slice (.pair tI (.pair tI tI))) a1), (27, aI (List.length a1 : Int)), (28, aI v.1)], [(39, .seq tI v.2.2.1), (9, .cells [.slc 998]), (998, .seq (.pair (.slice tI) (.slice tI)) v.2.2.2)])
@[reducible] def name_Build_s9 (v : (Int × (List Int) × (List ((List Int) × (List Int))))) : Fr × LL := ([(8, .one (.slc 39)), (9, .one (.ptr 9 0)), (10, aI v.1), (11, .one (.fn 42 [(9, 0)]))], [(39, .seq tI v.2.1), (9, .cells [.slc 998]), (998, .seq (.pair (.slice tI) (.slice tI)) v.2.2)])
def name_Build (a0 : Int) (a1 : (List (Int × (Int × Int)))) : Option (Int × (List ((List Int) × (List Int))) × Int) :=
(gate_Check a0 a1).bind fun r1 =>
bif r1 != (0 : Int) then
(some ((0 : Int), [], r1))
else
((forL name_Build_b7 (fun x201 => (x201.1, x201.2.1, x201.2.2)) a1 0 (a0, [], [])).bind fun v293 =>
(idx v293.2.1 (w64 ((List.length v293.2.1 : Int) - (1 : Int)))).bind fun v298 =>
(name_Build_1_i3 [v298] [] v293.2.2).bind fun r300 =>
some (v293.1, r300, (0 : Int)))
theorem name_Build_ok {a0 : Int} {a1 : (List (Int × (Int × Int)))} {r : (Int × (List ((List Int) × (List Int))) × Int)} (h : name_Build a0 a1 = some r) : FnC Try.prog 11 [aI a0, aD (.slice (.pair tI (.pair tI tI))) a1] [] (.tup [.dat tI r.1, .dat (.slice (.pair (.slice tI) (.slice tI))) r.2.1, .dat tI r.2.2]) [] := by
  refine fnC_of_W (B := bodyOf Try.f11) (n := 130) Try.func11 (by kernel_rfl) (by kernel_rfl) (by kernel_rfl) (by kernel_rfl) (by kernel_rfl) ?_
  intro K
  refine W_seq (by kernel_rfl) ?_
  refine W_run 3 [] [0, 1] [] (fr' := [(0, aI a0), (1, aD (.slice (.pair tI (.pair tI tI))) a1)]) (L' := []) (obs := []) (by kernel_rfl) (by kernel_rfl) (by kernel_rfl) allP0 ?_
  refine seqQ_norm ?_
  refine W_seq (by kernel_rfl) ?_
  refine W_seq (by kernel_rfl) ?_
  refine W_region (by kernel_rfl) ?_
  refine WO_run (j := 2) (k := 2) (orcs := []) (kF := [0, 1, 18, 19]) (kL := []) (fr' := [(0, aI a0), (1, aD (.slice (.pair tI (.pair tI tI))) a1), (18, aI a0), (19, aD (.slice (.pair tI (.pair tI tI))) a1)]) (L' := []) (obs := []) rfl (by kernel_rfl) allP0 ?_
  obtain ⟨r1, h2, h⟩ := bind_of h
  refine WO_call0 (us := [none, none]) (d := 20) (p := True) (j := 3) rfl ⟨by kernel_rfl, by kernel_rfl, by kernel_rfl⟩ trivial (gate_Check_ok h2) (by kernel_rfl) ?_
  refine WO_run (j := 4) (k := 1) (orcs := []) (kF := [0, 1, 7]) (kL := []) (fr' := [(0, aI a0), (1, aD (.slice (.pair tI (.pair tI tI))) a1), (7, aI r1)]) (L' := []) (obs := []) rfl (by kernel_rfl) allP0 ?_
  refine WO_fin [0, 1, 7] [] (fr' := [(0, aI a0), (1, aD (.slice (.pair tI (.pair tI tI))) a1), (7, aI r1)]) (L' := []) (by kernel_rfl) (by kernel_rfl) ?_
  refine seqQ_norm ?_
  refine W_seq (by kernel_rfl) ?_
  refine W_run 2 [] [0, 1, 7, 22] [] (fr' := [(0, aI a0), (1, aD (.slice (.pair tI (.pair tI tI))) a1), (7, aI r1), (22, aB (r1 != (0 : Int)))]) (L' := []) (obs := []) (by kernel_rfl) (by kernel_rfl) (by kernel_rfl) allP0 ?_
  refine seqQ_norm ?_
  refine W_cond (o := .tmp 22) (b := r1 != (0 : Int)) (by kernel_rfl) (by kernel_rfl) (fun h3 => ?_) (fun h3 => ?_)
  · replace h := ofT h3 h
    refine W_seq (by kernel_rfl) ?_
    refine W_run 4 [] [4, 5, 6] [] (fr' := [(4, aI (0 : Int)), (5, .one (.nilS)), (6, aI r1)]) (L' := []) (obs := []) (by kernel_rfl) (by kernel_rfl) (by kernel_rfl) allP0 ?_
    refine seqQ_norm ?_
    obtain rfl := Option.some.inj h
    refine W_cnv 5 (.slice (.pair (.slice tI) (.slice tI))) (by kernel_rfl) ?_
    refine W_ret [4, 5, 6] [] (fr' := [(4, aI (0 : Int)), (5, aD (.slice (.pair (.slice tI) (.slice tI))) []), (6, aI r1)]) (L' := []) (by kernel_rfl) (by kernel_rfl) ?_
    refine seqQ_ret ?_
    exact retQ_mk (by kernel_rfl) (by kernel_rfl) (by kernel_rfl)
  · replace h := ofF h3 h
    refine W_skip [0, 1] [] (fr' := [(0, aI a0), (1, aD (.slice (.pair tI (.pair tI tI))) a1)]) (L' := []) (by kernel_rfl) (by kernel_rfl) ?_
    refine seqQ_norm ?_
    refine W_seq (by kernel_rfl) ?_
    refine W_run 1 [] [0, 1, 8] [] (fr' := [(0, aI a0), (1, aD (.slice (.pair tI (.pair tI tI))) a1), (8, .one (.nilS))]) (L' := []) (obs := []) (by kernel_rfl) (by kernel_rfl) (by kernel_rfl) allP0 ?_
    refine seqQ_norm ?_
    refine W_seq (by kernel_rfl) ?_
    refine W_run 1 [] [0, 1, 8, 9] [9] (fr' := [(0, aI a0), (1, aD (.slice (.pair tI (.pair tI tI))) a1), (8, .one (.nilS)), (9, .one (.ptr 9 0))]) (L' := [(9, .cells [.nilS])]) (obs := []) (by kernel_rfl) (by kernel_rfl) (by kernel_rfl) allP0 ?_
    refine seqQ_norm ?_
    refine W_seq (by kernel_rfl) ?_
    refine W_run 2 [] [1, 8, 9, 10] [9] (fr' := [(1, aD (.slice (.pair tI (.pair tI tI))) a1), (8, .one (.nilS)), (9, .one (.ptr 9 0)), (10, aI a0)]) (L' := [(9, .cells [.nilS])]) (obs := []) (by kernel_rfl) (by kernel_rfl) (by kernel_rfl) allP0 ?_
    refine seqQ_norm ?_
    refine W_seq (by kernel_rfl) ?_
    refine W_run 2 [] [1, 8, 9, 10, 11] [9] (fr' := [(1, aD (.slice (.pair tI (.pair tI tI))) a1), (8, .one (.nilS)), (9, .one (.ptr 9 0)), (10, aI a0), (11, .one (.fn 42 [(9, 0)]))]) (L' := [(9, .cells [.nilS])]) (obs := []) (by kernel_rfl) (by kernel_rfl) (by kernel_rfl) allP0 ?_
    refine seqQ_norm ?_
    refine W_seq (by kernel_rfl) ?_
    refine W_seq (by kernel_rfl) ?_
    refine W_run 3 [] [8, 9, 10, 11, 26, 27, 28] [9] (fr' := [(8, .one (.nilS)), (9, .one (.ptr 9 0)), (10, aI a0), (11, .one (.fn 42 [(9, 0)])), (26, aD (.slice (.pair tI (.pair tI tI))) a1), (27, aI (List.length a1 : Int)), (28, aI (0 : Int))]) (L' := [(9, .cells [.nilS])]) (obs := []) (by kernel_rfl) (by kernel_rfl) (by kernel_rfl) allP0 ?_
    refine seqQ_norm ?_
    refine W_block (id := 0) (by kernel_rfl) ?_
    obtain ⟨v293, h294, h⟩ := bind_of h
    refine W_len (t := 26) (u := (.pair tI (.pair tI tI))) (xs := a1) (by kernel_rfl) (fun h297 => ?_)
    obtain ⟨h295, h296⟩ := forL_iter h297 h294
    refine W_mine 8 39 tI (by kernel_rfl) ?_
    refine W_cellown 9 0 998 (.pair (.slice tI) (.slice tI)) (by kernel_rfl) ?_
    refine W_weaken [8, 9, 10, 11, 26, 27, 28] [39, 9, 998] (fr' := ((name_Build_s8 a1) ((0 : Int), (a0, [], []))).1) (L' := ((name_Build_s8 a1) ((0 : Int), (a0, [], []))).2) (by kernel_rfl) ?_
    refine W_cutK (W_loop (S := (name_Build_s8 a1)) (J := (exQ (.exit 0) name_Build_s9)) (by kernel_rfl) ?_ h295 _ v293 h296) ?_
    · rintro ⟨i200, x201⟩ s h
      refine W_seq (by kernel_rfl) ?_
      refine W_run 1 [] [8, 9, 10, 11, 26, 27, 28, 29] [39, 9, 998] (fr' := [(8, .one (.slc 39)), (9, .one (.ptr 9 0)), (10, aI x201.1), (11, .one (.fn 42 [(9, 0)])), (26, aD (.slice (.pair tI (.pair tI tI))) a1), (27, aI (List.length a1 : Int)), (28, aI i200), (29, aB (decide (i200 < (List.length a1 : Int))))]) (L' := [(39, .seq tI x201.2.1), (9, .cells [.slc 998]), (998, .seq (.pair (.slice tI) (.slice tI)) x201.2.2)]) (obs := []) (by kernel_rfl) (by kernel_rfl) (by kernel_rfl) allP0 ?_
      refine seqQ_norm ?_
      refine W_seq (by kernel_rfl) ?_
      refine W_cond (o := .tmp 29) (b := decide (i200 < (List.length a1 : Int))) (by kernel_rfl) (by kernel_rfl) (fun h205 => ?_) (fun h205 => ?_)
      · replace h := stepL_true h205 h
        obtain ⟨v203, _, h204, h, rfl⟩ := h
        refine W_skip [8, 9, 10, 11, 26, 27, 28] [39, 9, 998] (fr' := [(8, .one (.slc 39)), (9, .one (.ptr 9 0)), (10, aI x201.1), (11, .one (.fn 42 [(9, 0)])), (26, aD (.slice (.pair tI (.pair tI tI))) a1), (27, aI (List.length a1 : Int)), (28, aI i200)]) (L' := [(39, .seq tI x201.2.1), (9, .cells [.slc 998]), (998, .seq (.pair (.slice tI) (.slice tI)) x201.2.2)]) (by kernel_rfl) (by kernel_rfl) ?_
        refine seqQ_norm ?_
        refine W_seq (by kernel_rfl) ?_
        obtain ⟨v290, h291, h⟩ := bind_of h
        refine W_cutK (Q' := (exQ .normal (name_Build_s6 a1 i200)) v290) ?_ ?_
        · replace h := h291
          refine W_block (id := 1) (by kernel_rfl) ?_
          refine W_seq (by kernel_rfl) ?_
          refine W_run 4 [(1, .val (.dat (.pair tI (.pair tI tI)) v203)), (5, .typed)] [8, 9, 10, 11, 13, 26, 27, 28] [39, 9, 13, 998] (fr' := [(8, .one (.slc 39)), (9, .one (.ptr 9 0)), (10, aI x201.1), (11, .one (.fn 42 [(9, 0)])), (13, .one (.ptr 13 0)), (26, aD (.slice (.pair tI (.pair tI tI))) a1), (27, aI (List.length a1 : Int)), (28, aI i200)]) (L' := [(39, .seq tI x201.2.1), (9, .cells [.slc 998]), (13, .one (.pair tI (.pair tI tI)) v203), (998, .seq (.pair (.slice tI) (.slice tI)) x201.2.2)]) (obs := [Idx a1 i200 v203, True]) (by kernel_rfl) (by kernel_rfl) (by kernel_rfl) (allP2 (Idx.of h204) (allP1 trivial)) ?_
          refine seqQ_norm ?_
          refine W_seq (by kernel_rfl) ?_
          refine W_seq (by kernel_rfl) ?_
          refine W_run 3 [] [8, 9, 10, 11, 13, 26, 27, 28, 34] [39, 9, 13, 998] (fr' := [(8, .one (.slc 39)), (9, .one (.ptr 9 0)), (10, aI x201.1), (11, .one (.fn 42 [(9, 0)])), (13, .one (.ptr 13 0)), (26, aD (.slice (.pair tI (.pair tI tI))) a1), (27, aI (List.length a1 : Int)), (28, aI i200), (34, aB (v203.1 == (1 : Int)))]) (L' := [(39, .seq tI x201.2.1), (9, .cells [.slc 998]), (13, .one (.pair tI (.pair tI tI)) v203), (998, .seq (.pair (.slice tI) (.slice tI)) x201.2.2)]) (obs := []) (by kernel_rfl) (by kernel_rfl) (by kernel_rfl) allP0 ?_
          refine seqQ_norm ?_
          refine W_cond (o := .tmp 34) (b := v203.1 == (1 : Int)) (by kernel_rfl) (by kernel_rfl) (fun h262 => ?_) (fun h262 => ?_)
          · replace h := ofT h262 h
            refine W_seq (by kernel_rfl) ?_
            obtain ⟨_, h263, h⟩ := bind_of h
            replace h263 := ck_some h263
            refine W_run 6 [] [8, 9, 10, 11, 26, 27, 28] [39, 9, 998] (fr' := [(8, .one (.slc 39)), (9, .one (.ptr 9 0)), (10, aI x201.1), (11, .one (.fn 42 [(9, 0)])), (26, aD (.slice (.pair tI (.pair tI tI))) a1), (27, aI (List.length a1 : Int)), (28, aI i200)]) (L' := [(39, .seq tI (x201.2.1 ++ [v203.2.1])), (9, .cells [.slc 998]), (998, .seq (.pair (.slice tI) (.slice tI)) x201.2.2)]) (obs := [SmallLen (List.length x201.2.1 + List.length [v203.2.1])]) (by kernel_rfl) (by kernel_rfl) (by kernel_rfl) (allP1 h263) ?_
            refine seqQ_norm ?_
            obtain rfl := Option.some.inj h
            refine W_exit (id := 1) [8, 9, 10, 11, 26, 27, 28] [39, 9, 998] (fr' := [(8, .one (.slc 39)), (9, .one (.ptr 9 0)), (10, aI x201.1), (11, .one (.fn 42 [(9, 0)])), (26, aD (.slice (.pair tI (.pair tI tI))) a1), (27, aI (List.length a1 : Int)), (28, aI i200)]) (L' := [(39, .seq tI (x201.2.1 ++ [v203.2.1])), (9, .cells [.slc 998]), (998, .seq (.pair (.slice tI) (.slice tI)) x201.2.2)]) (by kernel_rfl) (by kernel_rfl) ?_
            refine seqQ_exit ?_
            refine blockQ_hit ?_
            exact exQ_mk (by kernel_rfl) (by kernel_rfl)
          · replace h := ofF h262 h
            refine W_skip [8, 9, 10, 11, 13, 26, 27, 28] [39, 9, 13, 998] (fr' := [(8, .one (.slc 39)), (9, .one (.ptr 9 0)), (10, aI x201.1), (11, .one (.fn 42 [(9, 0)])), (13, .one (.ptr 13 0)), (26, aD (.slice (.pair tI (.pair tI tI))) a1), (27, aI (List.length a1 : Int)), (28, aI i200)]) (L' := [(39, .seq tI x201.2.1), (9, .cells [.slc 998]), (13, .one (.pair tI (.pair tI tI)) v203), (998, .seq (.pair (.slice tI) (.slice tI)) x201.2.2)]) (by kernel_rfl) (by kernel_rfl) ?_
            refine seqQ_norm ?_
            refine W_seq (by kernel_rfl) ?_
            obtain ⟨v264, h265, h⟩ := bind_of h
            refine W_draw2 7 [(11, .val (.dat tI v264))] [] [8, 9, 10, 11, 13, 14, 15, 26, 27, 28] [39, 9, 13, 998] (fr' := [(8, .one (.slc 39)), (9, .one (.ptr 9 0)), (10, aI x201.1), (11, .one (.fn 42 [(9, 0)])), (13, .one (.ptr 13 0)), (14, aI x201.1), (15, aI v264), (26, aD (.slice (.pair tI (.pair tI tI))) a1), (27, aI (List.length a1 : Int)), (28, aI i200)]) (L' := [(39, .seq tI x201.2.1), (9, .cells [.slc 998]), (13, .one (.pair tI (.pair tI tI)) v203), (998, .seq (.pair (.slice tI) (.slice tI)) x201.2.2)]) (out := [(40, aI x201.1), (41, .one (.slc 39)), (42, .one (.ptr 13 1)), (43, aI v203.2.1), (44, .one (.eptr 39 1 v203.2.1 0)), (45, aI v264), (14, aI x201.1)]) (obs := [InR v203.2.1 (List.length x201.2.1), Idx x201.2.1 v203.2.1 v264]) (obs2 := []) (calls := []) (by kernel_rfl) (by kernel_rfl) (by kernel_rfl) (by kernel_rfl) (allP2 (InR.of h265) (allP1 (Idx.of h265))) allC0 (by kernel_rfl) allP0 ?_
            refine seqQ_norm ?_
            refine W_seq (by kernel_rfl) ?_
            refine W_run 3 [] [8, 9, 10, 11, 13, 14, 15, 26, 27, 28] [39, 9, 13, 998] (fr' := [(8, .one (.slc 39)), (9, .one (.ptr 9 0)), (10, aI (w64 (x201.1 + (1 : Int)))), (11, .one (.fn 42 [(9, 0)])), (13, .one (.ptr 13 0)), (14, aI x201.1), (15, aI v264), (26, aD (.slice (.pair tI (.pair tI tI))) a1), (27, aI (List.length a1 : Int)), (28, aI i200)]) (L' := [(39, .seq tI x201.2.1), (9, .cells [.slc 998]), (13, .one (.pair tI (.pair tI tI)) v203), (998, .seq (.pair (.slice tI) (.slice tI)) x201.2.2)]) (obs := []) (by kernel_rfl) (by kernel_rfl) (by kernel_rfl) allP0 ?_
            refine seqQ_norm ?_
            refine W_seq (by kernel_rfl) ?_
            obtain ⟨_, h266, h⟩ := bind_of h
            replace h266 := ck_some h266
            refine W_run 5 [] [8, 9, 10, 11, 13, 14, 15, 26, 27, 28] [39, 9, 13, 998] (fr' := [(8, .one (.slc 39)), (9, .one (.ptr 9 0)), (10, aI (w64 (x201.1 + (1 : Int)))), (11, .one (.fn 42 [(9, 0)])), (13, .one (.ptr 13 0)), (14, aI x201.1), (15, aI v264), (26, aD (.slice (.pair tI (.pair tI tI))) a1), (27, aI (List.length a1 : Int)), (28, aI i200)]) (L' := [(39, .seq tI (x201.2.1 ++ [x201.1])), (9, .cells [.slc 998]), (13, .one (.pair tI (.pair tI tI)) v203), (998, .seq (.pair (.slice tI) (.slice tI)) x201.2.2)]) (obs := [SmallLen (List.length x201.2.1 + List.length [x201.1])]) (by kernel_rfl) (by kernel_rfl) (by kernel_rfl) (allP1 h266) ?_
            refine seqQ_norm ?_
            refine W_seq (by kernel_rfl) ?_
            refine W_run 2 [] [8, 9, 10, 11, 13, 14, 15, 26, 27, 28, 53] [39, 9, 13, 998] (fr' := [(8, .one (.slc 39)), (9, .one (.ptr 9 0)), (10, aI (w64 (x201.1 + (1 : Int)))), (11, .one (.fn 42 [(9, 0)])), (13, .one (.ptr 13 0)), (14, aI x201.1), (15, aI v264), (26, aD (.slice (.pair tI (.pair tI tI))) a1), (27, aI (List.length a1 : Int)), (28, aI i200), (53, aI v203.1)]) (L' := [(39, .seq tI (x201.2.1 ++ [x201.1])), (9, .cells [.slc 998]), (13, .one (.pair tI (.pair tI tI)) v203), (998, .seq (.pair (.slice tI) (.slice tI)) x201.2.2)]) (obs := []) (by kernel_rfl) (by kernel_rfl) (by kernel_rfl) allP0 ?_
            refine seqQ_norm ?_
            refine W_block (id := 2) (by kernel_rfl) ?_
            refine W_seq (by kernel_rfl) ?_
            refine W_run 2 [] [8, 9, 10, 11, 13, 14, 15, 26, 27, 28, 53, 54] [39, 9, 13, 998] (fr' := [(8, .one (.slc 39)), (9, .one (.ptr 9 0)), (10, aI (w64 (x201.1 + (1 : Int)))), (11, .one (.fn 42 [(9, 0)])), (13, .one (.ptr 13 0)), (14, aI x201.1), (15, aI v264), (26, aD (.slice (.pair tI (.pair tI tI))) a1), (27, aI (List.length a1 : Int)), (28, aI i200), (53, aI v203.1), (54, aB (v203.1 == (2 : Int)))]) (L' := [(39, .seq tI (x201.2.1 ++ [x201.1])), (9, .cells [.slc 998]), (13, .one (.pair tI (.pair tI tI)) v203), (998, .seq (.pair (.slice tI) (.slice tI)) x201.2.2)]) (obs := []) (by kernel_rfl) (by kernel_rfl) (by kernel_rfl) allP0 ?_
            refine seqQ_norm ?_
            refine W_cond (o := .tmp 54) (b := v203.1 == (2 : Int)) (by kernel_rfl) (by kernel_rfl) (fun h267 => ?_) (fun h267 => ?_)
            · replace h := ofT h267 h
              refine W_seq (by kernel_rfl) ?_
              refine W_region (by kernel_rfl) ?_
              refine WO_run (j := 4) (k := 4) (orcs := []) (kF := [8, 9, 10, 11, 14, 15, 26, 27, 28, 56, 59]) (kL := [9, 13, 39, 59, 998]) (fr' := [(8, .one (.slc 39)), (9, .one (.ptr 9 0)), (10, aI (w64 (x201.1 + (1 : Int)))), (11, .one (.fn 42 [(9, 0)])), (14, aI x201.1), (15, aI v264), (26, aD (.slice (.pair tI (.pair tI tI))) a1), (27, aI (List.length a1 : Int)), (28, aI i200), (56, .one (.fn 42 [(9, 0)])), (59, .one (.slc 59))]) (L' := [(9, .cells [.slc 998]), (13, .one (.pair tI (.pair tI tI)) v203), (39, .seq tI (x201.2.1 ++ [x201.1])), (59, .seq tI [x201.1, v264]), (998, .seq (.pair (.slice tI) (.slice tI)) x201.2.2)]) (obs := []) rfl (by kernel_rfl) allP0 ?_
              obtain ⟨r268, h269, h⟩ := bind_of h
              refine WO_frz 59 (by kernel_rfl) ?_
              refine WO_lend2 [(1000, 9), (2001, 998)] (us := [none, some (.slice tI), none]) (d := 60) (p := True) (j := 5) rfl ⟨by kernel_rfl, by kernel_rfl, by kernel_rfl⟩ trivial (name_Build_1_i3_ok h269) (by kernel_rfl) (by kernel_rfl) ?_
              refine WO_fin [8, 9, 10, 11, 14, 15, 26, 27, 28] [39, 9, 998] (fr' := [(8, .one (.slc 39)), (9, .one (.ptr 9 0)), (10, aI (w64 (x201.1 + (1 : Int)))), (11, .one (.fn 42 [(9, 0)])), (14, aI x201.1), (15, aI v264), (26, aD (.slice (.pair tI (.pair tI tI))) a1), (27, aI (List.length a1 : Int)), (28, aI i200)]) (L' := [(39, .seq tI (x201.2.1 ++ [x201.1])), (9, .cells [.slc 998]), (998, .seq (.pair (.slice tI) (.slice tI)) r268)]) (by kernel_rfl) (by kernel_rfl) ?_
              refine seqQ_norm ?_
              refine W_region (by kernel_rfl) ?_
              refine WO_run (j := 4) (k := 4) (orcs := []) (kF := [8, 9, 10, 11, 26, 27, 28, 61, 64]) (kL := [9, 39, 64, 998]) (fr' := [(8, .one (.slc 39)), (9, .one (.ptr 9 0)), (10, aI (w64 (x201.1 + (1 : Int)))), (11, .one (.fn 42 [(9, 0)])), (26, aD (.slice (.pair tI (.pair tI tI))) a1), (27, aI (List.length a1 : Int)), (28, aI i200), (61, .one (.fn 42 [(9, 0)])), (64, .one (.slc 64))]) (L' := [(9, .cells [.slc 998]), (39, .seq tI (x201.2.1 ++ [x201.1])), (64, .seq tI [x201.1, v264]), (998, .seq (.pair (.slice tI) (.slice tI)) r268)]) (obs := []) rfl (by kernel_rfl) allP0 ?_
              obtain ⟨r270, h271, h⟩ := bind_of h
              refine WO_frz 64 (by kernel_rfl) ?_
              refine WO_lend2 [(1000, 9), (2001, 998)] (us := [some (.slice tI), none, none]) (d := 65) (p := True) (j := 5) rfl ⟨by kernel_rfl, by kernel_rfl, by kernel_rfl⟩ trivial (name_Build_1_i3_ok h271) (by kernel_rfl) (by kernel_rfl) ?_
              obtain rfl := Option.some.inj h
              refine WO_fin [8, 9, 10, 11, 26, 27, 28] [39, 9, 998] (fr' := [(8, .one (.slc 39)), (9, .one (.ptr 9 0)), (10, aI (w64 (x201.1 + (1 : Int)))), (11, .one (.fn 42 [(9, 0)])), (26, aD (.slice (.pair tI (.pair tI tI))) a1), (27, aI (List.length a1 : Int)), (28, aI i200)]) (L' := [(39, .seq tI (x201.2.1 ++ [x201.1])), (9, .cells [.slc 998]), (998, .seq (.pair (.slice tI) (.slice tI)) r270)]) (by kernel_rfl) (by kernel_rfl) ?_
              refine blockQ_norm ?_
              refine blockQ_norm ?_
              exact exQ_mk (by kernel_rfl) (by kernel_rfl)
            · replace h := ofF h267 h
              refine W_seq (by kernel_rfl) ?_
              refine W_run 2 [] [8, 9, 10, 11, 13, 14, 15, 26, 27, 28, 53, 66] [39, 9, 13, 998] (fr' := [(8, .one (.slc 39)), (9, .one (.ptr 9 0)), (10, aI (w64 (x201.1 + (1 : Int)))), (11, .one (.fn 42 [(9, 0)])), (13, .one (.ptr 13 0)), (14, aI x201.1), (15, aI v264), (26, aD (.slice (.pair tI (.pair tI tI))) a1), (27, aI (List.length a1 : Int)), (28, aI i200), (53, aI v203.1), (66, aB (v203.1 == (3 : Int)))]) (L' := [(39, .seq tI (x201.2.1 ++ [x201.1])), (9, .cells [.slc 998]), (13, .one (.pair tI (.pair tI tI)) v203), (998, .seq (.pair (.slice tI) (.slice tI)) x201.2.2)]) (obs := []) (by kernel_rfl) (by kernel_rfl) (by kernel_rfl) allP0 ?_
              refine seqQ_norm ?_
              refine W_cond (o := .tmp 66) (b := v203.1 == (3 : Int)) (by kernel_rfl) (by kernel_rfl) (fun h272 => ?_) (fun h272 => ?_)
              · replace h := ofT h272 h
                refine W_seq (by kernel_rfl) ?_
                obtain ⟨v273, h274, h⟩ := bind_of h
                refine W_run 6 [(9, .val (.dat tI v273))] [8, 9, 10, 11, 14, 15, 16, 26, 27, 28] [39, 9, 998] (fr' := [(8, .one (.slc 39)), (9, .one (.ptr 9 0)), (10, aI (w64 (x201.1 + (1 : Int)))), (11, .one (.fn 42 [(9, 0)])), (14, aI x201.1), (15, aI v264), (16, aI v273), (26, aD (.slice (.pair tI (.pair tI tI))) a1), (27, aI (List.length a1 : Int)), (28, aI i200)]) (L' := [(39, .seq tI (x201.2.1 ++ [x201.1])), (9, .cells [.slc 998]), (998, .seq (.pair (.slice tI) (.slice tI)) x201.2.2)]) (obs := [InR v203.2.2 (List.length (x201.2.1 ++ [x201.1])), Idx (x201.2.1 ++ [x201.1]) v203.2.2 v273]) (by kernel_rfl) (by kernel_rfl) (by kernel_rfl) (allP2 (InR.of h274) (allP1 (Idx.of h274))) ?_
                refine seqQ_norm ?_
                refine W_seq (by kernel_rfl) ?_
                refine W_region (by kernel_rfl) ?_
                refine WO_run (j := 5) (k := 5) (orcs := []) (kF := [8, 9, 10, 11, 14, 15, 16, 26, 27, 28, 73, 75, 77]) (kL := [9, 39, 75, 77, 998]) (fr' := [(8, .one (.slc 39)), (9, .one (.ptr 9 0)), (10, aI (w64 (x201.1 + (1 : Int)))), (11, .one (.fn 42 [(9, 0)])), (14, aI x201.1), (15, aI v264), (16, aI v273), (26, aD (.slice (.pair tI (.pair tI tI))) a1), (27, aI (List.length a1 : Int)), (28, aI i200), (73, .one (.fn 42 [(9, 0)])), (75, .one (.slc 75)), (77, .one (.slc 77))]) (L' := [(9, .cells [.slc 998]), (39, .seq tI (x201.2.1 ++ [x201.1])), (75, .seq tI [v264]), (77, .seq tI [x201.1]), (998, .seq (.pair (.slice tI) (.slice tI)) x201.2.2)]) (obs := []) rfl (by kernel_rfl) allP0 ?_
                obtain ⟨r275, h276, h⟩ := bind_of h
                refine WO_frz 75 (by kernel_rfl) ?_
                refine WO_frz 77 (by kernel_rfl) ?_
                refine WO_lend2 [(1000, 9), (2001, 998)] (us := [none, none, none]) (d := 78) (p := True) (j := 6) rfl ⟨by kernel_rfl, by kernel_rfl, by kernel_rfl⟩ trivial (name_Build_1_i3_ok h276) (by kernel_rfl) (by kernel_rfl) ?_
                refine WO_fin [8, 9, 10, 11, 14, 15, 16, 26, 27, 28] [39, 9, 998] (fr' := [(8, .one (.slc 39)), (9, .one (.ptr 9 0)), (10, aI (w64 (x201.1 + (1 : Int)))), (11, .one (.fn 42 [(9, 0)])), (14, aI x201.1), (15, aI v264), (16, aI v273), (26, aD (.slice (.pair tI (.pair tI tI))) a1), (27, aI (List.length a1 : Int)), (28, aI i200)]) (L' := [(39, .seq tI (x201.2.1 ++ [x201.1])), (9, .cells [.slc 998]), (998, .seq (.pair (.slice tI) (.slice tI)) r275)]) (by kernel_rfl) (by kernel_rfl) ?_
                refine seqQ_norm ?_
                refine W_seq (by kernel_rfl) ?_
                refine W_region (by kernel_rfl) ?_
                refine WO_run (j := 5) (k := 5) (orcs := []) (kF := [8, 9, 10, 11, 14, 15, 16, 26, 27, 28, 79, 81, 83]) (kL := [9, 39, 81, 83, 998]) (fr' := [(8, .one (.slc 39)), (9, .one (.ptr 9 0)), (10, aI (w64 (x201.1 + (1 : Int)))), (11, .one (.fn 42 [(9, 0)])), (14, aI x201.1), (15, aI v264), (16, aI v273), (26, aD (.slice (.pair tI (.pair tI tI))) a1), (27, aI (List.length a1 : Int)), (28, aI i200), (79, .one (.fn 42 [(9, 0)])), (81, .one (.slc 81)), (83, .one (.slc 83))]) (L' := [(9, .cells [.slc 998]), (39, .seq tI (x201.2.1 ++ [x201.1])), (81, .seq tI [v273]), (83, .seq tI [x201.1]), (998, .seq (.pair (.slice tI) (.slice tI)) r275)]) (obs := []) rfl (by kernel_rfl) allP0 ?_
                obtain ⟨r277, h278, h⟩ := bind_of h
                refine WO_frz 81 (by kernel_rfl) ?_
                refine WO_frz 83 (by kernel_rfl) ?_
                refine WO_lend2 [(1000, 9), (2001, 998)] (us := [none, none, none]) (d := 84) (p := True) (j := 6) rfl ⟨by kernel_rfl, by kernel_rfl, by kernel_rfl⟩ trivial (name_Build_1_i3_ok h278) (by kernel_rfl) (by kernel_rfl) ?_
                refine WO_fin [8, 9, 10, 11, 14, 15, 16, 26, 27, 28] [39, 9, 998] (fr' := [(8, .one (.slc 39)), (9, .one (.ptr 9 0)), (10, aI (w64 (x201.1 + (1 : Int)))), (11, .one (.fn 42 [(9, 0)])), (14, aI x201.1), (15, aI v264), (16, aI v273), (26, aD (.slice (.pair tI (.pair tI tI))) a1), (27, aI (List.length a1 : Int)), (28, aI i200)]) (L' := [(39, .seq tI (x201.2.1 ++ [x201.1])), (9, .cells [.slc 998]), (998, .seq (.pair (.slice tI) (.slice tI)) r277)]) (by kernel_rfl) (by kernel_rfl) ?_
                refine seqQ_norm ?_
                refine W_region (by kernel_rfl) ?_
                refine WO_run (j := 6) (k := 6) (orcs := []) (kF := [8, 9, 10, 11, 26, 27, 28, 85, 87, 90]) (kL := [9, 39, 87, 90, 998]) (fr' := [(8, .one (.slc 39)), (9, .one (.ptr 9 0)), (10, aI (w64 (x201.1 + (1 : Int)))), (11, .one (.fn 42 [(9, 0)])), (26, aD (.slice (.pair tI (.pair tI tI))) a1), (27, aI (List.length a1 : Int)), (28, aI i200), (85, .one (.fn 42 [(9, 0)])), (87, .one (.slc 87)), (90, .one (.slc 90))]) (L' := [(9, .cells [.slc 998]), (39, .seq tI (x201.2.1 ++ [x201.1])), (87, .seq tI [x201.1]), (90, .seq tI [v264, v273]), (998, .seq (.pair (.slice tI) (.slice tI)) r277)]) (obs := []) rfl (by kernel_rfl) allP0 ?_
                obtain ⟨r279, h280, h⟩ := bind_of h
                refine WO_frz 87 (by kernel_rfl) ?_
                refine WO_frz 90 (by kernel_rfl) ?_
                refine WO_lend2 [(1000, 9), (2001, 998)] (us := [none, none, none]) (d := 91) (p := True) (j := 7) rfl ⟨by kernel_rfl, by kernel_rfl, by kernel_rfl⟩ trivial (name_Build_1_i3_ok h280) (by kernel_rfl) (by kernel_rfl) ?_
                obtain rfl := Option.some.inj h
                refine WO_fin [8, 9, 10, 11, 26, 27, 28] [39, 9, 998] (fr' := [(8, .one (.slc 39)), (9, .one (.ptr 9 0)), (10, aI (w64 (x201.1 + (1 : Int)))), (11, .one (.fn 42 [(9, 0)])), (26, aD (.slice (.pair tI (.pair tI tI))) a1), (27, aI (List.length a1 : Int)), (28, aI i200)]) (L' := [(39, .seq tI (x201.2.1 ++ [x201.1])), (9, .cells [.slc 998]), (998, .seq (.pair (.slice tI) (.slice tI)) r279)]) (by kernel_rfl) (by kernel_rfl) ?_
                refine blockQ_norm ?_
                refine blockQ_norm ?_
                exact exQ_mk (by kernel_rfl) (by kernel_rfl)
              · replace h := ofF h272 h
                refine W_seq (by kernel_rfl) ?_
                refine W_run 2 [] [8, 9, 10, 11, 13, 14, 15, 26, 27, 28, 92] [39, 9, 13, 998] (fr' := [(8, .one (.slc 39)), (9, .one (.ptr 9 0)), (10, aI (w64 (x201.1 + (1 : Int)))), (11, .one (.fn 42 [(9, 0)])), (13, .one (.ptr 13 0)), (14, aI x201.1), (15, aI v264), (26, aD (.slice (.pair tI (.pair tI tI))) a1), (27, aI (List.length a1 : Int)), (28, aI i200), (92, aB (v203.1 == (4 : Int)))]) (L' := [(39, .seq tI (x201.2.1 ++ [x201.1])), (9, .cells [.slc 998]), (13, .one (.pair tI (.pair tI tI)) v203), (998, .seq (.pair (.slice tI) (.slice tI)) x201.2.2)]) (obs := []) (by kernel_rfl) (by kernel_rfl) (by kernel_rfl) allP0 ?_
                refine seqQ_norm ?_
                refine W_cond (o := .tmp 92) (b := v203.1 == (4 : Int)) (by kernel_rfl) (by kernel_rfl) (fun h281 => ?_) (fun h281 => ?_)
                · replace h := ofT h281 h
                  refine W_seq (by kernel_rfl) ?_
                  obtain ⟨v282, h283, h⟩ := bind_of h
                  refine W_run 6 [(9, .val (.dat tI v282))] [8, 9, 10, 11, 14, 15, 17, 26, 27, 28] [39, 9, 998] (fr' := [(8, .one (.slc 39)), (9, .one (.ptr 9 0)), (10, aI (w64 (x201.1 + (1 : Int)))), (11, .one (.fn 42 [(9, 0)])), (14, aI x201.1), (15, aI v264), (17, aI v282), (26, aD (.slice (.pair tI (.pair tI tI))) a1), (27, aI (List.length a1 : Int)), (28, aI i200)]) (L' := [(39, .seq tI (x201.2.1 ++ [x201.1])), (9, .cells [.slc 998]), (998, .seq (.pair (.slice tI) (.slice tI)) x201.2.2)]) (obs := [InR v203.2.2 (List.length (x201.2.1 ++ [x201.1])), Idx (x201.2.1 ++ [x201.1]) v203.2.2 v282]) (by kernel_rfl) (by kernel_rfl) (by kernel_rfl) (allP2 (InR.of h283) (allP1 (Idx.of h283))) ?_
                  refine seqQ_norm ?_
                  refine W_seq (by kernel_rfl) ?_
                  refine W_region (by kernel_rfl) ?_
                  refine WO_run (j := 5) (k := 5) (orcs := []) (kF := [8, 9, 10, 11, 14, 15, 17, 26, 27, 28, 99, 101, 103]) (kL := [9, 39, 101, 103, 998]) (fr' := [(8, .one (.slc 39)), (9, .one (.ptr 9 0)), (10, aI (w64 (x201.1 + (1 : Int)))), (11, .one (.fn 42 [(9, 0)])), (14, aI x201.1), (15, aI v264), (17, aI v282), (26, aD (.slice (.pair tI (.pair tI tI))) a1), (27, aI (List.length a1 : Int)), (28, aI i200), (99, .one (.fn 42 [(9, 0)])), (101, .one (.slc 101)), (103, .one (.slc 103))]) (L' := [(9, .cells [.slc 998]), (39, .seq tI (x201.2.1 ++ [x201.1])), (101, .seq tI [x201.1]), (103, .seq tI [v264]), (998, .seq (.pair (.slice tI) (.slice tI)) x201.2.2)]) (obs := []) rfl (by kernel_rfl) allP0 ?_
                  obtain ⟨r284, h285, h⟩ := bind_of h
                  refine WO_frz 101 (by kernel_rfl) ?_
                  refine WO_frz 103 (by kernel_rfl) ?_
                  refine WO_lend2 [(1000, 9), (2001, 998)] (us := [none, none, none]) (d := 104) (p := True) (j := 6) rfl ⟨by kernel_rfl, by kernel_rfl, by kernel_rfl⟩ trivial (name_Build_1_i3_ok h285) (by kernel_rfl) (by kernel_rfl) ?_
                  refine WO_fin [8, 9, 10, 11, 14, 15, 17, 26, 27, 28] [39, 9, 998] (fr' := [(8, .one (.slc 39)), (9, .one (.ptr 9 0)), (10, aI (w64 (x201.1 + (1 : Int)))), (11, .one (.fn 42 [(9, 0)])), (14, aI x201.1), (15, aI v264), (17, aI v282), (26, aD (.slice (.pair tI (.pair tI tI))) a1), (27, aI (List.length a1 : Int)), (28, aI i200)]) (L' := [(39, .seq tI (x201.2.1 ++ [x201.1])), (9, .cells [.slc 998]), (998, .seq (.pair (.slice tI) (.slice tI)) r284)]) (by kernel_rfl) (by kernel_rfl) ?_
                  refine seqQ_norm ?_
                  refine W_seq (by kernel_rfl) ?_
                  refine W_region (by kernel_rfl) ?_
                  refine WO_run (j := 5) (k := 5) (orcs := []) (kF := [8, 9, 10, 11, 14, 15, 17, 26, 27, 28, 105, 107, 109]) (kL := [9, 39, 107, 109, 998]) (fr' := [(8, .one (.slc 39)), (9, .one (.ptr 9 0)), (10, aI (w64 (x201.1 + (1 : Int)))), (11, .one (.fn 42 [(9, 0)])), (14, aI x201.1), (15, aI v264), (17, aI v282), (26, aD (.slice (.pair tI (.pair tI tI))) a1), (27, aI (List.length a1 : Int)), (28, aI i200), (105, .one (.fn 42 [(9, 0)])), (107, .one (.slc 107)), (109, .one (.slc 109))]) (L' := [(9, .cells [.slc 998]), (39, .seq tI (x201.2.1 ++ [x201.1])), (107, .seq tI [x201.1]), (109, .seq tI [v282]), (998, .seq (.pair (.slice tI) (.slice tI)) r284)]) (obs := []) rfl (by kernel_rfl) allP0 ?_
                  obtain ⟨r286, h287, h⟩ := bind_of h
                  refine WO_frz 107 (by kernel_rfl) ?_
                  refine WO_frz 109 (by kernel_rfl) ?_
                  refine WO_lend2 [(1000, 9), (2001, 998)] (us := [none, none, none]) (d := 110) (p := True) (j := 6) rfl ⟨by kernel_rfl, by kernel_rfl, by kernel_rfl⟩ trivial (name_Build_1_i3_ok h287) (by kernel_rfl) (by kernel_rfl) ?_
                  refine WO_fin [8, 9, 10, 11, 14, 15, 17, 26, 27, 28] [39, 9, 998] (fr' := [(8, .one (.slc 39)), (9, .one (.ptr 9 0)), (10, aI (w64 (x201.1 + (1 : Int)))), (11, .one (.fn 42 [(9, 0)])), (14, aI x201.1), (15, aI v264), (17, aI v282), (26, aD (.slice (.pair tI (.pair tI tI))) a1), (27, aI (List.length a1 : Int)), (28, aI i200)]) (L' := [(39, .seq tI (x201.2.1 ++ [x201.1])), (9, .cells [.slc 998]), (998, .seq (.pair (.slice tI) (.slice tI)) r286)]) (by kernel_rfl) (by kernel_rfl) ?_
                  refine seqQ_norm ?_
                  refine W_region (by kernel_rfl) ?_
                  refine WO_run (j := 6) (k := 6) (orcs := []) (kF := [8, 9, 10, 11, 26, 27, 28, 111, 114, 116]) (kL := [9, 39, 114, 116, 998]) (fr' := [(8, .one (.slc 39)), (9, .one (.ptr 9 0)), (10, aI (w64 (x201.1 + (1 : Int)))), (11, .one (.fn 42 [(9, 0)])), (26, aD (.slice (.pair tI (.pair tI tI))) a1), (27, aI (List.length a1 : Int)), (28, aI i200), (111, .one (.fn 42 [(9, 0)])), (114, .one (.slc 114)), (116, .one (.slc 116))]) (L' := [(9, .cells [.slc 998]), (39, .seq tI (x201.2.1 ++ [x201.1])), (114, .seq tI [v264, v282]), (116, .seq tI [x201.1]), (998, .seq (.pair (.slice tI) (.slice tI)) r286)]) (obs := []) rfl (by kernel_rfl) allP0 ?_
                  obtain ⟨r288, h289, h⟩ := bind_of h
                  refine WO_frz 114 (by kernel_rfl) ?_
                  refine WO_frz 116 (by kernel_rfl) ?_
                  refine WO_lend2 [(1000, 9), (2001, 998)] (us := [none, none, none]) (d := 117) (p := True) (j := 7) rfl ⟨by kernel_rfl, by kernel_rfl, by kernel_rfl⟩ trivial (name_Build_1_i3_ok h289) (by kernel_rfl) (by kernel_rfl) ?_
                  obtain rfl := Option.some.inj h
                  refine WO_fin [8, 9, 10, 11, 26, 27, 28] [39, 9, 998] (fr' := [(8, .one (.slc 39)), (9, .one (.ptr 9 0)), (10, aI (w64 (x201.1 + (1 : Int)))), (11, .one (.fn 42 [(9, 0)])), (26, aD (.slice (.pair tI (.pair tI tI))) a1), (27, aI (List.length a1 : Int)), (28, aI i200)]) (L' := [(39, .seq tI (x201.2.1 ++ [x201.1])), (9, .cells [.slc 998]), (998, .seq (.pair (.slice tI) (.slice tI)) r288)]) (by kernel_rfl) (by kernel_rfl) ?_
                  refine blockQ_norm ?_
                  refine blockQ_norm ?_
                  exact exQ_mk (by kernel_rfl) (by kernel_rfl)
                · replace h := ofF h281 h
                  obtain rfl := Option.some.inj h
                  refine W_skip [8, 9, 10, 11, 26, 27, 28] [39, 9, 998] (fr' := [(8, .one (.slc 39)), (9, .one (.ptr 9 0)), (10, aI (w64 (x201.1 + (1 : Int)))), (11, .one (.fn 42 [(9, 0)])), (26, aD (.slice (.pair tI (.pair tI tI))) a1), (27, aI (List.length a1 : Int)), (28, aI i200)]) (L' := [(39, .seq tI (x201.2.1 ++ [x201.1])), (9, .cells [.slc 998]), (998, .seq (.pair (.slice tI) (.slice tI)) x201.2.2)]) (by kernel_rfl) (by kernel_rfl) ?_
                  refine blockQ_norm ?_
                  refine blockQ_norm ?_
                  exact exQ_mk (by kernel_rfl) (by kernel_rfl)
        · intro e fr L hJ
          obtain ⟨rfl, rfl, rfl⟩ := hJ
          refine LT_keep [8, 9, 10, 11, 26, 27, 28] [39, 9, 998] (fr' := [(8, .one (.slc 39)), (9, .one (.ptr 9 0)), (10, aI v290.1), (11, .one (.fn 42 [(9, 0)])), (26, aD (.slice (.pair tI (.pair tI tI))) a1), (27, aI (List.length a1 : Int)), (28, aI i200)]) (L' := [(39, .seq tI v290.2.1), (9, .cells [.slc 998]), (998, .seq (.pair (.slice tI) (.slice tI)) v290.2.2)]) (by kernel_rfl) ?_
          refine seqQ_norm ?_
          obtain rfl := Option.some.inj h
          refine W_run 2 [] [8, 9, 10, 11, 26, 27, 28] [39, 9, 998] (fr' := [(8, .one (.slc 39)), (9, .one (.ptr 9 0)), (10, aI v290.1), (11, .one (.fn 42 [(9, 0)])), (26, aD (.slice (.pair tI (.pair tI tI))) a1), (27, aI (List.length a1 : Int)), (28, aI (w64 (i200 + (1 : Int))))]) (L' := [(39, .seq tI v290.2.1), (9, .cells [.slc 998]), (998, .seq (.pair (.slice tI) (.slice tI)) v290.2.2)]) (obs := []) (by kernel_rfl) (by kernel_rfl) (by kernel_rfl) allP0 ?_
          exact round_next' (by kernel_rfl) (by kernel_rfl)
      · obtain rfl := stepL_false h205 h
        refine W_exit (id := 0) [8, 9, 10, 11] [39, 9, 998] (fr' := [(8, .one (.slc 39)), (9, .one (.ptr 9 0)), (10, aI x201.1), (11, .one (.fn 42 [(9, 0)]))]) (L' := [(39, .seq tI x201.2.1), (9, .cells [.slc 998]), (998, .seq (.pair (.slice tI) (.slice tI)) x201.2.2)]) (by kernel_rfl) (by kernel_rfl) ?_
        refine seqQ_exit ?_
        refine round_exit ?_
        exact exQ_mk (by kernel_rfl) (by kernel_rfl)
    · intro e fr L hJ
      obtain ⟨rfl, rfl, rfl⟩ := hJ
      refine LT_keep [8, 9, 10, 11] [39, 9, 998] (fr' := [(8, .one (.slc 39)), (9, .one (.ptr 9 0)), (10, aI v293.1), (11, .one (.fn 42 [(9, 0)]))]) (L' := [(39, .seq tI v293.2.1), (9, .cells [.slc 998]), (998, .seq (.pair (.slice tI) (.slice tI)) v293.2.2)]) (by kernel_rfl) ?_
      refine blockQ_hit ?_
      refine seqQ_norm ?_
      refine W_seq (by kernel_rfl) ?_
      obtain ⟨v298, h299, h⟩ := bind_of h
      refine W_region (by kernel_rfl) ?_
      refine WO_run (j := 8) (k := 8) (orcs := [(13, .val (.dat tI v298))]) (kF := [9, 10, 119, 126]) (kL := [9, 39, 126, 998]) (fr' := [(9, .one (.ptr 9 0)), (10, aI v293.1), (119, .one (.fn 42 [(9, 0)])), (126, .one (.slc 126))]) (L' := [(9, .cells [.slc 998]), (39, .seq tI v293.2.1), (126, .seq tI [v298]), (998, .seq (.pair (.slice tI) (.slice tI)) v293.2.2)]) (obs := [InR (w64 ((List.length v293.2.1 : Int) - (1 : Int))) (List.length v293.2.1), Idx v293.2.1 (w64 ((List.length v293.2.1 : Int) - (1 : Int))) v298]) rfl (by kernel_rfl) (allP2 (InR.of h299) (allP1 (Idx.of h299))) ?_
      obtain ⟨r300, h301, h⟩ := bind_of h
      refine WO_frz 126 (by kernel_rfl) ?_
      refine WO_lend2 [(1000, 9), (2001, 998)] (us := [none, some (.slice tI), none]) (d := 127) (p := True) (j := 9) rfl ⟨by kernel_rfl, by kernel_rfl, by kernel_rfl⟩ trivial (name_Build_1_i3_ok h301) (by kernel_rfl) (by kernel_rfl) ?_
      refine WO_fin [9, 10] [9, 998] (fr' := [(9, .one (.ptr 9 0)), (10, aI v293.1)]) (L' := [(9, .cells [.slc 998]), (998, .seq (.pair (.slice tI) (.slice tI)) r300)]) (by kernel_rfl) (by kernel_rfl) ?_
      refine seqQ_norm ?_
      refine W_seq (by kernel_rfl) ?_
      refine W_draw2 3 [] [] [4, 5, 6] [998] (fr' := [(4, aI v293.1), (5, .one (.slc 998)), (6, aI (0 : Int))]) (L' := [(998, .seq (.pair (.slice tI) (.slice tI)) r300)]) (out := [(128, aI v293.1), (129, .one (.slc 998)), (4, aI v293.1)]) (obs := []) (obs2 := []) (calls := []) (by kernel_rfl) (by kernel_rfl) (by kernel_rfl) (by kernel_rfl) allP0 allC0 (by kernel_rfl) allP0 ?_
      refine seqQ_norm ?_
      obtain rfl := Option.some.inj h
      refine W_frz 998 (by kernel_rfl) ?_
      refine W_ret [4, 5, 6] [] (fr' := [(4, aI v293.1), (5, aD (.slice (.pair (.slice tI) (.slice tI))) r300), (6, aI (0 : Int))]) (L' := []) (by kernel_rfl) (by kernel_rfl) ?_
      exact retQ_mk (by kernel_rfl) (by kernel_rfl) (by kernel_rfl)

def ref_Within (a0 : Int) (a1 : Int) (a2 : Int) : Option Bool :=
some ((decide (a0 ≤ a1)) && (decide (a1 ≤ a2)))
theorem ref_Within_ok {a0 : Int} {a1 : Int} {a2 : Int} {r : Bool} (h : ref_Within a0 a1 a2 = some r) : FnC Try.prog 13 [aI a0, aI a1, aI a2] [] (aB r) [] := by
  refine fnC_of_W (B := bodyOf Try.f13) (n := 15) Try.func13 (by kernel_rfl) (by kernel_rfl) (by kernel_rfl) (by kernel_rfl) (by kernel_rfl) ?_
  intro K
  refine W_seq (by kernel_rfl) ?_
  refine W_run 1 [] [0, 1, 2] [] (fr' := [(0, aI a0), (1, aI a1), (2, aI a2)]) (L' := []) (obs := []) (by kernel_rfl) (by kernel_rfl) (by kernel_rfl) allP0 ?_
  refine seqQ_norm ?_
  refine W_seq (by kernel_rfl) ?_
  refine W_run 9 [] [6] [] (fr' := [(6, aB ((decide (a0 ≤ a1)) && (decide (a1 ≤ a2))))]) (L' := []) (obs := []) (by kernel_rfl) (by kernel_rfl) (by kernel_rfl) allP0 ?_
  refine seqQ_norm ?_
  obtain rfl := Option.some.inj h
  refine W_ret [6] [] (fr' := [(6, aB ((decide (a0 ≤ a1)) && (decide (a1 ≤ a2))))]) (L' := []) (by kernel_rfl) (by kernel_rfl) ?_
  exact retQ_mk (by kernel_rfl) (by kernel_rfl) (by kernel_rfl)

def ref_Inside_b1 (a0 : Int) (i11 : Int) (v14 : Int) (x12 : Unit) : Option (Flow Unit (Esc Bool Unit)) :=
bif (decide (v14 < (0 : Int))) || (decide (v14 ≥ a0)) then
(some (.done (.ret false)))
else
(some (.next ()))
@[reducible] def ref_Inside_s2 (a0 : Int) (a1 : (List Int)) (v : Int × Unit) : Fr × LL := ([(0, aI a0), (7, aD (.slice tI) a1), (8, aI (List.length a1 : Int)), (9, aI v.1)], [])
@[reducible] def ref_Inside_s3 (v : Bool) : Fr × LL := ([(4, aB v)], [])
@[reducible] def ref_Inside_s4 (v : Unit) : Fr × LL := ([], [])
def ref_Inside (a0 : Int) (a1 : (List Int)) : Option Bool :=
(forL (ref_Inside_b1 a0) (fun x12 => (.brk ())) a1 0 ()).bind fun v19 =>
match v19 with
| .ret v24 =>
(some v24)
| .brk v25 =>
(some true)
theorem ref_Inside_ok {a0 : Int} {a1 : (List Int)} {r : Bool} (h : ref_Inside a0 a1 = some r) : FnC Try.prog 14 [aI a0, aD (.slice tI) a1] [] (aB r) [] := by
  refine fnC_of_W (B := bodyOf Try.f14) (n := 21) Try.func14 (by kernel_rfl) (by kernel_rfl) (by kernel_rfl) (by kernel_rfl) (by kernel_rfl) ?_
  intro K
  refine W_seq (by kernel_rfl) ?_
  refine W_run 1 [] [0, 1] [] (fr' := [(0, aI a0), (1, aD (.slice tI) a1)]) (L' := []) (obs := []) (by kernel_rfl) (by kernel_rfl) (by kernel_rfl) allP0 ?_
  refine seqQ_norm ?_
  refine W_seq (by kernel_rfl) ?_
  refine W_seq (by kernel_rfl) ?_
  refine W_run 3 [] [0, 7, 8, 9] [] (fr' := [(0, aI a0), (7, aD (.slice tI) a1), (8, aI (List.length a1 : Int)), (9, aI (0 : Int))]) (L' := []) (obs := []) (by kernel_rfl) (by kernel_rfl) (by kernel_rfl) allP0 ?_
  refine seqQ_norm ?_
  refine W_block (id := 0) (by kernel_rfl) ?_
  obtain ⟨v19, h20, h⟩ := bind_of h
  refine W_len (t := 7) (u := tI) (xs := a1) (by kernel_rfl) (fun h23 => ?_)
  obtain ⟨h21, h22⟩ := forL_iter h23 h20
  refine W_weaken [0, 7, 8, 9] [] (fr' := ((ref_Inside_s2 a0 a1) ((0 : Int), ())).1) (L' := ((ref_Inside_s2 a0 a1) ((0 : Int), ())).2) (by kernel_rfl) ?_
  refine W_cutK (W_loop (S := (ref_Inside_s2 a0 a1)) (J := (escQ (exQ .ret ref_Inside_s3) (exQ (.exit 0) ref_Inside_s4))) (by kernel_rfl) ?_ h21 _ v19 h22) ?_
  · rintro ⟨i11, x12⟩ s h
    refine W_seq (by kernel_rfl) ?_
    refine W_run 1 [] [0, 7, 8, 9, 10] [] (fr' := [(0, aI a0), (7, aD (.slice tI) a1), (8, aI (List.length a1 : Int)), (9, aI i11), (10, aB (decide (i11 < (List.length a1 : Int))))]) (L' := []) (obs := []) (by kernel_rfl) (by kernel_rfl) (by kernel_rfl) allP0 ?_
    refine seqQ_norm ?_
    refine W_seq (by kernel_rfl) ?_
    refine W_cond (o := .tmp 10) (b := decide (i11 < (List.length a1 : Int))) (by kernel_rfl) (by kernel_rfl) (fun h16 => ?_) (fun h16 => ?_)
    · replace h := stepL_true h16 h
      obtain ⟨v14, _, h15, h, rfl⟩ := h
      refine W_skip [0, 7, 8, 9] [] (fr' := [(0, aI a0), (7, aD (.slice tI) a1), (8, aI (List.length a1 : Int)), (9, aI i11)]) (L' := []) (by kernel_rfl) (by kernel_rfl) ?_
      refine seqQ_norm ?_
      refine W_seq (by kernel_rfl) ?_
      refine W_block (id := 1) (by kernel_rfl) ?_
      refine W_seq (by kernel_rfl) ?_
      refine W_run 3 [(1, .val (.dat tI v14))] [0, 6, 7, 8, 9] [] (fr' := [(0, aI a0), (6, aI v14), (7, aD (.slice tI) a1), (8, aI (List.length a1 : Int)), (9, aI i11)]) (L' := []) (obs := [Idx a1 i11 v14]) (by kernel_rfl) (by kernel_rfl) (by kernel_rfl) (allP1 (Idx.of h15)) ?_
      refine seqQ_norm ?_
      refine W_seq (by kernel_rfl) ?_
      refine W_run 7 [] [0, 7, 8, 9, 19] [] (fr' := [(0, aI a0), (7, aD (.slice tI) a1), (8, aI (List.length a1 : Int)), (9, aI i11), (19, aB ((decide (v14 < (0 : Int))) || (decide (v14 ≥ a0))))]) (L' := []) (obs := []) (by kernel_rfl) (by kernel_rfl) (by kernel_rfl) allP0 ?_
      refine seqQ_norm ?_
      refine W_cond (o := .tmp 19) (b := (decide (v14 < (0 : Int))) || (decide (v14 ≥ a0))) (by kernel_rfl) (by kernel_rfl) (fun h17 => ?_) (fun h17 => ?_)
      · replace h := ofT h17 h
        refine W_seq (by kernel_rfl) ?_
        refine W_run 1 [] [4] [] (fr' := [(4, aB false)]) (L' := []) (obs := []) (by kernel_rfl) (by kernel_rfl) (by kernel_rfl) allP0 ?_
        refine seqQ_norm ?_
        obtain rfl := Option.some.inj h
        refine W_ret [4] [] (fr' := [(4, aB false)]) (L' := []) (by kernel_rfl) (by kernel_rfl) ?_
        refine blockQ_ret ?_
        refine seqQ_ret ?_
        refine round_ret ?_
        refine escQ_ret ?_
        exact exQ_mk (by kernel_rfl) (by kernel_rfl)
      · replace h := ofF h17 h
        refine W_skip [0, 7, 8, 9] [] (fr' := [(0, aI a0), (7, aD (.slice tI) a1), (8, aI (List.length a1 : Int)), (9, aI i11)]) (L' := []) (by kernel_rfl) (by kernel_rfl) ?_
        refine blockQ_norm ?_
        refine seqQ_norm ?_
        obtain rfl := Option.some.inj h
        refine W_run 2 [] [0, 7, 8, 9] [] (fr' := [(0, aI a0), (7, aD (.slice tI) a1), (8, aI (List.length a1 : Int)), (9, aI (w64 (i11 + (1 : Int))))]) (L' := []) (obs := []) (by kernel_rfl) (by kernel_rfl) (by kernel_rfl) allP0 ?_
        exact round_next' (by kernel_rfl) (by kernel_rfl)
    · obtain rfl := stepL_false h16 h
      refine W_exit (id := 0) [] [] (fr' := []) (L' := []) (by kernel_rfl) (by kernel_rfl) ?_
      refine seqQ_exit ?_
      refine round_exit ?_
      refine escQ_brk ?_
      exact exQ_mk (by kernel_rfl) (by kernel_rfl)
  · intro e fr L hJ
    rcases v19 with v24 | v25
    · obtain ⟨rfl, rfl, rfl⟩ := hJ
      obtain rfl := Option.some.inj h
      refine LT_keep [4] [] (fr' := [(4, aB v24)]) (L' := []) (by kernel_rfl) ?_
      refine blockQ_ret ?_
      refine seqQ_ret ?_
      exact retQ_mk (by kernel_rfl) (by kernel_rfl) (by kernel_rfl)
    · obtain ⟨rfl, rfl, rfl⟩ := hJ
      refine LT_keep [] [] (fr' := []) (L' := []) (by kernel_rfl) ?_
      refine blockQ_hit ?_
      refine seqQ_norm ?_
      refine W_seq (by kernel_rfl) ?_
      refine W_run 1 [] [4] [] (fr' := [(4, aB true)]) (L' := []) (obs := []) (by kernel_rfl) (by kernel_rfl) (by kernel_rfl) allP0 ?_
      refine seqQ_norm ?_
      obtain rfl := Option.some.inj h
      refine W_ret [4] [] (fr' := [(4, aB true)]) (L' := []) (by kernel_rfl) (by kernel_rfl) ?_
      exact retQ_mk (by kernel_rfl) (by kernel_rfl) (by kernel_rfl)

def ref_GatesCheck_g7 (i105 : Int) (v108 : (Int × (Int × Int))) : Option Bool :=
bif v108.1 != (1 : Int) then
((ref_Inside i105 [v108.2.1]).bind fun r147 =>
bif !r147 then
(some true)
else
(bif decide (v108.1 ≥ (3 : Int)) then
((ref_Inside i105 [v108.2.2]).bind fun r151 =>
some (!r151))
else
(some false)))
else
(bif decide (v108.1 ≥ (3 : Int)) then
((ref_Inside i105 [v108.2.2]).bind fun r154 =>
some (!r154))
else
(some false))
@[reducible] def ref_GatesCheck_s8 (a0 : Int) (a1 : (List (Int × (Int × Int)))) (i105 : Int) (v : Bool) : Fr × LL := ([(0, aI a0), (7, aD (.slice (.pair tI (.pair tI tI))) a1), (8, aI (List.length a1 : Int)), (9, aI i105), (52, aB v)], [])
@[reducible] def ref_GatesCheck_s9 (a0 : Int) (a1 : (List (Int × (Int × Int)))) (i105 : Int) (v108 : (Int × (Int × Int))) (v : Bool) : Fr × LL := ([(0, aI a0), (5, aI i105), (6, .one (.ptr 6 0)), (7, aD (.slice (.pair tI (.pair tI tI))) a1), (8, aI (List.length a1 : Int)), (9, aI i105), (28, aB v)], [(6, .one (.pair tI (.pair tI tI)) v108)])
def ref_GatesCheck_b10 (a0 : Int) (i105 : Int) (v108 : (Int × (Int × Int))) (x106 : Unit) : Option (Flow Unit (Esc Int Unit)) :=
(ref_Within (1 : Int) v108.1 (4 : Int)).bind fun r111 =>
bif !r111 then
(some (.done (.ret (6 : Int))))
else
((bif v108.1 == (1 : Int) then
((ref_Inside a0 [v108.2.1]).bind fun r121 =>
some (!r121))
else
(some false)).bind fun v123 =>
bif v123 then
(some (.done (.ret (4 : Int))))
else
((ref_GatesCheck_g7 i105 v108).bind fun v156 =>
bif v156 then
(some (.done (.ret (2 : Int))))
else
(some (.next ()))))
@[reducible] def ref_GatesCheck_s11 (a0 : Int) (a1 : (List (Int × (Int × Int)))) (v : Int × Unit) : Fr × LL := ([(0, aI a0), (7, aD (.slice (.pair tI (.pair tI tI))) a1), (8, aI (List.length a1 : Int)), (9, aI v.1)], [])
@[reducible] def ref_GatesCheck_s12 (v : Int) : Fr × LL := ([(4, aI v)], [])
@[reducible] def ref_GatesCheck_s13 (v : Unit) : Fr × LL := ([], [])
def ref_GatesCheck (a0 : Int) (a1 : (List (Int × (Int × Int)))) : Option Int :=
(forL (ref_GatesCheck_b10 a0) (fun x106 => (.brk ())) a1 0 ()).bind fun v160 =>
match v160 with
| .ret v165 =>
(some v165)
| .brk v166 =>
(some (0 : Int))
theorem ref_GatesCheck_ok {a0 : Int} {a1 : (List (Int × (Int × Int)))} {r : Int} (h : ref_GatesCheck a0 a1 = some r) : FnC Try.prog 43 [aI a0, aD (.slice (.pair tI (.pair tI tI))) a1] [] (aI r) [] := by
  refine fnC_of_W (B := bodyOf Try.f43) (n := 54) Try.func43 (by kernel_rfl) (by kernel_rfl) (by kernel_rfl) (by kernel_rfl) (by kernel_rfl) ?_
  intro K
  refine W_seq (by kernel_rfl) ?_
  refine W_run 1 [] [0, 1] [] (fr' := [(0, aI a0), (1, aD (.slice (.pair tI (.pair tI tI))) a1)]) (L' := []) (obs := []) (by kernel_rfl) (by kernel_rfl) (by kernel_rfl) allP0 ?_
  refine seqQ_norm ?_
  refine W_seq (by kernel_rfl) ?_
  refine W_seq (by kernel_rfl) ?_
  refine W_run 3 [] [0, 7, 8, 9] [] (fr' := [(0, aI a0), (7, aD (.slice (.pair tI (.pair tI tI))) a1), (8, aI (List.length a1 : Int)), (9, aI (0 : Int))]) (L' := []) (obs := []) (by kernel_rfl) (by kernel_rfl) (by kernel_rfl) allP0 ?_
  refine seqQ_norm ?_
  refine W_block (id := 0) (by kernel_rfl) ?_
  obtain ⟨v160, h161, h⟩ := bind_of h
  refine W_len (t := 7) (u := (.pair tI (.pair tI tI))) (xs := a1) (by kernel_rfl) (fun h164 => ?_)
  obtain ⟨h162, h163⟩ := forL_iter h164 h161
  refine W_weaken [0, 7, 8, 9] [] (fr' := ((ref_GatesCheck_s11 a0 a1) ((0 : Int), ())).1) (L' := ((ref_GatesCheck_s11 a0 a1) ((0 : Int), ())).2) (by kernel_rfl) ?_
  refine W_cutK (W_loop (S := (ref_GatesCheck_s11 a0 a1)) (J := (escQ (exQ .ret ref_GatesCheck_s12) (exQ (.exit 0) ref_GatesCheck_s13))) (by kernel_rfl) ?_ h162 _ v160 h163) ?_
  · rintro ⟨i105, x106⟩ s h
    refine W_seq (by kernel_rfl) ?_
    refine W_run 1 [] [0, 7, 8, 9, 10] [] (fr' := [(0, aI a0), (7, aD (.slice (.pair tI (.pair tI tI))) a1), (8, aI (List.length a1 : Int)), (9, aI i105), (10, aB (decide (i105 < (List.length a1 : Int))))]) (L' := []) (obs := []) (by kernel_rfl) (by kernel_rfl) (by kernel_rfl) allP0 ?_
    refine seqQ_norm ?_
    refine W_seq (by kernel_rfl) ?_
    refine W_cond (o := .tmp 10) (b := decide (i105 < (List.length a1 : Int))) (by kernel_rfl) (by kernel_rfl) (fun h110 => ?_) (fun h110 => ?_)
    · replace h := stepL_true h110 h
      obtain ⟨v108, _, h109, h, rfl⟩ := h
      refine W_skip [0, 7, 8, 9] [] (fr' := [(0, aI a0), (7, aD (.slice (.pair tI (.pair tI tI))) a1), (8, aI (List.length a1 : Int)), (9, aI i105)]) (L' := []) (by kernel_rfl) (by kernel_rfl) ?_
      refine seqQ_norm ?_
      refine W_seq (by kernel_rfl) ?_
      refine W_block (id := 1) (by kernel_rfl) ?_
      refine W_seq (by kernel_rfl) ?_
      refine W_run 6 [(3, .val (.dat (.pair tI (.pair tI tI)) v108)), (7, .typed)] [0, 5, 6, 7, 8, 9] [6] (fr' := [(0, aI a0), (5, aI i105), (6, .one (.ptr 6 0)), (7, aD (.slice (.pair tI (.pair tI tI))) a1), (8, aI (List.length a1 : Int)), (9, aI i105)]) (L' := [(6, .one (.pair tI (.pair tI tI)) v108)]) (obs := [Idx a1 i105 v108, True]) (by kernel_rfl) (by kernel_rfl) (by kernel_rfl) (allP2 (Idx.of h109) (allP1 trivial)) ?_
      refine seqQ_norm ?_
      refine W_seq (by kernel_rfl) ?_
      refine W_seq (by kernel_rfl) ?_
      refine W_region (by kernel_rfl) ?_
      refine WO_run (j := 2) (k := 2) (orcs := []) (kF := [0, 5, 6, 7, 8, 9, 15]) (kL := [6]) (fr' := [(0, aI a0), (5, aI i105), (6, .one (.ptr 6 0)), (7, aD (.slice (.pair tI (.pair tI tI))) a1), (8, aI (List.length a1 : Int)), (9, aI i105), (15, aI v108.1)]) (L' := [(6, .one (.pair tI (.pair tI tI)) v108)]) (obs := []) rfl (by kernel_rfl) allP0 ?_
      obtain ⟨r111, h112, h⟩ := bind_of h
      refine WO_call0 (us := [none, none, none]) (d := 16) (p := True) (j := 3) rfl ⟨by kernel_rfl, by kernel_rfl, by kernel_rfl⟩ trivial (ref_Within_ok h112) (by kernel_rfl) ?_
      refine WO_run (j := 4) (k := 1) (orcs := []) (kF := [0, 5, 6, 7, 8, 9, 17]) (kL := [6]) (fr' := [(0, aI a0), (5, aI i105), (6, .one (.ptr 6 0)), (7, aD (.slice (.pair tI (.pair tI tI))) a1), (8, aI (List.length a1 : Int)), (9, aI i105), (17, aB (!r111))]) (L' := [(6, .one (.pair tI (.pair tI tI)) v108)]) (obs := []) rfl (by kernel_rfl) allP0 ?_
      refine WO_fin [0, 5, 6, 7, 8, 9, 17] [6] (fr' := [(0, aI a0), (5, aI i105), (6, .one (.ptr 6 0)), (7, aD (.slice (.pair tI (.pair tI tI))) a1), (8, aI (List.length a1 : Int)), (9, aI i105), (17, aB (!r111))]) (L' := [(6, .one (.pair tI (.pair tI tI)) v108)]) (by kernel_rfl) (by kernel_rfl) ?_
      refine seqQ_norm ?_
      refine W_cond (o := .tmp 17) (b := !r111) (by kernel_rfl) (by kernel_rfl) (fun h113 => ?_) (fun h113 => ?_)
      · replace h := ofT h113 h
        refine W_seq (by kernel_rfl) ?_
        refine W_run 1 [] [4] [] (fr' := [(4, aI (6 : Int))]) (L' := []) (obs := []) (by kernel_rfl) (by kernel_rfl) (by kernel_rfl) allP0 ?_
        refine seqQ_norm ?_
        obtain rfl := Option.some.inj h
        refine W_ret [4] [] (fr' := [(4, aI (6 : Int))]) (L' := []) (by kernel_rfl) (by kernel_rfl) ?_
        refine seqQ_ret ?_
        refine blockQ_ret ?_
        refine seqQ_ret ?_
        refine round_ret ?_
        refine escQ_ret ?_
        exact exQ_mk (by kernel_rfl) (by kernel_rfl)
      · replace h := ofF h113 h
        refine W_skip [0, 5, 6, 7, 8, 9] [6] (fr' := [(0, aI a0), (5, aI i105), (6, .one (.ptr 6 0)), (7, aD (.slice (.pair tI (.pair tI tI))) a1), (8, aI (List.length a1 : Int)), (9, aI i105)]) (L' := [(6, .one (.pair tI (.pair tI tI)) v108)]) (by kernel_rfl) (by kernel_rfl) ?_
        refine seqQ_norm ?_
        refine W_seq (by kernel_rfl) ?_
        refine W_seq (by kernel_rfl) ?_
        obtain ⟨v123, h124, h⟩ := bind_of h
        refine W_cutK (Q' := (exQ .normal (ref_GatesCheck_s9 a0 a1 i105 v108)) v123) ?_ ?_
        · replace h := h124
          refine W_region (by kernel_rfl) ?_
          refine WO_run (j := 4) (k := 4) (orcs := []) (kF := [0, 5, 6, 7, 8, 9, 21]) (kL := [6]) (fr' := [(0, aI a0), (5, aI i105), (6, .one (.ptr 6 0)), (7, aD (.slice (.pair tI (.pair tI tI))) a1), (8, aI (List.length a1 : Int)), (9, aI i105), (21, aB (v108.1 == (1 : Int)))]) (L' := [(6, .one (.pair tI (.pair tI tI)) v108)]) (obs := []) rfl (by kernel_rfl) allP0 ?_
          rcases Bool.eq_false_or_eq_true (v108.1 == (1 : Int)) with h120 | h120
          · replace h := ofT h120 h
            refine WO_run (j := 8) (k := 4) (orcs := [(8, .known true), (10, .known true), (12, .known true), (14, .known true)]) (kF := [0, 5, 6, 7, 8, 9, 21, 22, 25]) (kL := [6, 25]) (fr' := [(0, aI a0), (5, aI i105), (6, .one (.ptr 6 0)), (7, aD (.slice (.pair tI (.pair tI tI))) a1), (8, aI (List.length a1 : Int)), (9, aI i105), (21, aB (v108.1 == (1 : Int))), (22, aI a0), (25, .one (.slc 25))]) (L' := [(6, .one (.pair tI (.pair tI tI)) v108), (25, .seq tI [v108.2.1])]) (obs := [((v108.1 == (1 : Int)) = true), ((v108.1 == (1 : Int)) = true), ((v108.1 == (1 : Int)) = true), ((v108.1 == (1 : Int)) = true)]) rfl (by kernel_rfl) (allP2 h120 (allP2 h120 (allP2 h120 (allP1 h120)))) ?_
            obtain ⟨r121, h122, h⟩ := bind_of h
            refine WO_frz 25 (by kernel_rfl) ?_
            refine WO_call0 (us := [none, none]) (d := 26) (p := ((v108.1 == (1 : Int)) = true)) (j := 9) rfl ⟨by kernel_rfl, by kernel_rfl, by kernel_rfl⟩ h120 (ref_Inside_ok h122) (by kernel_rfl) ?_
            refine WO_run (j := 11) (k := 2) (orcs := [(18, .known true), (21, .val (.dat .bool true))]) (kF := [0, 5, 6, 7, 8, 9, 28]) (kL := [6]) (fr' := [(0, aI a0), (5, aI i105), (6, .one (.ptr 6 0)), (7, aD (.slice (.pair tI (.pair tI tI))) a1), (8, aI (List.length a1 : Int)), (9, aI i105), (28, aB (!r121))]) (L' := [(6, .one (.pair tI (.pair tI tI)) v108)]) (obs := [((v108.1 == (1 : Int)) = true), ((v108.1 == (1 : Int)) = true)]) rfl (by kernel_rfl) (allP2 h120 (allP1 h120)) ?_
            obtain rfl := Option.some.inj h
            refine WO_fin [0, 5, 6, 7, 8, 9, 28] [6] (fr' := [(0, aI a0), (5, aI i105), (6, .one (.ptr 6 0)), (7, aD (.slice (.pair tI (.pair tI tI))) a1), (8, aI (List.length a1 : Int)), (9, aI i105), (28, aB (!r121))]) (L' := [(6, .one (.pair tI (.pair tI tI)) v108)]) (by kernel_rfl) (by kernel_rfl) ?_
            exact exQ_mk (by kernel_rfl) (by kernel_rfl)
          · replace h := ofF h120 h
            refine WO_run (j := 11) (k := 7) (orcs := [(8, .known false), (10, .known false), (12, .known false), (14, .known false), (16, .known false), (18, .known false), (21, .val (.dat .bool false))]) (kF := [0, 5, 6, 7, 8, 9, 28]) (kL := [6]) (fr' := [(0, aI a0), (5, aI i105), (6, .one (.ptr 6 0)), (7, aD (.slice (.pair tI (.pair tI tI))) a1), (8, aI (List.length a1 : Int)), (9, aI i105), (28, aB false)]) (L' := [(6, .one (.pair tI (.pair tI tI)) v108)]) (obs := [((v108.1 == (1 : Int)) = false), ((v108.1 == (1 : Int)) = false), ((v108.1 == (1 : Int)) = false), ((v108.1 == (1 : Int)) = false), ((v108.1 == (1 : Int)) = false), ((v108.1 == (1 : Int)) = false), ((v108.1 == (1 : Int)) = false)]) rfl (by kernel_rfl) (allP2 h120 (allP2 h120 (allP2 h120 (allP2 h120 (allP2 h120 (allP2 h120 (allP1 h120))))))) ?_
            obtain rfl := Option.some.inj h
            refine WO_fin [0, 5, 6, 7, 8, 9, 28] [6] (fr' := [(0, aI a0), (5, aI i105), (6, .one (.ptr 6 0)), (7, aD (.slice (.pair tI (.pair tI tI))) a1), (8, aI (List.length a1 : Int)), (9, aI i105), (28, aB false)]) (L' := [(6, .one (.pair tI (.pair tI tI)) v108)]) (by kernel_rfl) (by kernel_rfl) ?_
            exact exQ_mk (by kernel_rfl) (by kernel_rfl)
        · intro e fr L hJ
          obtain ⟨rfl, rfl, rfl⟩ := hJ
          refine LT_keep [0, 5, 6, 7, 8, 9, 28] [6] (fr' := [(0, aI a0), (5, aI i105), (6, .one (.ptr 6 0)), (7, aD (.slice (.pair tI (.pair tI tI))) a1), (8, aI (List.length a1 : Int)), (9, aI i105), (28, aB v123)]) (L' := [(6, .one (.pair tI (.pair tI tI)) v108)]) (by kernel_rfl) ?_
          refine seqQ_norm ?_
          refine W_cond (o := .tmp 28) (b := v123) (by kernel_rfl) (by kernel_rfl) (fun h125 => ?_) (fun h125 => ?_)
          · replace h := ofT h125 h
            refine W_seq (by kernel_rfl) ?_
            refine W_run 1 [] [4] [] (fr' := [(4, aI (4 : Int))]) (L' := []) (obs := []) (by kernel_rfl) (by kernel_rfl) (by kernel_rfl) allP0 ?_
            refine seqQ_norm ?_
            obtain rfl := Option.some.inj h
            refine W_ret [4] [] (fr' := [(4, aI (4 : Int))]) (L' := []) (by kernel_rfl) (by kernel_rfl) ?_
            refine seqQ_ret ?_
            refine blockQ_ret ?_
            refine seqQ_ret ?_
            refine round_ret ?_
            refine escQ_ret ?_
            exact exQ_mk (by kernel_rfl) (by kernel_rfl)
          · replace h := ofF h125 h
            refine W_skip [0, 5, 6, 7, 8, 9] [6] (fr' := [(0, aI a0), (5, aI i105), (6, .one (.ptr 6 0)), (7, aD (.slice (.pair tI (.pair tI tI))) a1), (8, aI (List.length a1 : Int)), (9, aI i105)]) (L' := [(6, .one (.pair tI (.pair tI tI)) v108)]) (by kernel_rfl) (by kernel_rfl) ?_
            refine seqQ_norm ?_
            refine W_seq (by kernel_rfl) ?_
            obtain ⟨v156, h157, h⟩ := bind_of h
            refine W_cutK (Q' := (exQ .normal (ref_GatesCheck_s8 a0 a1 i105)) v156) ?_ ?_
            · replace h := h157
              refine W_region (by kernel_rfl) ?_
              refine WO_run (j := 4) (k := 4) (orcs := []) (kF := [0, 5, 6, 7, 8, 9, 32]) (kL := [6]) (fr' := [(0, aI a0), (5, aI i105), (6, .one (.ptr 6 0)), (7, aD (.slice (.pair tI (.pair tI tI))) a1), (8, aI (List.length a1 : Int)), (9, aI i105), (32, aB (v108.1 != (1 : Int)))]) (L' := [(6, .one (.pair tI (.pair tI tI)) v108)]) (obs := []) rfl (by kernel_rfl) allP0 ?_
              rcases Bool.eq_false_or_eq_true (v108.1 != (1 : Int)) with h146 | h146
              · replace h := ofT h146 h
                refine WO_run (j := 8) (k := 4) (orcs := [(8, .known true), (10, .known true), (12, .known true), (14, .known true)]) (kF := [0, 5, 6, 7, 8, 9, 32, 33, 36]) (kL := [6, 36]) (fr' := [(0, aI a0), (5, aI i105), (6, .one (.ptr 6 0)), (7, aD (.slice (.pair tI (.pair tI tI))) a1), (8, aI (List.length a1 : Int)), (9, aI i105), (32, aB (v108.1 != (1 : Int))), (33, aI i105), (36, .one (.slc 36))]) (L' := [(6, .one (.pair tI (.pair tI tI)) v108), (36, .seq tI [v108.2.1])]) (obs := [((v108.1 != (1 : Int)) = true), ((v108.1 != (1 : Int)) = true), ((v108.1 != (1 : Int)) = true), ((v108.1 != (1 : Int)) = true)]) rfl (by kernel_rfl) (allP2 h146 (allP2 h146 (allP2 h146 (allP1 h146)))) ?_
                obtain ⟨r147, h148, h⟩ := bind_of h
                refine WO_frz 36 (by kernel_rfl) ?_
                refine WO_call0 (us := [none, none]) (d := 37) (p := ((v108.1 != (1 : Int)) = true)) (j := 9) rfl ⟨by kernel_rfl, by kernel_rfl, by kernel_rfl⟩ h146 (ref_Inside_ok h148) (by kernel_rfl) ?_
                refine WO_run (j := 12) (k := 3) (orcs := [(18, .known true), (21, .val (.dat .bool true))]) (kF := [0, 5, 6, 7, 8, 9, 40]) (kL := [6]) (fr' := [(0, aI a0), (5, aI i105), (6, .one (.ptr 6 0)), (7, aD (.slice (.pair tI (.pair tI tI))) a1), (8, aI (List.length a1 : Int)), (9, aI i105), (40, aB (!r147))]) (L' := [(6, .one (.pair tI (.pair tI tI)) v108)]) (obs := [((v108.1 != (1 : Int)) = true), ((v108.1 != (1 : Int)) = true)]) rfl (by kernel_rfl) (allP2 h146 (allP1 h146)) ?_
                rcases Bool.eq_false_or_eq_true (!r147) with h149 | h149
                · replace h := ofT h149 h
                  refine WO_run (j := 24) (k := 12) (orcs := [(24, .known true), (26, .known true), (28, .known true), (30, .known true), (32, .known true), (34, .known true), (36, .known true), (38, .known true), (40, .known true), (42, .known true), (44, .known true), (47, .val (.dat .bool true))]) (kF := [0, 7, 8, 9, 52]) (kL := [6]) (fr' := [(0, aI a0), (7, aD (.slice (.pair tI (.pair tI tI))) a1), (8, aI (List.length a1 : Int)), (9, aI i105), (52, aB true)]) (L' := [(6, .one (.pair tI (.pair tI tI)) v108)]) (obs := [((!r147) = true), ((!r147) = true), ((!r147) = true), ((!r147) = true), ((!r147) = true), ((!r147) = true)]) rfl (by kernel_rfl) (allP2 h149 (allP2 h149 (allP2 h149 (allP2 h149 (allP2 h149 (allP1 h149)))))) ?_
                  obtain rfl := Option.some.inj h
                  refine WO_fin [0, 7, 8, 9, 52] [] (fr' := [(0, aI a0), (7, aD (.slice (.pair tI (.pair tI tI))) a1), (8, aI (List.length a1 : Int)), (9, aI i105), (52, aB true)]) (L' := []) (by kernel_rfl) (by kernel_rfl) ?_
                  exact exQ_mk (by kernel_rfl) (by kernel_rfl)
                · replace h := ofF h149 h
                  refine WO_run (j := 16) (k := 4) (orcs := [(24, .known false), (26, .known false), (28, .known false), (30, .known false)]) (kF := [0, 5, 6, 7, 8, 9, 40, 44]) (kL := [6]) (fr' := [(0, aI a0), (5, aI i105), (6, .one (.ptr 6 0)), (7, aD (.slice (.pair tI (.pair tI tI))) a1), (8, aI (List.length a1 : Int)), (9, aI i105), (40, aB (!r147)), (44, aB (decide (v108.1 ≥ (3 : Int))))]) (L' := [(6, .one (.pair tI (.pair tI tI)) v108)]) (obs := [((!r147) = false), ((!r147) = false), ((!r147) = false), ((!r147) = false)]) rfl (by kernel_rfl) (allP2 h149 (allP2 h149 (allP2 h149 (allP1 h149)))) ?_
                  rcases Bool.eq_false_or_eq_true (decide (v108.1 ≥ (3 : Int))) with h150 | h150
                  · replace h := ofT h150 h
                    refine WO_run (j := 20) (k := 4) (orcs := [(32, .known true), (34, .known true), (36, .known true), (38, .known true)]) (kF := [0, 7, 8, 9, 40, 44, 45, 48]) (kL := [6, 48]) (fr' := [(0, aI a0), (7, aD (.slice (.pair tI (.pair tI tI))) a1), (8, aI (List.length a1 : Int)), (9, aI i105), (40, aB (!r147)), (44, aB (decide (v108.1 ≥ (3 : Int)))), (45, aI i105), (48, .one (.slc 48))]) (L' := [(6, .one (.pair tI (.pair tI tI)) v108), (48, .seq tI [v108.2.2])]) (obs := [((decide (v108.1 ≥ (3 : Int))) = true), ((decide (v108.1 ≥ (3 : Int))) = true), ((decide (v108.1 ≥ (3 : Int))) = true), ((decide (v108.1 ≥ (3 : Int))) = true)]) rfl (by kernel_rfl) (allP2 h150 (allP2 h150 (allP2 h150 (allP1 h150)))) ?_
                    obtain ⟨r151, h152, h⟩ := bind_of h
                    refine WO_frz 48 (by kernel_rfl) ?_
                    refine WO_call0 (us := [none, none]) (d := 49) (p := ((decide (v108.1 ≥ (3 : Int))) = true)) (j := 21) rfl ⟨by kernel_rfl, by kernel_rfl, by kernel_rfl⟩ h150 (ref_Inside_ok h152) (by kernel_rfl) ?_
                    refine WO_run (j := 24) (k := 3) (orcs := [(42, .known true), (44, .known false), (45, .val (.dat .bool true)), (47, .val (.dat .bool false))]) (kF := [0, 7, 8, 9, 52]) (kL := [6]) (fr' := [(0, aI a0), (7, aD (.slice (.pair tI (.pair tI tI))) a1), (8, aI (List.length a1 : Int)), (9, aI i105), (52, aB (!r151))]) (L' := [(6, .one (.pair tI (.pair tI tI)) v108)]) (obs := [((decide (v108.1 ≥ (3 : Int))) = true), ((!r147) = false), ((decide (v108.1 ≥ (3 : Int))) = true), ((!r147) = false)]) rfl (by kernel_rfl) (allP2 h150 (allP2 h149 (allP2 h150 (allP1 h149)))) ?_
                    obtain rfl := Option.some.inj h
                    refine WO_fin [0, 7, 8, 9, 52] [] (fr' := [(0, aI a0), (7, aD (.slice (.pair tI (.pair tI tI))) a1), (8, aI (List.length a1 : Int)), (9, aI i105), (52, aB (!r151))]) (L' := []) (by kernel_rfl) (by kernel_rfl) ?_
                    exact exQ_mk (by kernel_rfl) (by kernel_rfl)
                  · replace h := ofF h150 h
                    refine WO_run (j := 24) (k := 8) (orcs := [(32, .known false), (34, .known false), (36, .known false), (38, .known false), (40, .known false), (42, .known false), (44, .known false), (45, .val (.dat .bool false)), (47, .val (.dat .bool false))]) (kF := [0, 7, 8, 9, 52]) (kL := [6]) (fr' := [(0, aI a0), (7, aD (.slice (.pair tI (.pair tI tI))) a1), (8, aI (List.length a1 : Int)), (9, aI i105), (52, aB false)]) (L' := [(6, .one (.pair tI (.pair tI tI)) v108)]) (obs := [((decide (v108.1 ≥ (3 : Int))) = false), ((decide (v108.1 ≥ (3 : Int))) = false), ((decide (v108.1 ≥ (3 : Int))) = false), ((decide (v108.1 ≥ (3 : Int))) = false), ((decide (v108.1 ≥ (3 : Int))) = false), ((decide (v108.1 ≥ (3 : Int))) = false), ((!r147) = false), ((decide (v108.1 ≥ (3 : Int))) = false), ((!r147) = false)]) rfl (by kernel_rfl) (allP2 h150 (allP2 h150 (allP2 h150 (allP2 h150 (allP2 h150 (allP2 h150 (allP2 h149 (allP2 h150 (allP1 h149))))))))) ?_
                    obtain rfl := Option.some.inj h
                    refine WO_fin [0, 7, 8, 9, 52] [] (fr' := [(0, aI a0), (7, aD (.slice (.pair tI (.pair tI tI))) a1), (8, aI (List.length a1 : Int)), (9, aI i105), (52, aB false)]) (L' := []) (by kernel_rfl) (by kernel_rfl) ?_
                    exact exQ_mk (by kernel_rfl) (by kernel_rfl)
              · replace h := ofF h146 h
                refine WO_run (j := 16) (k := 12) (orcs := [(8, .known false), (10, .known false), (12, .known false), (14, .known false), (16, .known false), (18, .known false), (21, .val (.dat .bool false)), (24, .known false), (26, .known false), (28, .known false), (30, .known false)]) (kF := [0, 5, 6, 7, 8, 9, 40, 44]) (kL := [6]) (fr' := [(0, aI a0), (5, aI i105), (6, .one (.ptr 6 0)), (7, aD (.slice (.pair tI (.pair tI tI))) a1), (8, aI (List.length a1 : Int)), (9, aI i105), (40, aB false), (44, aB (decide (v108.1 ≥ (3 : Int))))]) (L' := [(6, .one (.pair tI (.pair tI tI)) v108)]) (obs := [((v108.1 != (1 : Int)) = false), ((v108.1 != (1 : Int)) = false), ((v108.1 != (1 : Int)) = false), ((v108.1 != (1 : Int)) = false), ((v108.1 != (1 : Int)) = false), ((v108.1 != (1 : Int)) = false), ((v108.1 != (1 : Int)) = false), (false = false), (false = false), (false = false), (false = false)]) rfl (by kernel_rfl) (allP2 h146 (allP2 h146 (allP2 h146 (allP2 h146 (allP2 h146 (allP2 h146 (allP2 h146 (allP2 rfl (allP2 rfl (allP2 rfl (allP1 rfl))))))))))) ?_
                rcases Bool.eq_false_or_eq_true (decide (v108.1 ≥ (3 : Int))) with h153 | h153
                · replace h := ofT h153 h
                  refine WO_run (j := 20) (k := 4) (orcs := [(32, .known true), (34, .known true), (36, .known true), (38, .known true)]) (kF := [0, 7, 8, 9, 40, 44, 45, 48]) (kL := [6, 48]) (fr' := [(0, aI a0), (7, aD (.slice (.pair tI (.pair tI tI))) a1), (8, aI (List.length a1 : Int)), (9, aI i105), (40, aB false), (44, aB (decide (v108.1 ≥ (3 : Int)))), (45, aI i105), (48, .one (.slc 48))]) (L' := [(6, .one (.pair tI (.pair tI tI)) v108), (48, .seq tI [v108.2.2])]) (obs := [((decide (v108.1 ≥ (3 : Int))) = true), ((decide (v108.1 ≥ (3 : Int))) = true), ((decide (v108.1 ≥ (3 : Int))) = true), ((decide (v108.1 ≥ (3 : Int))) = true)]) rfl (by kernel_rfl) (allP2 h153 (allP2 h153 (allP2 h153 (allP1 h153)))) ?_
                  obtain ⟨r154, h155, h⟩ := bind_of h
                  refine WO_frz 48 (by kernel_rfl) ?_
                  refine WO_call0 (us := [none, none]) (d := 49) (p := ((decide (v108.1 ≥ (3 : Int))) = true)) (j := 21) rfl ⟨by kernel_rfl, by kernel_rfl, by kernel_rfl⟩ h153 (ref_Inside_ok h155) (by kernel_rfl) ?_
                  refine WO_run (j := 24) (k := 3) (orcs := [(42, .known true), (44, .known false), (45, .val (.dat .bool true)), (47, .val (.dat .bool false))]) (kF := [0, 7, 8, 9, 52]) (kL := [6]) (fr' := [(0, aI a0), (7, aD (.slice (.pair tI (.pair tI tI))) a1), (8, aI (List.length a1 : Int)), (9, aI i105), (52, aB (!r154))]) (L' := [(6, .one (.pair tI (.pair tI tI)) v108)]) (obs := [((decide (v108.1 ≥ (3 : Int))) = true), (false = false), ((decide (v108.1 ≥ (3 : Int))) = true), (false = false)]) rfl (by kernel_rfl) (allP2 h153 (allP2 rfl (allP2 h153 (allP1 rfl)))) ?_
                  obtain rfl := Option.some.inj h
                  refine WO_fin [0, 7, 8, 9, 52] [] (fr' := [(0, aI a0), (7, aD (.slice (.pair tI (.pair tI tI))) a1), (8, aI (List.length a1 : Int)), (9, aI i105), (52, aB (!r154))]) (L' := []) (by kernel_rfl) (by kernel_rfl) ?_
                  exact exQ_mk (by kernel_rfl) (by kernel_rfl)
                · replace h := ofF h153 h
                  refine WO_run (j := 24) (k := 8) (orcs := [(32, .known false), (34, .known false), (36, .known false), (38, .known false), (40, .known false), (42, .known false), (44, .known false), (45, .val (.dat .bool false)), (47, .val (.dat .bool false))]) (kF := [0, 7, 8, 9, 52]) (kL := [6]) (fr' := [(0, aI a0), (7, aD (.slice (.pair tI (.pair tI tI))) a1), (8, aI (List.length a1 : Int)), (9, aI i105), (52, aB false)]) (L' := [(6, .one (.pair tI (.pair tI tI)) v108)]) (obs := [((decide (v108.1 ≥ (3 : Int))) = false), ((decide (v108.1 ≥ (3 : Int))) = false), ((decide (v108.1 ≥ (3 : Int))) = false), ((decide (v108.1 ≥ (3 : Int))) = false), ((decide (v108.1 ≥ (3 : Int))) = false), ((decide (v108.1 ≥ (3 : Int))) = false), (false = false), ((decide (v108.1 ≥ (3 : Int))) = false), (false = false)]) rfl (by kernel_rfl) (allP2 h153 (allP2 h153 (allP2 h153 (allP2 h153 (allP2 h153 (allP2 h153 (allP2 rfl (allP2 h153 (allP1 rfl))))))))) ?_
                  obtain rfl := Option.some.inj h
                  refine WO_fin [0, 7, 8, 9, 52] [] (fr' := [(0, aI a0), (7, aD (.slice (.pair tI (.pair tI tI))) a1), (8, aI (List.length a1 : Int)), (9, aI i105), (52, aB false)]) (L' := []) (by kernel_rfl) (by kernel_rfl) ?_
                  exact exQ_mk (by kernel_rfl) (by kernel_rfl)
            · intro e fr L hJ
              obtain ⟨rfl, rfl, rfl⟩ := hJ
              refine LT_keep [0, 7, 8, 9, 52] [] (fr' := [(0, aI a0), (7, aD (.slice (.pair tI (.pair tI tI))) a1), (8, aI (List.length a1 : Int)), (9, aI i105), (52, aB v156)]) (L' := []) (by kernel_rfl) ?_
              refine seqQ_norm ?_
              refine W_cond (o := .tmp 52) (b := v156) (by kernel_rfl) (by kernel_rfl) (fun h158 => ?_) (fun h158 => ?_)
              · replace h := ofT h158 h
                refine W_seq (by kernel_rfl) ?_
                refine W_run 1 [] [4] [] (fr' := [(4, aI (2 : Int))]) (L' := []) (obs := []) (by kernel_rfl) (by kernel_rfl) (by kernel_rfl) allP0 ?_
                refine seqQ_norm ?_
                obtain rfl := Option.some.inj h
                refine W_ret [4] [] (fr' := [(4, aI (2 : Int))]) (L' := []) (by kernel_rfl) (by kernel_rfl) ?_
                refine blockQ_ret ?_
                refine seqQ_ret ?_
                refine round_ret ?_
                refine escQ_ret ?_
                exact exQ_mk (by kernel_rfl) (by kernel_rfl)
              · replace h := ofF h158 h
                refine W_skip [0, 7, 8, 9] [] (fr' := [(0, aI a0), (7, aD (.slice (.pair tI (.pair tI tI))) a1), (8, aI (List.length a1 : Int)), (9, aI i105)]) (L' := []) (by kernel_rfl) (by kernel_rfl) ?_
                refine blockQ_norm ?_
                refine seqQ_norm ?_
                obtain rfl := Option.some.inj h
                refine W_run 2 [] [0, 7, 8, 9] [] (fr' := [(0, aI a0), (7, aD (.slice (.pair tI (.pair tI tI))) a1), (8, aI (List.length a1 : Int)), (9, aI (w64 (i105 + (1 : Int))))]) (L' := []) (obs := []) (by kernel_rfl) (by kernel_rfl) (by kernel_rfl) allP0 ?_
                exact round_next' (by kernel_rfl) (by kernel_rfl)
    · obtain rfl := stepL_false h110 h
      refine W_exit (id := 0) [] [] (fr' := []) (L' := []) (by kernel_rfl) (by kernel_rfl) ?_
      refine seqQ_exit ?_
      refine round_exit ?_
      refine escQ_brk ?_
      exact exQ_mk (by kernel_rfl) (by kernel_rfl)
  · intro e fr L hJ
    rcases v160 with v165 | v166
    · obtain ⟨rfl, rfl, rfl⟩ := hJ
      obtain rfl := Option.some.inj h
      refine LT_keep [4] [] (fr' := [(4, aI v165)]) (L' := []) (by kernel_rfl) ?_
      refine blockQ_ret ?_
      refine seqQ_ret ?_
      exact retQ_mk (by kernel_rfl) (by kernel_rfl) (by kernel_rfl)
    · obtain ⟨rfl, rfl, rfl⟩ := hJ
      refine LT_keep [] [] (fr' := []) (L' := []) (by kernel_rfl) ?_
      refine blockQ_hit ?_
      refine seqQ_norm ?_
      refine W_seq (by kernel_rfl) ?_
      refine W_run 1 [] [4] [] (fr' := [(4, aI (0 : Int))]) (L' := []) (obs := []) (by kernel_rfl) (by kernel_rfl) (by kernel_rfl) allP0 ?_
      refine seqQ_norm ?_
      obtain rfl := Option.some.inj h
      refine W_ret [4] [] (fr' := [(4, aI (0 : Int))]) (L' := []) (by kernel_rfl) (by kernel_rfl) ?_
      exact retQ_mk (by kernel_rfl) (by kernel_rfl) (by kernel_rfl)

def ref_GateCheck_g1 (a0 : Int) (a1 : (List (Int × (Int × Int)))) : Option Bool :=
(ref_Within (0 : Int) a0 (5 : Int)).bind fun r11 =>
bif !r11 then
(some true)
else
((ref_Within (1 : Int) (List.length a1 : Int) (40 : Int)).bind fun r14 =>
some (!r14))
@[reducible] def ref_GateCheck_s2 (a0 : Int) (a1 : (List (Int × (Int × Int)))) (v : Bool) : Fr × LL := ([(0, aI a0), (1, aD (.slice (.pair tI (.pair tI tI))) a1), (13, aB v)], [])
def ref_GateCheck (a0 : Int) (a1 : (List (Int × (Int × Int)))) : Option Int :=
(ref_GateCheck_g1 a0 a1).bind fun v16 =>
bif v16 then
(some (1 : Int))
else
((ref_GatesCheck a0 a1).bind fun r19 =>
some r19)
theorem ref_GateCheck_ok {a0 : Int} {a1 : (List (Int × (Int × Int)))} {r : Int} (h : ref_GateCheck a0 a1 = some r) : FnC Try.prog 12 [aI a0, aD (.slice (.pair tI (.pair tI tI))) a1] [] (aI r) [] := by
  refine fnC_of_W (B := bodyOf Try.f12) (n := 17) Try.func12 (by kernel_rfl) (by kernel_rfl) (by kernel_rfl) (by kernel_rfl) (by kernel_rfl) ?_
  intro K
  refine W_seq (by kernel_rfl) ?_
  refine W_run 1 [] [0, 1] [] (fr' := [(0, aI a0), (1, aD (.slice (.pair tI (.pair tI tI))) a1)]) (L' := []) (obs := []) (by kernel_rfl) (by kernel_rfl) (by kernel_rfl) allP0 ?_
  refine seqQ_norm ?_
  refine W_seq (by kernel_rfl) ?_
  refine W_seq (by kernel_rfl) ?_
  obtain ⟨v16, h17, h⟩ := bind_of h
  refine W_cutK (Q' := (exQ .normal (ref_GateCheck_s2 a0 a1)) v16) ?_ ?_
  · replace h := h17
    refine W_region (by kernel_rfl) ?_
    refine WO_run (j := 1) (k := 1) (orcs := []) (kF := [0, 1, 5]) (kL := []) (fr' := [(0, aI a0), (1, aD (.slice (.pair tI (.pair tI tI))) a1), (5, aI a0)]) (L' := []) (obs := []) rfl (by kernel_rfl) allP0 ?_
    obtain ⟨r11, h12, h⟩ := bind_of h
    refine WO_call0 (us := [none, none, none]) (d := 6) (p := True) (j := 2) rfl ⟨by kernel_rfl, by kernel_rfl, by kernel_rfl⟩ trivial (ref_Within_ok h12) (by kernel_rfl) ?_
    refine WO_run (j := 4) (k := 2) (orcs := []) (kF := [0, 1, 8]) (kL := []) (fr' := [(0, aI a0), (1, aD (.slice (.pair tI (.pair tI tI))) a1), (8, aB (!r11))]) (L' := []) (obs := []) rfl (by kernel_rfl) allP0 ?_
    rcases Bool.eq_false_or_eq_true (!r11) with h13 | h13
    · replace h := ofT h13 h
      refine WO_run (j := 9) (k := 5) (orcs := [(8, .known true), (10, .known true), (12, .known true), (14, .known true), (17, .val (.dat .bool true))]) (kF := [0, 1, 13]) (kL := []) (fr' := [(0, aI a0), (1, aD (.slice (.pair tI (.pair tI tI))) a1), (13, aB true)]) (L' := []) (obs := [((!r11) = true), ((!r11) = true), ((!r11) = true), ((!r11) = true), ((!r11) = true)]) rfl (by kernel_rfl) (allP2 h13 (allP2 h13 (allP2 h13 (allP2 h13 (allP1 h13))))) ?_
      obtain rfl := Option.some.inj h
      refine WO_fin [0, 1, 13] [] (fr' := [(0, aI a0), (1, aD (.slice (.pair tI (.pair tI tI))) a1), (13, aB true)]) (L' := []) (by kernel_rfl) (by kernel_rfl) ?_
      exact exQ_mk (by kernel_rfl) (by kernel_rfl)
    · replace h := ofF h13 h
      refine WO_run (j := 6) (k := 2) (orcs := [(8, .known false), (10, .known false)]) (kF := [0, 1, 8, 10]) (kL := []) (fr' := [(0, aI a0), (1, aD (.slice (.pair tI (.pair tI tI))) a1), (8, aB (!r11)), (10, aI (List.length a1 : Int))]) (L' := []) (obs := [((!r11) = false), ((!r11) = false)]) rfl (by kernel_rfl) (allP2 h13 (allP1 h13)) ?_
      obtain ⟨r14, h15, h⟩ := bind_of h
      refine WO_call0 (us := [none, none, none]) (d := 11) (p := ((!r11) = false)) (j := 7) rfl ⟨by kernel_rfl, by kernel_rfl, by kernel_rfl⟩ h13 (ref_Within_ok h15) (by kernel_rfl) ?_
      refine WO_run (j := 9) (k := 2) (orcs := [(14, .known false), (17, .val (.dat .bool false))]) (kF := [0, 1, 13]) (kL := []) (fr' := [(0, aI a0), (1, aD (.slice (.pair tI (.pair tI tI))) a1), (13, aB (!r14))]) (L' := []) (obs := [((!r11) = false), ((!r11) = false)]) rfl (by kernel_rfl) (allP2 h13 (allP1 h13)) ?_
      obtain rfl := Option.some.inj h
      refine WO_fin [0, 1, 13] [] (fr' := [(0, aI a0), (1, aD (.slice (.pair tI (.pair tI tI))) a1), (13, aB (!r14))]) (L' := []) (by kernel_rfl) (by kernel_rfl) ?_
      exact exQ_mk (by kernel_rfl) (by kernel_rfl)
  · intro e fr L hJ
    obtain ⟨rfl, rfl, rfl⟩ := hJ
    refine LT_keep [0, 1, 13] [] (fr' := [(0, aI a0), (1, aD (.slice (.pair tI (.pair tI tI))) a1), (13, aB v16)]) (L' := []) (by kernel_rfl) ?_
    refine seqQ_norm ?_
    refine W_cond (o := .tmp 13) (b := v16) (by kernel_rfl) (by kernel_rfl) (fun h18 => ?_) (fun h18 => ?_)
    · replace h := ofT h18 h
      refine W_seq (by kernel_rfl) ?_
      refine W_run 1 [] [4] [] (fr' := [(4, aI (1 : Int))]) (L' := []) (obs := []) (by kernel_rfl) (by kernel_rfl) (by kernel_rfl) allP0 ?_
      refine seqQ_norm ?_
      obtain rfl := Option.some.inj h
      refine W_ret [4] [] (fr' := [(4, aI (1 : Int))]) (L' := []) (by kernel_rfl) (by kernel_rfl) ?_
      refine seqQ_ret ?_
      exact retQ_mk (by kernel_rfl) (by kernel_rfl) (by kernel_rfl)
    · replace h := ofF h18 h
      refine W_skip [0, 1] [] (fr' := [(0, aI a0), (1, aD (.slice (.pair tI (.pair tI tI))) a1)]) (L' := []) (by kernel_rfl) (by kernel_rfl) ?_
      refine seqQ_norm ?_
      refine W_seq (by kernel_rfl) ?_
      refine W_region (by kernel_rfl) ?_
      refine WO_run (j := 2) (k := 2) (orcs := []) (kF := [14, 15]) (kL := []) (fr' := [(14, aI a0), (15, aD (.slice (.pair tI (.pair tI tI))) a1)]) (L' := []) (obs := []) rfl (by kernel_rfl) allP0 ?_
      obtain ⟨r19, h20, h⟩ := bind_of h
      refine WO_call0 (us := [none, none]) (d := 16) (p := True) (j := 3) rfl ⟨by kernel_rfl, by kernel_rfl, by kernel_rfl⟩ trivial (ref_GatesCheck_ok h20) (by kernel_rfl) ?_
      refine WO_run (j := 4) (k := 1) (orcs := []) (kF := [4]) (kL := []) (fr' := [(4, aI r19)]) (L' := []) (obs := []) rfl (by kernel_rfl) allP0 ?_
      refine WO_fin [4] [] (fr' := [(4, aI r19)]) (L' := []) (by kernel_rfl) (by kernel_rfl) ?_
      refine seqQ_norm ?_
      obtain rfl := Option.some.inj h
      refine W_ret [4] [] (fr' := [(4, aI r19)]) (L' := []) (by kernel_rfl) (by kernel_rfl) ?_
      exact retQ_mk (by kernel_rfl) (by kernel_rfl) (by kernel_rfl)

def ref_Bit (a0 : Int) (a1 : Int) : Option Bool :=
bif (decide (a1 ≥ (0 : Int))) && (decide (a1 < (63 : Int))) then
((ck (0 ≤ IntKind.wrap .u64 (a1))).bind fun _ =>
some ((bAnd .i64 a0 (bShl .i64 (1 : Int) (IntKind.wrap .u64 (a1)))) != (0 : Int)))
else
(some false)
theorem ref_Bit_ok {a0 : Int} {a1 : Int} {r : Bool} (h : ref_Bit a0 a1 = some r) : FnC Try.prog 27 [aI a0, aI a1] [] (aB r) [] := by
  refine fnC_of_W (B := bodyOf Try.f27) (n := 19) Try.func27 (by kernel_rfl) (by kernel_rfl) (by kernel_rfl) (by kernel_rfl) (by kernel_rfl) ?_
  intro K
  refine W_seq (by kernel_rfl) ?_
  refine W_run 1 [] [0, 1] [] (fr' := [(0, aI a0), (1, aI a1)]) (L' := []) (obs := []) (by kernel_rfl) (by kernel_rfl) (by kernel_rfl) allP0 ?_
  refine seqQ_norm ?_
  refine W_seq (by kernel_rfl) ?_
  refine W_region (by kernel_rfl) ?_
  refine WO_run (j := 7) (k := 7) (orcs := []) (kF := [0, 1, 11]) (kL := []) (fr' := [(0, aI a0), (1, aI a1), (11, aB ((decide (a1 ≥ (0 : Int))) && (decide (a1 < (63 : Int)))))]) (L' := []) (obs := []) rfl (by kernel_rfl) allP0 ?_
  rcases Bool.eq_false_or_eq_true ((decide (a1 ≥ (0 : Int))) && (decide (a1 < (63 : Int)))) with h1 | h1
  · replace h := ofT h1 h
    obtain ⟨_, h2, h⟩ := bind_of h
    replace h2 := ck_some h2
    refine WO_run (j := 15) (k := 8) (orcs := [(14, .known true), (16, .known true), (18, .known true), (20, .known true), (22, .known true), (24, .known true), (27, .val (.dat .bool true))]) (kF := [4]) (kL := []) (fr' := [(4, aB ((bAnd .i64 a0 (bShl .i64 (1 : Int) (IntKind.wrap .u64 (a1)))) != (0 : Int)))]) (L' := []) (obs := [(((decide (a1 ≥ (0 : Int))) && (decide (a1 < (63 : Int)))) = true), (((decide (a1 ≥ (0 : Int))) && (decide (a1 < (63 : Int)))) = true), (((decide (a1 ≥ (0 : Int))) && (decide (a1 < (63 : Int)))) = true), (((decide (a1 ≥ (0 : Int))) && (decide (a1 < (63 : Int)))) = true), (0 ≤ IntKind.wrap .u64 (a1)), (((decide (a1 ≥ (0 : Int))) && (decide (a1 < (63 : Int)))) = true), (((decide (a1 ≥ (0 : Int))) && (decide (a1 < (63 : Int)))) = true), (((decide (a1 ≥ (0 : Int))) && (decide (a1 < (63 : Int)))) = true)]) rfl (by kernel_rfl) (allP2 h1 (allP2 h1 (allP2 h1 (allP2 h1 (allP2 h2 (allP2 h1 (allP2 h1 (allP1 h1)))))))) ?_
    refine WO_fin [4] [] (fr' := [(4, aB ((bAnd .i64 a0 (bShl .i64 (1 : Int) (IntKind.wrap .u64 (a1)))) != (0 : Int)))]) (L' := []) (by kernel_rfl) (by kernel_rfl) ?_
    refine seqQ_norm ?_
    obtain rfl := Option.some.inj h
    refine W_ret [4] [] (fr' := [(4, aB ((bAnd .i64 a0 (bShl .i64 (1 : Int) (IntKind.wrap .u64 (a1)))) != (0 : Int)))]) (L' := []) (by kernel_rfl) (by kernel_rfl) ?_
    exact retQ_mk (by kernel_rfl) (by kernel_rfl) (by kernel_rfl)
  · replace h := ofF h1 h
    refine WO_run (j := 15) (k := 8) (orcs := [(14, .known false), (16, .known false), (18, .known false), (20, .known false), (22, .known false), (24, .known false), (27, .val (.dat .bool false))]) (kF := [4]) (kL := []) (fr' := [(4, aB false)]) (L' := []) (obs := [(((decide (a1 ≥ (0 : Int))) && (decide (a1 < (63 : Int)))) = false), (((decide (a1 ≥ (0 : Int))) && (decide (a1 < (63 : Int)))) = false), (((decide (a1 ≥ (0 : Int))) && (decide (a1 < (63 : Int)))) = false), (((decide (a1 ≥ (0 : Int))) && (decide (a1 < (63 : Int)))) = false), (((decide (a1 ≥ (0 : Int))) && (decide (a1 < (63 : Int)))) = false), (((decide (a1 ≥ (0 : Int))) && (decide (a1 < (63 : Int)))) = false), (((decide (a1 ≥ (0 : Int))) && (decide (a1 < (63 : Int)))) = false)]) rfl (by kernel_rfl) (allP2 h1 (allP2 h1 (allP2 h1 (allP2 h1 (allP2 h1 (allP2 h1 (allP1 h1))))))) ?_
    refine WO_fin [4] [] (fr' := [(4, aB false)]) (L' := []) (by kernel_rfl) (by kernel_rfl) ?_
    refine seqQ_norm ?_
    obtain rfl := Option.some.inj h
    refine W_ret [4] [] (fr' := [(4, aB false)]) (L' := []) (by kernel_rfl) (by kernel_rfl) ?_
    exact retQ_mk (by kernel_rfl) (by kernel_rfl) (by kernel_rfl)

def ref_Gates_g5 (a1 : Int) (i202 : Int) (x203 : (List Bool)) (v205 : (Int × (Int × Int))) : Option (List Bool) :=
bif v205.1 == (1 : Int) then
((ref_Bit a1 v205.2.1).bind fun r269 =>
(idx x203 i202).bind fun v271 =>
some (List.set x203 (Int.toNat i202) r269))
else
(bif v205.1 == (2 : Int) then
((idx x203 v205.2.1).bind fun v274 =>
(idx x203 i202).bind fun v276 =>
some (List.set x203 (Int.toNat i202) (!v274)))
else
(bif v205.1 == (3 : Int) then
((idx x203 v205.2.1).bind fun v279 =>
bif v279 then
((idx x203 v205.2.2).bind fun v282 =>
(idx x203 i202).bind fun v284 =>
some (List.set x203 (Int.toNat i202) v282))
else
((idx x203 i202).bind fun v286 =>
some (List.set x203 (Int.toNat i202) false)))
else
(bif v205.1 == (4 : Int) then
((idx x203 v205.2.1).bind fun v289 =>
bif v289 then
((idx x203 i202).bind fun v292 =>
some (List.set x203 (Int.toNat i202) true))
else
((idx x203 v205.2.2).bind fun v294 =>
(idx x203 i202).bind fun v296 =>
some (List.set x203 (Int.toNat i202) v294)))
else
(some x203))))
@[reducible] def ref_Gates_s6 (a0 : (List (Int × (Int × Int)))) (a1 : Int) (i202 : Int) (v : (List Bool)) : Fr × LL := ([(1, aI a1), (5, .one (.slc 10)), (11, aD (.slice (.pair tI (.pair tI tI))) a0), (12, aI (List.length a0 : Int)), (13, aI i202)], [(10, .seq .bool v)])
def ref_Gates_b7 (a1 : Int) (i202 : Int) (v205 : (Int × (Int × Int))) (x203 : (List Bool)) : Option (Flow (List Bool) (List Bool)) :=
(ref_Gates_g5 a1 i202 x203 v205).bind fun v298 =>
some (.next v298)
@[reducible] def ref_Gates_s8 (a0 : (List (Int × (Int × Int)))) (a1 : Int) (v : Int × (List Bool)) : Fr × LL := ([(1, aI a1), (5, .one (.slc 10)), (11, aD (.slice (.pair tI (.pair tI tI))) a0), (12, aI (List.length a0 : Int)), (13, aI v.1)], [(10, .seq .bool v.2)])
@[reducible] def ref_Gates_s9 (v : (List Bool)) : Fr × LL := ([(5, .one (.slc 10))], [(10, .seq .bool v)])
def ref_Gates (a0 : (List (Int × (Int × Int)))) (a1 : Int) : Option (List Bool) :=
(ck (0 ≤ (List.length a0 : Int) ∧ (List.length a0 : Int) = (List.length a0 : Int) ∧ (List.length a0 : Int) ≤ 4294967296)).bind fun _ =>
(forL (ref_Gates_b7 a1) (fun x203 => x203) a0 0 (List.replicate (Int.toNat (List.length a0 : Int)) false)).bind fun v301 =>
some v301
theorem ref_Gates_ok {a0 : (List (Int × (Int × Int)))} {a1 : Int} {r : (List Bool)} (h : ref_Gates a0 a1 = some r) : FnC Try.prog 15 [aD (.slice (.pair tI (.pair tI tI))) a0, aI a1] [] (aD (.slice .bool) r) [] := by
  refine fnC_of_W (B := bodyOf Try.f15) (n := 76) Try.func15 (by kernel_rfl) (by kernel_rfl) (by kernel_rfl) (by kernel_rfl) (by kernel_rfl) ?_
  intro K
  refine W_seq (by kernel_rfl) ?_
  refine W_run 1 [] [0, 1] [] (fr' := [(0, aD (.slice (.pair tI (.pair tI tI))) a0), (1, aI a1)]) (L' := []) (obs := []) (by kernel_rfl) (by kernel_rfl) (by kernel_rfl) allP0 ?_
  refine seqQ_norm ?_
  refine W_seq (by kernel_rfl) ?_
  obtain ⟨_, h1, h⟩ := bind_of h
  replace h1 := ck_some h1
  refine W_run 4 [] [0, 1, 5] [10] (fr' := [(0, aD (.slice (.pair tI (.pair tI tI))) a0), (1, aI a1), (5, .one (.slc 10))]) (L' := [(10, .seq .bool (List.replicate (Int.toNat (List.length a0 : Int)) false))]) (obs := [0 ≤ (List.length a0 : Int) ∧ (List.length a0 : Int) = (List.length a0 : Int) ∧ SmallLen (List.length a0 : Int)]) (by kernel_rfl) (by kernel_rfl) (by kernel_rfl) (allP1 h1) ?_
  refine seqQ_norm ?_
  refine W_seq (by kernel_rfl) ?_
  refine W_seq (by kernel_rfl) ?_
  refine W_run 3 [] [1, 5, 11, 12, 13] [10] (fr' := [(1, aI a1), (5, .one (.slc 10)), (11, aD (.slice (.pair tI (.pair tI tI))) a0), (12, aI (List.length a0 : Int)), (13, aI (0 : Int))]) (L' := [(10, .seq .bool (List.replicate (Int.toNat (List.length a0 : Int)) false))]) (obs := []) (by kernel_rfl) (by kernel_rfl) (by kernel_rfl) allP0 ?_
  refine seqQ_norm ?_
  refine W_block (id := 0) (by kernel_rfl) ?_
  obtain ⟨v301, h302, h⟩ := bind_of h
  refine W_len (t := 11) (u := (.pair tI (.pair tI tI))) (xs := a0) (by kernel_rfl) (fun h305 => ?_)
  obtain ⟨h303, h304⟩ := forL_iter h305 h302
  refine W_weaken [1, 5, 11, 12, 13] [10] (fr' := ((ref_Gates_s8 a0 a1) ((0 : Int), List.replicate (Int.toNat (List.length a0 : Int)) false)).1) (L' := ((ref_Gates_s8 a0 a1) ((0 : Int), List.replicate (Int.toNat (List.length a0 : Int)) false)).2) (by kernel_rfl) ?_
  refine W_cutK (W_loop (S := (ref_Gates_s8 a0 a1)) (J := (exQ (.exit 0) ref_Gates_s9)) (by kernel_rfl) ?_ h303 _ v301 h304) ?_
  · rintro ⟨i202, x203⟩ s h
    refine W_seq (by kernel_rfl) ?_
    refine W_run 1 [] [1, 5, 11, 12, 13, 14] [10] (fr' := [(1, aI a1), (5, .one (.slc 10)), (11, aD (.slice (.pair tI (.pair tI tI))) a0), (12, aI (List.length a0 : Int)), (13, aI i202), (14, aB (decide (i202 < (List.length a0 : Int))))]) (L' := [(10, .seq .bool x203)]) (obs := []) (by kernel_rfl) (by kernel_rfl) (by kernel_rfl) allP0 ?_
    refine seqQ_norm ?_
    refine W_seq (by kernel_rfl) ?_
    refine W_cond (o := .tmp 14) (b := decide (i202 < (List.length a0 : Int))) (by kernel_rfl) (by kernel_rfl) (fun h207 => ?_) (fun h207 => ?_)
    · replace h := stepL_true h207 h
      obtain ⟨v205, _, h206, h, rfl⟩ := h
      refine W_skip [1, 5, 11, 12, 13] [10] (fr' := [(1, aI a1), (5, .one (.slc 10)), (11, aD (.slice (.pair tI (.pair tI tI))) a0), (12, aI (List.length a0 : Int)), (13, aI i202)]) (L' := [(10, .seq .bool x203)]) (by kernel_rfl) (by kernel_rfl) ?_
      refine seqQ_norm ?_
      refine W_seq (by kernel_rfl) ?_
      obtain ⟨v298, h299, h⟩ := bind_of h
      refine W_cutK (Q' := (exQ .normal (ref_Gates_s6 a0 a1 i202)) v298) ?_ ?_
      · replace h := h299
        refine W_block (id := 1) (by kernel_rfl) ?_
        refine W_seq (by kernel_rfl) ?_
        refine W_run 6 [(3, .val (.dat (.pair tI (.pair tI tI)) v205)), (7, .typed)] [1, 5, 6, 7, 11, 12, 13] [10, 7] (fr' := [(1, aI a1), (5, .one (.slc 10)), (6, aI i202), (7, .one (.ptr 7 0)), (11, aD (.slice (.pair tI (.pair tI tI))) a0), (12, aI (List.length a0 : Int)), (13, aI i202)]) (L' := [(10, .seq .bool x203), (7, .one (.pair tI (.pair tI tI)) v205)]) (obs := [Idx a0 i202 v205, True]) (by kernel_rfl) (by kernel_rfl) (by kernel_rfl) (allP2 (Idx.of h206) (allP1 trivial)) ?_
        refine seqQ_norm ?_
        refine W_seq (by kernel_rfl) ?_
        refine W_run 2 [] [1, 5, 6, 7, 11, 12, 13, 19] [10, 7] (fr' := [(1, aI a1), (5, .one (.slc 10)), (6, aI i202), (7, .one (.ptr 7 0)), (11, aD (.slice (.pair tI (.pair tI tI))) a0), (12, aI (List.length a0 : Int)), (13, aI i202), (19, aI v205.1)]) (L' := [(10, .seq .bool x203), (7, .one (.pair tI (.pair tI tI)) v205)]) (obs := []) (by kernel_rfl) (by kernel_rfl) (by kernel_rfl) allP0 ?_
        refine seqQ_norm ?_
        refine W_block (id := 2) (by kernel_rfl) ?_
        refine W_seq (by kernel_rfl) ?_
        refine W_run 2 [] [1, 5, 6, 7, 11, 12, 13, 19, 20] [10, 7] (fr' := [(1, aI a1), (5, .one (.slc 10)), (6, aI i202), (7, .one (.ptr 7 0)), (11, aD (.slice (.pair tI (.pair tI tI))) a0), (12, aI (List.length a0 : Int)), (13, aI i202), (19, aI v205.1), (20, aB (v205.1 == (1 : Int)))]) (L' := [(10, .seq .bool x203), (7, .one (.pair tI (.pair tI tI)) v205)]) (obs := []) (by kernel_rfl) (by kernel_rfl) (by kernel_rfl) allP0 ?_
        refine seqQ_norm ?_
        refine W_cond (o := .tmp 20) (b := v205.1 == (1 : Int)) (by kernel_rfl) (by kernel_rfl) (fun h268 => ?_) (fun h268 => ?_)
        · replace h := ofT h268 h
          refine W_region (by kernel_rfl) ?_
          refine WO_run (j := 5) (k := 5) (orcs := []) (kF := [1, 5, 11, 12, 13, 22, 23, 24, 26]) (kL := [7, 10]) (fr' := [(1, aI a1), (5, .one (.slc 10)), (11, aD (.slice (.pair tI (.pair tI tI))) a0), (12, aI (List.length a0 : Int)), (13, aI i202), (22, .one (.slc 10)), (23, aI i202), (24, aI a1), (26, aI v205.2.1)]) (L' := [(7, .one (.pair tI (.pair tI tI)) v205), (10, .seq .bool x203)]) (obs := []) rfl (by kernel_rfl) allP0 ?_
          obtain ⟨r269, h270, h⟩ := bind_of h
          refine WO_call0 (us := [none, none]) (d := 27) (p := True) (j := 6) rfl ⟨by kernel_rfl, by kernel_rfl, by kernel_rfl⟩ trivial (ref_Bit_ok h270) (by kernel_rfl) ?_
          obtain ⟨v271, h272, h⟩ := bind_of h
          refine WO_run (j := 8) (k := 2) (orcs := []) (kF := [1, 5, 11, 12, 13]) (kL := [7, 10]) (fr' := [(1, aI a1), (5, .one (.slc 10)), (11, aD (.slice (.pair tI (.pair tI tI))) a0), (12, aI (List.length a0 : Int)), (13, aI i202)]) (L' := [(7, .one (.pair tI (.pair tI tI)) v205), (10, .seq .bool (List.set x203 (Int.toNat i202) r269))]) (obs := [InR i202 (List.length x203), InR i202 (List.length x203)]) rfl (by kernel_rfl) (allP2 (InR.of h272) (allP1 (InR.of h272))) ?_
          obtain rfl := Option.some.inj h
          refine WO_fin [1, 5, 11, 12, 13] [10] (fr' := [(1, aI a1), (5, .one (.slc 10)), (11, aD (.slice (.pair tI (.pair tI tI))) a0), (12, aI (List.length a0 : Int)), (13, aI i202)]) (L' := [(10, .seq .bool (List.set x203 (Int.toNat i202) r269))]) (by kernel_rfl) (by kernel_rfl) ?_
          refine blockQ_norm ?_
          refine blockQ_norm ?_
          exact exQ_mk (by kernel_rfl) (by kernel_rfl)
        · replace h := ofF h268 h
          refine W_seq (by kernel_rfl) ?_
          refine W_run 2 [] [1, 5, 6, 7, 11, 12, 13, 19, 29] [10, 7] (fr' := [(1, aI a1), (5, .one (.slc 10)), (6, aI i202), (7, .one (.ptr 7 0)), (11, aD (.slice (.pair tI (.pair tI tI))) a0), (12, aI (List.length a0 : Int)), (13, aI i202), (19, aI v205.1), (29, aB (v205.1 == (2 : Int)))]) (L' := [(10, .seq .bool x203), (7, .one (.pair tI (.pair tI tI)) v205)]) (obs := []) (by kernel_rfl) (by kernel_rfl) (by kernel_rfl) allP0 ?_
          refine seqQ_norm ?_
          refine W_cond (o := .tmp 29) (b := v205.1 == (2 : Int)) (by kernel_rfl) (by kernel_rfl) (fun h273 => ?_) (fun h273 => ?_)
          · replace h := ofT h273 h
            obtain ⟨v274, h275, h⟩ := bind_of h
            obtain ⟨v276, h277, h⟩ := bind_of h
            obtain rfl := Option.some.inj h
            refine W_run 10 [(13, .val (.dat .bool v274))] [1, 5, 11, 12, 13] [10] (fr' := [(1, aI a1), (5, .one (.slc 10)), (11, aD (.slice (.pair tI (.pair tI tI))) a0), (12, aI (List.length a0 : Int)), (13, aI i202)]) (L' := [(10, .seq .bool (List.set x203 (Int.toNat i202) (!v274)))]) (obs := [InR v205.2.1 (List.length x203), Idx x203 v205.2.1 v274, InR i202 (List.length x203), InR i202 (List.length x203)]) (by kernel_rfl) (by kernel_rfl) (by kernel_rfl) (allP2 (InR.of h275) (allP2 (Idx.of h275) (allP2 (InR.of h277) (allP1 (InR.of h277))))) ?_
            refine blockQ_norm ?_
            refine blockQ_norm ?_
            exact exQ_mk (by kernel_rfl) (by kernel_rfl)
          · replace h := ofF h273 h
            refine W_seq (by kernel_rfl) ?_
            refine W_run 2 [] [1, 5, 6, 7, 11, 12, 13, 19, 40] [10, 7] (fr' := [(1, aI a1), (5, .one (.slc 10)), (6, aI i202), (7, .one (.ptr 7 0)), (11, aD (.slice (.pair tI (.pair tI tI))) a0), (12, aI (List.length a0 : Int)), (13, aI i202), (19, aI v205.1), (40, aB (v205.1 == (3 : Int)))]) (L' := [(10, .seq .bool x203), (7, .one (.pair tI (.pair tI tI)) v205)]) (obs := []) (by kernel_rfl) (by kernel_rfl) (by kernel_rfl) allP0 ?_
            refine seqQ_norm ?_
            refine W_cond (o := .tmp 40) (b := v205.1 == (3 : Int)) (by kernel_rfl) (by kernel_rfl) (fun h278 => ?_) (fun h278 => ?_)
            · replace h := ofT h278 h
              obtain ⟨v279, h280, h⟩ := bind_of h
              refine W_region (by kernel_rfl) ?_
              refine WO_run (j := 8) (k := 8) (orcs := [(13, .val (.dat .bool v279))]) (kF := [1, 5, 7, 11, 12, 13, 42, 43, 49]) (kL := [7, 10]) (fr' := [(1, aI a1), (5, .one (.slc 10)), (7, .one (.ptr 7 0)), (11, aD (.slice (.pair tI (.pair tI tI))) a0), (12, aI (List.length a0 : Int)), (13, aI i202), (42, .one (.slc 10)), (43, aI i202), (49, aB v279)]) (L' := [(7, .one (.pair tI (.pair tI tI)) v205), (10, .seq .bool x203)]) (obs := [InR v205.2.1 (List.length x203), Idx x203 v205.2.1 v279]) rfl (by kernel_rfl) (allP2 (InR.of h280) (allP1 (Idx.of h280))) ?_
              rcases Bool.eq_false_or_eq_true (v279) with h281 | h281
              · replace h := ofT h281 h
                obtain ⟨v282, h283, h⟩ := bind_of h
                obtain ⟨v284, h285, h⟩ := bind_of h
                refine WO_run (j := 16) (k := 8) (orcs := [(16, .known true), (18, .known true), (20, .known true), (22, .known true), (24, .known true), (25, .val (.dat .bool v282)), (27, .val (.dat .bool true))]) (kF := [1, 5, 11, 12, 13]) (kL := [7, 10]) (fr' := [(1, aI a1), (5, .one (.slc 10)), (11, aD (.slice (.pair tI (.pair tI tI))) a0), (12, aI (List.length a0 : Int)), (13, aI i202)]) (L' := [(7, .one (.pair tI (.pair tI tI)) v205), (10, .seq .bool (List.set x203 (Int.toNat i202) v282))]) (obs := [(v279 = true), (v279 = true), (v279 = true), (v279 = true), InR v205.2.2 (List.length x203), (v279 = true), Idx x203 v205.2.2 v282, (v279 = true), InR i202 (List.length x203), InR i202 (List.length x203)]) rfl (by kernel_rfl) (allP2 h281 (allP2 h281 (allP2 h281 (allP2 h281 (allP2 (InR.of h283) (allP2 h281 (allP2 (Idx.of h283) (allP2 h281 (allP2 (InR.of h285) (allP1 (InR.of h285))))))))))) ?_
                obtain rfl := Option.some.inj h
                refine WO_fin [1, 5, 11, 12, 13] [10] (fr' := [(1, aI a1), (5, .one (.slc 10)), (11, aD (.slice (.pair tI (.pair tI tI))) a0), (12, aI (List.length a0 : Int)), (13, aI i202)]) (L' := [(10, .seq .bool (List.set x203 (Int.toNat i202) v282))]) (by kernel_rfl) (by kernel_rfl) ?_
                refine blockQ_norm ?_
                refine blockQ_norm ?_
                exact exQ_mk (by kernel_rfl) (by kernel_rfl)
              · replace h := ofF h281 h
                obtain ⟨v286, h287, h⟩ := bind_of h
                refine WO_run (j := 16) (k := 8) (orcs := [(16, .known false), (18, .known false), (20, .known false), (22, .known false), (24, .known false), (27, .val (.dat .bool false))]) (kF := [1, 5, 11, 12, 13]) (kL := [7, 10]) (fr' := [(1, aI a1), (5, .one (.slc 10)), (11, aD (.slice (.pair tI (.pair tI tI))) a0), (12, aI (List.length a0 : Int)), (13, aI i202)]) (L' := [(7, .one (.pair tI (.pair tI tI)) v205), (10, .seq .bool (List.set x203 (Int.toNat i202) false))]) (obs := [(v279 = false), (v279 = false), (v279 = false), (v279 = false), (v279 = false), (v279 = false), InR i202 (List.length x203), InR i202 (List.length x203)]) rfl (by kernel_rfl) (allP2 h281 (allP2 h281 (allP2 h281 (allP2 h281 (allP2 h281 (allP2 h281 (allP2 (InR.of h287) (allP1 (InR.of h287))))))))) ?_
                obtain rfl := Option.some.inj h
                refine WO_fin [1, 5, 11, 12, 13] [10] (fr' := [(1, aI a1), (5, .one (.slc 10)), (11, aD (.slice (.pair tI (.pair tI tI))) a0), (12, aI (List.length a0 : Int)), (13, aI i202)]) (L' := [(10, .seq .bool (List.set x203 (Int.toNat i202) false))]) (by kernel_rfl) (by kernel_rfl) ?_
                refine blockQ_norm ?_
                refine blockQ_norm ?_
                exact exQ_mk (by kernel_rfl) (by kernel_rfl)
            · replace h := ofF h278 h
              refine W_seq (by kernel_rfl) ?_
              refine W_run 2 [] [1, 5, 6, 7, 11, 12, 13, 57] [10, 7] (fr' := [(1, aI a1), (5, .one (.slc 10)), (6, aI i202), (7, .one (.ptr 7 0)), (11, aD (.slice (.pair tI (.pair tI tI))) a0), (12, aI (List.length a0 : Int)), (13, aI i202), (57, aB (v205.1 == (4 : Int)))]) (L' := [(10, .seq .bool x203), (7, .one (.pair tI (.pair tI tI)) v205)]) (obs := []) (by kernel_rfl) (by kernel_rfl) (by kernel_rfl) allP0 ?_
              refine seqQ_norm ?_
              refine W_cond (o := .tmp 57) (b := v205.1 == (4 : Int)) (by kernel_rfl) (by kernel_rfl) (fun h288 => ?_) (fun h288 => ?_)
              · replace h := ofT h288 h
                obtain ⟨v289, h290, h⟩ := bind_of h
                refine W_region (by kernel_rfl) ?_
                refine WO_run (j := 8) (k := 8) (orcs := [(13, .val (.dat .bool v289))]) (kF := [1, 5, 7, 11, 12, 13, 59, 60, 66]) (kL := [7, 10]) (fr' := [(1, aI a1), (5, .one (.slc 10)), (7, .one (.ptr 7 0)), (11, aD (.slice (.pair tI (.pair tI tI))) a0), (12, aI (List.length a0 : Int)), (13, aI i202), (59, .one (.slc 10)), (60, aI i202), (66, aB v289)]) (L' := [(7, .one (.pair tI (.pair tI tI)) v205), (10, .seq .bool x203)]) (obs := [InR v205.2.1 (List.length x203), Idx x203 v205.2.1 v289]) rfl (by kernel_rfl) (allP2 (InR.of h290) (allP1 (Idx.of h290))) ?_
                rcases Bool.eq_false_or_eq_true (v289) with h291 | h291
                · replace h := ofT h291 h
                  obtain ⟨v292, h293, h⟩ := bind_of h
                  refine WO_run (j := 16) (k := 8) (orcs := [(16, .known true), (18, .known true), (20, .known true), (22, .known true), (24, .known true), (27, .val (.dat .bool true))]) (kF := [1, 5, 11, 12, 13]) (kL := [7, 10]) (fr' := [(1, aI a1), (5, .one (.slc 10)), (11, aD (.slice (.pair tI (.pair tI tI))) a0), (12, aI (List.length a0 : Int)), (13, aI i202)]) (L' := [(7, .one (.pair tI (.pair tI tI)) v205), (10, .seq .bool (List.set x203 (Int.toNat i202) true))]) (obs := [(v289 = true), (v289 = true), (v289 = true), (v289 = true), (v289 = true), (v289 = true), InR i202 (List.length x203), InR i202 (List.length x203)]) rfl (by kernel_rfl) (allP2 h291 (allP2 h291 (allP2 h291 (allP2 h291 (allP2 h291 (allP2 h291 (allP2 (InR.of h293) (allP1 (InR.of h293))))))))) ?_
                  obtain rfl := Option.some.inj h
                  refine WO_fin [1, 5, 11, 12, 13] [10] (fr' := [(1, aI a1), (5, .one (.slc 10)), (11, aD (.slice (.pair tI (.pair tI tI))) a0), (12, aI (List.length a0 : Int)), (13, aI i202)]) (L' := [(10, .seq .bool (List.set x203 (Int.toNat i202) true))]) (by kernel_rfl) (by kernel_rfl) ?_
                  refine blockQ_norm ?_
                  refine blockQ_norm ?_
                  exact exQ_mk (by kernel_rfl) (by kernel_rfl)
                · replace h := ofF h291 h
                  obtain ⟨v294, h295, h⟩ := bind_of h
                  obtain ⟨v296, h297, h⟩ := bind_of h
                  refine WO_run (j := 16) (k := 8) (orcs := [(16, .known false), (18, .known false), (20, .known false), (22, .known false), (24, .known false), (25, .val (.dat .bool v294)), (27, .val (.dat .bool false))]) (kF := [1, 5, 11, 12, 13]) (kL := [7, 10]) (fr' := [(1, aI a1), (5, .one (.slc 10)), (11, aD (.slice (.pair tI (.pair tI tI))) a0), (12, aI (List.length a0 : Int)), (13, aI i202)]) (L' := [(7, .one (.pair tI (.pair tI tI)) v205), (10, .seq .bool (List.set x203 (Int.toNat i202) v294))]) (obs := [(v289 = false), (v289 = false), (v289 = false), (v289 = false), InR v205.2.2 (List.length x203), (v289 = false), Idx x203 v205.2.2 v294, (v289 = false), InR i202 (List.length x203), InR i202 (List.length x203)]) rfl (by kernel_rfl) (allP2 h291 (allP2 h291 (allP2 h291 (allP2 h291 (allP2 (InR.of h295) (allP2 h291 (allP2 (Idx.of h295) (allP2 h291 (allP2 (InR.of h297) (allP1 (InR.of h297))))))))))) ?_
                  obtain rfl := Option.some.inj h
                  refine WO_fin [1, 5, 11, 12, 13] [10] (fr' := [(1, aI a1), (5, .one (.slc 10)), (11, aD (.slice (.pair tI (.pair tI tI))) a0), (12, aI (List.length a0 : Int)), (13, aI i202)]) (L' := [(10, .seq .bool (List.set x203 (Int.toNat i202) v294))]) (by kernel_rfl) (by kernel_rfl) ?_
                  refine blockQ_norm ?_
                  refine blockQ_norm ?_
                  exact exQ_mk (by kernel_rfl) (by kernel_rfl)
              · replace h := ofF h288 h
                obtain rfl := Option.some.inj h
                refine W_skip [1, 5, 11, 12, 13] [10] (fr' := [(1, aI a1), (5, .one (.slc 10)), (11, aD (.slice (.pair tI (.pair tI tI))) a0), (12, aI (List.length a0 : Int)), (13, aI i202)]) (L' := [(10, .seq .bool x203)]) (by kernel_rfl) (by kernel_rfl) ?_
                refine blockQ_norm ?_
                refine blockQ_norm ?_
                exact exQ_mk (by kernel_rfl) (by kernel_rfl)
      · intro e fr L hJ
        obtain ⟨rfl, rfl, rfl⟩ := hJ
        refine LT_keep [1, 5, 11, 12, 13] [10] (fr' := [(1, aI a1), (5, .one (.slc 10)), (11, aD (.slice (.pair tI (.pair tI tI))) a0), (12, aI (List.length a0 : Int)), (13, aI i202)]) (L' := [(10, .seq .bool v298)]) (by kernel_rfl) ?_
        refine seqQ_norm ?_
        obtain rfl := Option.some.inj h
        refine W_run 2 [] [1, 5, 11, 12, 13] [10] (fr' := [(1, aI a1), (5, .one (.slc 10)), (11, aD (.slice (.pair tI (.pair tI tI))) a0), (12, aI (List.length a0 : Int)), (13, aI (w64 (i202 + (1 : Int))))]) (L' := [(10, .seq .bool v298)]) (obs := []) (by kernel_rfl) (by kernel_rfl) (by kernel_rfl) allP0 ?_
        exact round_next' (by kernel_rfl) (by kernel_rfl)
    · obtain rfl := stepL_false h207 h
      refine W_exit (id := 0) [5] [10] (fr' := [(5, .one (.slc 10))]) (L' := [(10, .seq .bool x203)]) (by kernel_rfl) (by kernel_rfl) ?_
      refine seqQ_exit ?_
      refine round_exit ?_
      exact exQ_mk (by kernel_rfl) (by kernel_rfl)
  · intro e fr L hJ
    obtain ⟨rfl, rfl, rfl⟩ := hJ
    refine LT_keep [5] [10] (fr' := [(5, .one (.slc 10))]) (L' := [(10, .seq .bool v301)]) (by kernel_rfl) ?_
    refine blockQ_hit ?_
    refine seqQ_norm ?_
    refine W_seq (by kernel_rfl) ?_
    refine W_run 2 [] [4] [10] (fr' := [(4, .one (.slc 10))]) (L' := [(10, .seq .bool v301)]) (obs := []) (by kernel_rfl) (by kernel_rfl) (by kernel_rfl) allP0 ?_
    refine seqQ_norm ?_
    obtain rfl := Option.some.inj h
    refine W_frz 10 (by kernel_rfl) ?_
    refine W_ret [4] [] (fr' := [(4, aD (.slice .bool) v301)]) (L' := []) (by kernel_rfl) (by kernel_rfl) ?_
    exact retQ_mk (by kernel_rfl) (by kernel_rfl) (by kernel_rfl)

def ref_Bits_b1 (a1 : Int) (i10 : Int) (x11 : (List Bool)) : Option (Flow (List Bool) (List Bool)) :=
(ref_Bit a1 i10).bind fun r14 =>
(ck ((List.length x11 : Int) + 1 ≤ 4294967296)).bind fun _ =>
some (.next (x11 ++ [r14]))
@[reducible] def ref_Bits_s2 (a0 : Int) (a1 : Int) (v : Int × (List Bool)) : Fr × LL := ([(0, aI a0), (1, aI a1), (5, .one (.slc 17)), (6, aI v.1)], [(17, .seq .bool v.2)])
@[reducible] def ref_Bits_s3 (v : (List Bool)) : Fr × LL := ([(5, .one (.slc 17))], [(17, .seq .bool v)])
def ref_Bits (a0 : Int) (a1 : Int) : Option (List Bool) :=
(forI (0 : Int) a0 (ref_Bits_b1 a1) (fun x11 => x11) []).bind fun v18 =>
some v18
theorem ref_Bits_ok {a0 : Int} {a1 : Int} {r : (List Bool)} (h : ref_Bits a0 a1 = some r) : FnC Try.prog 17 [aI a0, aI a1] [] (aD (.slice .bool) r) [] := by
  refine fnC_of_W (B := bodyOf Try.f17) (n := 19) Try.func17 (by kernel_rfl) (by kernel_rfl) (by kernel_rfl) (by kernel_rfl) (by kernel_rfl) ?_
  intro K
  refine W_seq (by kernel_rfl) ?_
  refine W_run 1 [] [0, 1] [] (fr' := [(0, aI a0), (1, aI a1)]) (L' := []) (obs := []) (by kernel_rfl) (by kernel_rfl) (by kernel_rfl) allP0 ?_
  refine seqQ_norm ?_
  refine W_seq (by kernel_rfl) ?_
  refine W_run 1 [] [0, 1, 5] [] (fr' := [(0, aI a0), (1, aI a1), (5, .one (.nilS))]) (L' := []) (obs := []) (by kernel_rfl) (by kernel_rfl) (by kernel_rfl) allP0 ?_
  refine seqQ_norm ?_
  refine W_seq (by kernel_rfl) ?_
  refine W_seq (by kernel_rfl) ?_
  refine W_run 1 [] [0, 1, 5, 6] [] (fr' := [(0, aI a0), (1, aI a1), (5, .one (.nilS)), (6, aI (0 : Int))]) (L' := []) (obs := []) (by kernel_rfl) (by kernel_rfl) (by kernel_rfl) allP0 ?_
  refine seqQ_norm ?_
  refine W_block (id := 0) (by kernel_rfl) ?_
  obtain ⟨v18, h19, h⟩ := bind_of h
  obtain ⟨h20, h21⟩ := forI_iter h19
  refine W_mine 5 17 .bool (by kernel_rfl) ?_
  refine W_weaken [0, 1, 5, 6] [17] (fr' := ((ref_Bits_s2 a0 a1) ((0 : Int), [])).1) (L' := ((ref_Bits_s2 a0 a1) ((0 : Int), [])).2) (by kernel_rfl) ?_
  refine W_cutK (W_loop (S := (ref_Bits_s2 a0 a1)) (J := (exQ (.exit 0) ref_Bits_s3)) (by kernel_rfl) ?_ h20 _ v18 h21) ?_
  · rintro ⟨i10, x11⟩ s h
    refine W_seq (by kernel_rfl) ?_
    refine W_seq (by kernel_rfl) ?_
    refine W_run 3 [] [0, 1, 5, 6, 9] [17] (fr' := [(0, aI a0), (1, aI a1), (5, .one (.slc 17)), (6, aI i10), (9, aB (decide (i10 < a0)))]) (L' := [(17, .seq .bool x11)]) (obs := []) (by kernel_rfl) (by kernel_rfl) (by kernel_rfl) allP0 ?_
    refine seqQ_norm ?_
    refine W_cond (o := .tmp 9) (b := decide (i10 < a0)) (by kernel_rfl) (by kernel_rfl) (fun h13 => ?_) (fun h13 => ?_)
    · replace h := stepI_true h13 h
      obtain ⟨_, h, rfl⟩ := h
      refine W_skip [0, 1, 5, 6] [17] (fr' := [(0, aI a0), (1, aI a1), (5, .one (.slc 17)), (6, aI i10)]) (L' := [(17, .seq .bool x11)]) (by kernel_rfl) (by kernel_rfl) ?_
      refine seqQ_norm ?_
      refine W_seq (by kernel_rfl) ?_
      refine W_block (id := 1) (by kernel_rfl) ?_
      refine W_region (by kernel_rfl) ?_
      refine WO_run (j := 3) (k := 3) (orcs := []) (kF := [0, 1, 5, 6, 12, 13, 14]) (kL := [17]) (fr' := [(0, aI a0), (1, aI a1), (5, .one (.slc 17)), (6, aI i10), (12, .one (.slc 17)), (13, aI a1), (14, aI i10)]) (L' := [(17, .seq .bool x11)]) (obs := []) rfl (by kernel_rfl) allP0 ?_
      obtain ⟨r14, h15, h⟩ := bind_of h
      refine WO_call0 (us := [none, none]) (d := 15) (p := True) (j := 4) rfl ⟨by kernel_rfl, by kernel_rfl, by kernel_rfl⟩ trivial (ref_Bit_ok h15) (by kernel_rfl) ?_
      obtain ⟨_, h16, h⟩ := bind_of h
      replace h16 := ck_some h16
      refine WO_run (j := 7) (k := 3) (orcs := []) (kF := [0, 1, 5, 6]) (kL := [16, 17]) (fr' := [(0, aI a0), (1, aI a1), (5, .one (.slc 17)), (6, aI i10)]) (L' := [(16, .seq .bool [r14]), (17, .seq .bool (x11 ++ [r14]))]) (obs := [SmallLen (List.length x11 + List.length [r14])]) rfl (by kernel_rfl) (allP1 h16) ?_
      refine WO_fin [0, 1, 5, 6] [17] (fr' := [(0, aI a0), (1, aI a1), (5, .one (.slc 17)), (6, aI i10)]) (L' := [(17, .seq .bool (x11 ++ [r14]))]) (by kernel_rfl) (by kernel_rfl) ?_
      refine blockQ_norm ?_
      refine seqQ_norm ?_
      obtain rfl := Option.some.inj h
      refine W_run 3 [] [0, 1, 5, 6] [17] (fr' := [(0, aI a0), (1, aI a1), (5, .one (.slc 17)), (6, aI (w64 (i10 + (1 : Int))))]) (L' := [(17, .seq .bool (x11 ++ [r14]))]) (obs := []) (by kernel_rfl) (by kernel_rfl) (by kernel_rfl) allP0 ?_
      exact round_next' (by kernel_rfl) (by kernel_rfl)
    · obtain rfl := stepI_false h13 h
      refine W_exit (id := 0) [5] [17] (fr' := [(5, .one (.slc 17))]) (L' := [(17, .seq .bool x11)]) (by kernel_rfl) (by kernel_rfl) ?_
      refine seqQ_exit ?_
      refine round_exit ?_
      exact exQ_mk (by kernel_rfl) (by kernel_rfl)
  · intro e fr L hJ
    obtain ⟨rfl, rfl, rfl⟩ := hJ
    refine LT_keep [5] [17] (fr' := [(5, .one (.slc 17))]) (L' := [(17, .seq .bool v18)]) (by kernel_rfl) ?_
    refine blockQ_hit ?_
    refine seqQ_norm ?_
    refine W_seq (by kernel_rfl) ?_
    refine W_run 2 [] [4] [17] (fr' := [(4, .one (.slc 17))]) (L' := [(17, .seq .bool v18)]) (obs := []) (by kernel_rfl) (by kernel_rfl) (by kernel_rfl) allP0 ?_
    refine seqQ_norm ?_
    obtain rfl := Option.some.inj h
    refine W_frz 17 (by kernel_rfl) ?_
    refine W_ret [4] [] (fr' := [(4, aD (.slice .bool) v18)]) (L' := []) (by kernel_rfl) (by kernel_rfl) ?_
    exact retQ_mk (by kernel_rfl) (by kernel_rfl) (by kernel_rfl)

@[reducible] def ref_choices_i2_s891 (a0 : (List ((List Int) × (List Int)))) (c0 : (List Int)) (i7267 : Int) (x7268 : (Bool × (List Int))) (v7270 : ((List Int) × (List Int))) (i7946 : Int) (x7947 : (Int × Int × Int × Bool)) (v7949 : Int) (v : Bool) : Fr × LL := ([(0, aD (.slice (.pair (.slice tI) (.slice tI))) a0), (1, .one (.slc 19)), (5, aB x7268.1), (7, .one (.ptr 7 0)), (8, aI x7947.1), (9, aI x7947.2.1), (10, aI x7947.2.2.1), (11, aB v), (13, aI v7949), (23, aD (.slice (.pair (.slice tI) (.slice tI))) a0), (24, aI (List.length a0 : Int)), (25, aI i7267), (30, aD (.slice tI) v7270.1), (31, aI (List.length v7270.1 : Int)), (32, aI i7946)], [(19, .seq tI x7268.2), (7, .one (.pair (.slice tI) (.slice tI)) v7270), (1000, .seq tI c0)])
def ref_choices_i2_g892 (x7268 : (Bool × (List Int))) (x7947 : (Int × Int × Int × Bool)) (v7949 : Int) : Option (Int × Int × Int × Bool) :=
(bif x7947.2.2.2 then
(some true)
else
((idx x7268.2 v7949).bind fun v7987 =>
some (v7987 == (1 : Int)))).bind fun v7989 =>
(idx x7268.2 v7949).bind fun v7991 =>
bif decide (v7991 < (0 : Int)) then
(some (v7949, (1 : Int), w64 (x7947.2.2.1 + (1 : Int)), v7989))
else
(some (x7947.1, x7947.2.1, x7947.2.2.1, v7989))
@[reducible] def ref_choices_i2_s893 (a0 : (List ((List Int) × (List Int)))) (c0 : (List Int)) (i7267 : Int) (x7268 : (Bool × (List Int))) (v7270 : ((List Int) × (List Int))) (i7946 : Int) (v : (Int × Int × Int × Bool)) : Fr × LL := ([(0, aD (.slice (.pair (.slice tI) (.slice tI))) a0), (1, .one (.slc 19)), (5, aB x7268.1), (7, .one (.ptr 7 0)), (8, aI v.1), (9, aI v.2.1), (10, aI v.2.2.1), (11, aB v.2.2.2), (23, aD (.slice (.pair (.slice tI) (.slice tI))) a0), (24, aI (List.length a0 : Int)), (25, aI i7267), (30, aD (.slice tI) v7270.1), (31, aI (List.length v7270.1 : Int)), (32, aI i7946)], [(19, .seq tI x7268.2), (7, .one (.pair (.slice tI) (.slice tI)) v7270), (1000, .seq tI c0)])
def ref_choices_i2_b894 (x7268 : (Bool × (List Int))) (i7946 : Int) (v7949 : Int) (x7947 : (Int × Int × Int × Bool)) : Option (Flow (Int × Int × Int × Bool) (Int × Int × Int × Bool)) :=
(ref_choices_i2_g892 x7268 x7947 v7949).bind fun v7994 =>
some (.next (v7994.1, v7994.2.1, v7994.2.2.1, v7994.2.2.2))
@[reducible] def ref_choices_i2_s895 (a0 : (List ((List Int) × (List Int)))) (c0 : (List Int)) (i7267 : Int) (x7268 : (Bool × (List Int))) (v7270 : ((List Int) × (List Int))) (v : Int × (Int × Int × Int × Bool)) : Fr × LL := ([(0, aD (.slice (.pair (.slice tI) (.slice tI))) a0), (1, .one (.slc 19)), (5, aB x7268.1), (7, .one (.ptr 7 0)), (8, aI v.2.1), (9, aI v.2.2.1), (10, aI v.2.2.2.1), (11, aB v.2.2.2.2), (23, aD (.slice (.pair (.slice tI) (.slice tI))) a0), (24, aI (List.length a0 : Int)), (25, aI i7267), (30, aD (.slice tI) v7270.1), (31, aI (List.length v7270.1 : Int)), (32, aI v.1)], [(19, .seq tI x7268.2), (7, .one (.pair (.slice tI) (.slice tI)) v7270), (1000, .seq tI c0)])
@[reducible] def ref_choices_i2_s896 (a0 : (List ((List Int) × (List Int)))) (c0 : (List Int)) (i7267 : Int) (x7268 : (Bool × (List Int))) (v7270 : ((List Int) × (List Int))) (v : (Int × Int × Int × Bool)) : Fr × LL := ([(0, aD (.slice (.pair (.slice tI) (.slice tI))) a0), (1, .one (.slc 19)), (5, aB x7268.1), (7, .one (.ptr 7 0)), (8, aI v.1), (9, aI v.2.1), (10, aI v.2.2.1), (11, aB v.2.2.2), (23, aD (.slice (.pair (.slice tI) (.slice tI))) a0), (24, aI (List.length a0 : Int)), (25, aI i7267)], [(19, .seq tI x7268.2), (7, .one (.pair (.slice tI) (.slice tI)) v7270), (1000, .seq tI c0)])
@[reducible] def ref_choices_i2_s909 (a0 : (List ((List Int) × (List Int)))) (c0 : (List Int)) (i7267 : Int) (x7268 : (Bool × (List Int))) (v7270 : ((List Int) × (List Int))) (i8106 : Int) (x8107 : (Int × Int × Int × Bool)) (v8109 : Int) (v : Bool) : Fr × LL := ([(0, aD (.slice (.pair (.slice tI) (.slice tI))) a0), (1, .one (.slc 19)), (5, aB x7268.1), (8, aI x8107.1), (9, aI x8107.2.1), (10, aI x8107.2.2.1), (11, aB v), (15, aI v8109), (23, aD (.slice (.pair (.slice tI) (.slice tI))) a0), (24, aI (List.length a0 : Int)), (25, aI i7267), (54, aD (.slice tI) v7270.2), (55, aI (List.length v7270.2 : Int)), (56, aI i8106)], [(19, .seq tI x7268.2), (1000, .seq tI c0)])
def ref_choices_i2_g910 (x7268 : (Bool × (List Int))) (x8107 : (Int × Int × Int × Bool)) (v8109 : Int) : Option (Int × Int × Int × Bool) :=
(bif x8107.2.2.2 then
(some true)
else
((idx x7268.2 v8109).bind fun v8147 =>
some (v8147 == (0 : Int)))).bind fun v8149 =>
(idx x7268.2 v8109).bind fun v8151 =>
bif decide (v8151 < (0 : Int)) then
(some (v8109, (0 : Int), w64 (x8107.2.2.1 + (1 : Int)), v8149))
else
(some (x8107.1, x8107.2.1, x8107.2.2.1, v8149))
@[reducible] def ref_choices_i2_s911 (a0 : (List ((List Int) × (List Int)))) (c0 : (List Int)) (i7267 : Int) (x7268 : (Bool × (List Int))) (v7270 : ((List Int) × (List Int))) (i8106 : Int) (v : (Int × Int × Int × Bool)) : Fr × LL := ([(0, aD (.slice (.pair (.slice tI) (.slice tI))) a0), (1, .one (.slc 19)), (5, aB x7268.1), (8, aI v.1), (9, aI v.2.1), (10, aI v.2.2.1), (11, aB v.2.2.2), (23, aD (.slice (.pair (.slice tI) (.slice tI))) a0), (24, aI (List.length a0 : Int)), (25, aI i7267), (54, aD (.slice tI) v7270.2), (55, aI (List.length v7270.2 : Int)), (56, aI i8106)], [(19, .seq tI x7268.2), (1000, .seq tI c0)])
def ref_choices_i2_b912 (x7268 : (Bool × (List Int))) (i8106 : Int) (v8109 : Int) (x8107 : (Int × Int × Int × Bool)) : Option (Flow (Int × Int × Int × Bool) (Int × Int × Int × Bool)) :=
(ref_choices_i2_g910 x7268 x8107 v8109).bind fun v8154 =>
some (.next (v8154.1, v8154.2.1, v8154.2.2.1, v8154.2.2.2))
@[reducible] def ref_choices_i2_s913 (a0 : (List ((List Int) × (List Int)))) (c0 : (List Int)) (i7267 : Int) (x7268 : (Bool × (List Int))) (v7270 : ((List Int) × (List Int))) (v : Int × (Int × Int × Int × Bool)) : Fr × LL := ([(0, aD (.slice (.pair (.slice tI) (.slice tI))) a0), (1, .one (.slc 19)), (5, aB x7268.1), (8, aI v.2.1), (9, aI v.2.2.1), (10, aI v.2.2.2.1), (11, aB v.2.2.2.2), (23, aD (.slice (.pair (.slice tI) (.slice tI))) a0), (24, aI (List.length a0 : Int)), (25, aI i7267), (54, aD (.slice tI) v7270.2), (55, aI (List.length v7270.2 : Int)), (56, aI v.1)], [(19, .seq tI x7268.2), (1000, .seq tI c0)])
@[reducible] def ref_choices_i2_s914 (a0 : (List ((List Int) × (List Int)))) (c0 : (List Int)) (i7267 : Int) (x7268 : (Bool × (List Int))) (v : (Int × Int × Int × Bool)) : Fr × LL := ([(0, aD (.slice (.pair (.slice tI) (.slice tI))) a0), (1, .one (.slc 19)), (5, aB x7268.1), (8, aI v.1), (9, aI v.2.1), (10, aI v.2.2.1), (11, aB v.2.2.2), (23, aD (.slice (.pair (.slice tI) (.slice tI))) a0), (24, aI (List.length a0 : Int)), (25, aI i7267)], [(19, .seq tI x7268.2), (1000, .seq tI c0)])
def ref_choices_i2_g915 (x7268 : (Bool × (List Int))) (v7270 : ((List Int) × (List Int))) : Option (Esc Int (Bool × (List Int))) :=
(forL (ref_choices_i2_b894 x7268) (fun x7947 => (x7947.1, x7947.2.1, x7947.2.2.1, x7947.2.2.2)) v7270.1 0 ((-1 : Int), (0 : Int), (0 : Int), false)).bind fun v7997 =>
(forL (ref_choices_i2_b912 x7268) (fun x8107 => (x8107.1, x8107.2.1, x8107.2.2.1, x8107.2.2.2)) v7270.2 0 (v7997.1, v7997.2.1, v7997.2.2.1, v7997.2.2.2)).bind fun v8157 =>
bif v8157.2.2.2 then
(some (.brk (x7268.1, x7268.2)))
else
(bif v8157.2.2.1 == (0 : Int) then
(some (.ret (0 : Int)))
else
(bif v8157.2.2.1 == (1 : Int) then
((idx x7268.2 v8157.1).bind fun v8165 =>
some (.brk (true, List.set x7268.2 (Int.toNat v8157.1) v8157.2.1)))
else
(some (.brk (x7268.1, x7268.2)))))
@[reducible] def ref_choices_i2_s916 (c0 : (List Int)) (v : Int) : Fr × LL := ([(4, aI v)], [(1000, .seq tI c0)])
@[reducible] def ref_choices_i2_s917 (a0 : (List ((List Int) × (List Int)))) (c0 : (List Int)) (i7267 : Int) (v : (Bool × (List Int))) : Fr × LL := ([(0, aD (.slice (.pair (.slice tI) (.slice tI))) a0), (1, .one (.slc 19)), (5, aB v.1), (23, aD (.slice (.pair (.slice tI) (.slice tI))) a0), (24, aI (List.length a0 : Int)), (25, aI i7267)], [(19, .seq tI v.2), (1000, .seq tI c0)])
def ref_choices_i2_b918 (i7267 : Int) (v7270 : ((List Int) × (List Int))) (x7268 : (Bool × (List Int))) : Option (Flow (Bool × (List Int)) (Esc Int (Bool × (List Int)))) :=
(ref_choices_i2_g915 x7268 v7270).bind fun v8167 =>
match v8167 with
| .ret v8169 =>
(some (.done (.ret v8169)))
| .brk v8170 =>
(some (.next (v8170.1, v8170.2)))
@[reducible] def ref_choices_i2_s919 (a0 : (List ((List Int) × (List Int)))) (c0 : (List Int)) (v : Int × (Bool × (List Int))) : Fr × LL := ([(0, aD (.slice (.pair (.slice tI) (.slice tI))) a0), (1, .one (.slc 19)), (5, aB v.2.1), (23, aD (.slice (.pair (.slice tI) (.slice tI))) a0), (24, aI (List.length a0 : Int)), (25, aI v.1)], [(19, .seq tI v.2.2), (1000, .seq tI c0)])
@[reducible] def ref_choices_i2_s920 (c0 : (List Int)) (v : Int) : Fr × LL := ([(4, aI v)], [(1000, .seq tI c0)])
@[reducible] def ref_choices_i2_s921 (a0 : (List ((List Int) × (List Int)))) (c0 : (List Int)) (v : (Bool × (List Int))) : Fr × LL := ([(0, aD (.slice (.pair (.slice tI) (.slice tI))) a0), (1, .one (.slc 19)), (5, aB v.1)], [(19, .seq tI v.2), (1000, .seq tI c0)])
def ref_choices_i2_b922 (a0 : (List ((List Int) × (List Int)))) (x2728 : (Bool × (List Int))) : Option (Flow (Bool × (List Int)) (Esc Int (List Int))) :=
bif x2728.1 then
((forL ref_choices_i2_b918 (fun x7268 => (.brk (x7268.1, x7268.2))) a0 0 (false, x2728.2)).bind fun v8172 =>
match v8172 with
| .ret v8177 =>
(some (.done (.ret v8177)))
| .brk v8178 =>
(some (.next (v8178.1, v8178.2))))
else
(some (.done (.brk x2728.2)))
@[reducible] def ref_choices_i2_s923 (a0 : (List ((List Int) × (List Int)))) (c0 : (List Int)) (v : (Bool × (List Int))) : Fr × LL := ([(0, aD (.slice (.pair (.slice tI) (.slice tI))) a0), (1, .one (.slc 19)), (5, aB v.1)], [(19, .seq tI v.2), (1000, .seq tI c0)])
@[reducible] def ref_choices_i2_s924 (c0 : (List Int)) (v : Int) : Fr × LL := ([(4, aI v)], [(1000, .seq tI c0)])
@[reducible] def ref_choices_i2_s925 (a0 : (List ((List Int) × (List Int)))) (c0 : (List Int)) (v : (List Int)) : Fr × LL := ([(0, aD (.slice (.pair (.slice tI) (.slice tI))) a0), (1, .one (.slc 19))], [(19, .seq tI v), (1000, .seq tI c0)])
def ref_choices_i2_b926 (a0 : (List ((List Int) × (List Int)))) (v8184 : (List Int)) (rf_ref_choices_i2 : (List ((List Int) × (List Int))) → (List Int) → Option Int) (rf_ref_choices : (List ((List Int) × (List Int))) → (List Int) → Option Int) (i8211 : Int) (v8214 : Int) (x8212 : Unit) : Option (Flow Unit (Esc Int Unit)) :=
bif decide (v8214 ≥ (0 : Int)) then
(some (.next ()))
else
((rf_ref_choices_i2 a0 (List.set v8184 (Int.toNat i8211) (0 : Int))).bind fun r8218 =>
bif decide (r8218 > (1 : Int)) then
(some (.done (.ret (2 : Int))))
else
((idx (List.set v8184 (Int.toNat i8211) (0 : Int)) i8211).bind fun v8221 =>
(rf_ref_choices a0 (List.set (List.set v8184 (Int.toNat i8211) (0 : Int)) (Int.toNat i8211) (1 : Int))).bind fun r8223 =>
bif decide ((w64 (r8218 + r8223)) > (2 : Int)) then
(some (.done (.ret (2 : Int))))
else
(some (.done (.ret (w64 (r8218 + r8223)))))))
@[reducible] def ref_choices_i2_s927 (a0 : (List ((List Int) × (List Int)))) (c0 : (List Int)) (v8184 : (List Int)) (v : Int × Unit) : Fr × LL := ([(0, aD (.slice (.pair (.slice tI) (.slice tI))) a0), (1, .one (.slc 19)), (16, aI v.1)], [(19, .seq tI v8184), (1000, .seq tI c0)])
@[reducible] def ref_choices_i2_s928 (c0 : (List Int)) (v : Int) : Fr × LL := ([(4, aI v)], [(1000, .seq tI c0)])
@[reducible] def ref_choices_i2_s929 (c0 : (List Int)) (v : Unit) : Fr × LL := ([], [(1000, .seq tI c0)])
def ref_choices_i2_step (rf_ref_choices : (List ((List Int) × (List Int))) → (List Int) → Option Int) (rf_ref_choices_i2 : (List ((List Int) × (List Int))) → (List Int) → Option Int) (fuel : Nat) (a0 : (List ((List Int) × (List Int)))) (c0 : (List Int)) : Option Int :=
(ck ((0 : Int) + (List.length c0 : Int) ≤ 4294967296)).bind fun _ =>
(iter (ref_choices_i2_b922 a0) fuel (true, [] ++ c0)).bind fun v8179 =>
match v8179 with
| .ret v8183 =>
(some v8183)
| .brk v8184 =>
((forL (ref_choices_i2_b926 a0 v8184 rf_ref_choices_i2 rf_ref_choices) (fun x8212 => (.brk ())) v8184 0 ()).bind fun v8227 =>
match v8227 with
| .ret v8232 =>
(some v8232)
| .brk v8233 =>
(some (1 : Int)))
def ref_choices_i2 (rf_ref_choices : (List ((List Int) × (List Int))) → (List Int) → Option Int) : Nat → (List ((List Int) × (List Int))) → (List Int) → Option Int
  | 0 => fun _ _ => none
  | fuel + 1 => fun a0 c0 => ref_choices_i2_step rf_ref_choices (ref_choices_i2 rf_ref_choices fuel) fuel a0 c0
theorem ref_choices_i2_step_ok {rf_ref_choices : (List ((List Int) × (List Int))) → (List Int) → Option Int} (ih_ref_choices : ∀ {a0 : (List ((List Int) × (List Int)))} {a1 : (List Int)} {r : Int}, rf_ref_choices a0 a1 = some r → FnC Try.prog 44 [aD (.slice (.pair (.slice tI) (.slice tI))) a0, aD (.slice tI) a1] [] (aI r) []) {rf_ref_choices_i2 : (List ((List Int) × (List Int))) → (List Int) → Option Int} (ih_ref_choices_i2 : ∀ {a0 : (List ((List Int) × (List Int)))} {c0 : (List Int)} {r : Int}, rf_ref_choices_i2 a0 c0 = some r → FnC Try.prog 44 [aD (.slice (.pair (.slice tI) (.slice tI))) a0, .one (.slc 1000)] [(1000, .seq tI c0)] (aI r) [(1000, .seq tI c0)]) {fuel : Nat} {a0 : (List ((List Int) × (List Int)))} {c0 : (List Int)} {r : Int} (h : ref_choices_i2_step rf_ref_choices rf_ref_choices_i2 fuel a0 c0 = some r) : FnC Try.prog 44 [aD (.slice (.pair (.slice tI) (.slice tI))) a0, .one (.slc 1000)] [(1000, .seq tI c0)] (aI r) [(1000, .seq tI c0)] := by
  refine fnC_of_W (B := bodyOf Try.f44) (n := 119) Try.func44 (by kernel_rfl) (by kernel_rfl) (by kernel_rfl) (by kernel_rfl) (by kernel_rfl) ?_
  intro K
  refine W_seq (by kernel_rfl) ?_
  refine W_run 1 [] [0, 1] [1000] (fr' := [(0, aD (.slice (.pair (.slice tI) (.slice tI))) a0), (1, .one (.slc 1000))]) (L' := [(1000, .seq tI c0)]) (obs := []) (by kernel_rfl) (by kernel_rfl) (by kernel_rfl) allP0 ?_
  refine seqQ_norm ?_
  refine W_seq (by kernel_rfl) ?_
  obtain ⟨_, h1, h⟩ := bind_of h
  replace h1 := ck_some h1
  refine W_run 4 [] [0, 1] [19, 1000] (fr' := [(0, aD (.slice (.pair (.slice tI) (.slice tI))) a0), (1, .one (.slc 19))]) (L' := [(19, .seq tI ([] ++ c0)), (1000, .seq tI c0)]) (obs := [SmallLen (List.length ([] : (List Int)) + List.length c0)]) (by kernel_rfl) (by kernel_rfl) (by kernel_rfl) (allP1 h1) ?_
  refine seqQ_norm ?_
  refine W_seq (by kernel_rfl) ?_
  refine W_seq (by kernel_rfl) ?_
  refine W_run 1 [] [0, 1, 5] [19, 1000] (fr' := [(0, aD (.slice (.pair (.slice tI) (.slice tI))) a0), (1, .one (.slc 19)), (5, aB true)]) (L' := [(19, .seq tI ([] ++ c0)), (1000, .seq tI c0)]) (obs := []) (by kernel_rfl) (by kernel_rfl) (by kernel_rfl) allP0 ?_
  refine seqQ_norm ?_
  refine W_block (id := 0) (by kernel_rfl) ?_
  obtain ⟨v8179, h8180, h⟩ := bind_of h
  refine W_weaken [0, 1, 5] [19, 1000] (fr' := ((ref_choices_i2_s923 a0 c0) (true, [] ++ c0)).1) (L' := ((ref_choices_i2_s923 a0 c0) (true, [] ++ c0)).2) (by kernel_rfl) ?_
  refine W_cutK (W_loop (S := (ref_choices_i2_s923 a0 c0)) (J := (escQ (exQ .ret (ref_choices_i2_s924 c0)) (exQ (.exit 0) (ref_choices_i2_s925 a0 c0)))) (by kernel_rfl) ?_ fuel _ v8179 h8180) ?_
  · rintro x2728 s h
    refine W_seq (by kernel_rfl) ?_
    refine W_seq (by kernel_rfl) ?_
    refine W_run 1 [] [0, 1, 22] [19, 1000] (fr' := [(0, aD (.slice (.pair (.slice tI) (.slice tI))) a0), (1, .one (.slc 19)), (22, aB x2728.1)]) (L' := [(19, .seq tI x2728.2), (1000, .seq tI c0)]) (obs := []) (by kernel_rfl) (by kernel_rfl) (by kernel_rfl) allP0 ?_
    refine seqQ_norm ?_
    refine W_cond (o := .tmp 22) (b := x2728.1) (by kernel_rfl) (by kernel_rfl) (fun h5454 => ?_) (fun h5454 => ?_)
    · replace h := ofT h5454 h
      refine W_skip [0, 1] [19, 1000] (fr' := [(0, aD (.slice (.pair (.slice tI) (.slice tI))) a0), (1, .one (.slc 19))]) (L' := [(19, .seq tI x2728.2), (1000, .seq tI c0)]) (by kernel_rfl) (by kernel_rfl) ?_
      refine seqQ_norm ?_
      refine W_block (id := 1) (by kernel_rfl) ?_
      refine W_seq (by kernel_rfl) ?_
      refine W_run 1 [] [0, 1, 5] [19, 1000] (fr' := [(0, aD (.slice (.pair (.slice tI) (.slice tI))) a0), (1, .one (.slc 19)), (5, aB false)]) (L' := [(19, .seq tI x2728.2), (1000, .seq tI c0)]) (obs := []) (by kernel_rfl) (by kernel_rfl) (by kernel_rfl) allP0 ?_
      refine seqQ_norm ?_
      refine W_seq (by kernel_rfl) ?_
      refine W_run 3 [] [0, 1, 5, 23, 24, 25] [19, 1000] (fr' := [(0, aD (.slice (.pair (.slice tI) (.slice tI))) a0), (1, .one (.slc 19)), (5, aB false), (23, aD (.slice (.pair (.slice tI) (.slice tI))) a0), (24, aI (List.length a0 : Int)), (25, aI (0 : Int))]) (L' := [(19, .seq tI x2728.2), (1000, .seq tI c0)]) (obs := []) (by kernel_rfl) (by kernel_rfl) (by kernel_rfl) allP0 ?_
      refine seqQ_norm ?_
      refine W_block (id := 2) (by kernel_rfl) ?_
      obtain ⟨v8172, h8173, h⟩ := bind_of h
      refine W_len (t := 23) (u := (.pair (.slice tI) (.slice tI))) (xs := a0) (by kernel_rfl) (fun h8176 => ?_)
      obtain ⟨h8174, h8175⟩ := forL_iter h8176 h8173
      refine W_weaken [0, 1, 5, 23, 24, 25] [19, 1000] (fr' := ((ref_choices_i2_s919 a0 c0) ((0 : Int), (false, x2728.2))).1) (L' := ((ref_choices_i2_s919 a0 c0) ((0 : Int), (false, x2728.2))).2) (by kernel_rfl) ?_
      refine W_cutK (W_loop (S := (ref_choices_i2_s919 a0 c0)) (J := (escQ (exQ .ret (ref_choices_i2_s920 c0)) (exQ (.exit 2) (ref_choices_i2_s921 a0 c0)))) (by kernel_rfl) ?_ h8174 _ v8172 h8175) ?_
      · rintro ⟨i7267, x7268⟩ s h
        refine W_seq (by kernel_rfl) ?_
        refine W_run 1 [] [0, 1, 5, 23, 24, 25, 26] [19, 1000] (fr' := [(0, aD (.slice (.pair (.slice tI) (.slice tI))) a0), (1, .one (.slc 19)), (5, aB x7268.1), (23, aD (.slice (.pair (.slice tI) (.slice tI))) a0), (24, aI (List.length a0 : Int)), (25, aI i7267), (26, aB (decide (i7267 < (List.length a0 : Int))))]) (L' := [(19, .seq tI x7268.2), (1000, .seq tI c0)]) (obs := []) (by kernel_rfl) (by kernel_rfl) (by kernel_rfl) allP0 ?_
        refine seqQ_norm ?_
        refine W_seq (by kernel_rfl) ?_
        refine W_cond (o := .tmp 26) (b := decide (i7267 < (List.length a0 : Int))) (by kernel_rfl) (by kernel_rfl) (fun h7272 => ?_) (fun h7272 => ?_)
        · replace h := stepL_true h7272 h
          obtain ⟨v7270, _, h7271, h, rfl⟩ := h
          refine W_skip [0, 1, 5, 23, 24, 25] [19, 1000] (fr' := [(0, aD (.slice (.pair (.slice tI) (.slice tI))) a0), (1, .one (.slc 19)), (5, aB x7268.1), (23, aD (.slice (.pair (.slice tI) (.slice tI))) a0), (24, aI (List.length a0 : Int)), (25, aI i7267)]) (L' := [(19, .seq tI x7268.2), (1000, .seq tI c0)]) (by kernel_rfl) (by kernel_rfl) ?_
          refine seqQ_norm ?_
          refine W_seq (by kernel_rfl) ?_
          obtain ⟨v8167, h8168, h⟩ := bind_of h
          refine W_cutK (Q' := (escQ (exQ .ret (ref_choices_i2_s916 c0)) (exQ .normal (ref_choices_i2_s917 a0 c0 i7267))) v8167) ?_ ?_
          · replace h := h8168
            refine W_block (id := 3) (by kernel_rfl) ?_
            refine W_seq (by kernel_rfl) ?_
            refine W_run 4 [(1, .val (.dat (.pair (.slice tI) (.slice tI)) v7270)), (5, .typed)] [0, 1, 5, 7, 23, 24, 25] [19, 7, 1000] (fr' := [(0, aD (.slice (.pair (.slice tI) (.slice tI))) a0), (1, .one (.slc 19)), (5, aB x7268.1), (7, .one (.ptr 7 0)), (23, aD (.slice (.pair (.slice tI) (.slice tI))) a0), (24, aI (List.length a0 : Int)), (25, aI i7267)]) (L' := [(19, .seq tI x7268.2), (7, .one (.pair (.slice tI) (.slice tI)) v7270), (1000, .seq tI c0)]) (obs := [Idx a0 i7267 v7270, True]) (by kernel_rfl) (by kernel_rfl) (by kernel_rfl) (allP2 (Idx.of h7271) (allP1 trivial)) ?_
            refine seqQ_norm ?_
            refine W_seq (by kernel_rfl) ?_
            refine W_run 1 [] [0, 1, 5, 7, 8, 23, 24, 25] [19, 7, 1000] (fr' := [(0, aD (.slice (.pair (.slice tI) (.slice tI))) a0), (1, .one (.slc 19)), (5, aB x7268.1), (7, .one (.ptr 7 0)), (8, aI (-1 : Int)), (23, aD (.slice (.pair (.slice tI) (.slice tI))) a0), (24, aI (List.length a0 : Int)), (25, aI i7267)]) (L' := [(19, .seq tI x7268.2), (7, .one (.pair (.slice tI) (.slice tI)) v7270), (1000, .seq tI c0)]) (obs := []) (by kernel_rfl) (by kernel_rfl) (by kernel_rfl) allP0 ?_
            refine seqQ_norm ?_
            refine W_seq (by kernel_rfl) ?_
            refine W_run 1 [] [0, 1, 5, 7, 8, 9, 23, 24, 25] [19, 7, 1000] (fr' := [(0, aD (.slice (.pair (.slice tI) (.slice tI))) a0), (1, .one (.slc 19)), (5, aB x7268.1), (7, .one (.ptr 7 0)), (8, aI (-1 : Int)), (9, aI (0 : Int)), (23, aD (.slice (.pair (.slice tI) (.slice tI))) a0), (24, aI (List.length a0 : Int)), (25, aI i7267)]) (L' := [(19, .seq tI x7268.2), (7, .one (.pair (.slice tI) (.slice tI)) v7270), (1000, .seq tI c0)]) (obs := []) (by kernel_rfl) (by kernel_rfl) (by kernel_rfl) allP0 ?_
            refine seqQ_norm ?_
            refine W_seq (by kernel_rfl) ?_
            refine W_run 1 [] [0, 1, 5, 7, 8, 9, 10, 23, 24, 25] [19, 7, 1000] (fr' := [(0, aD (.slice (.pair (.slice tI) (.slice tI))) a0), (1, .one (.slc 19)), (5, aB x7268.1), (7, .one (.ptr 7 0)), (8, aI (-1 : Int)), (9, aI (0 : Int)), (10, aI (0 : Int)), (23, aD (.slice (.pair (.slice tI) (.slice tI))) a0), (24, aI (List.length a0 : Int)), (25, aI i7267)]) (L' := [(19, .seq tI x7268.2), (7, .one (.pair (.slice tI) (.slice tI)) v7270), (1000, .seq tI c0)]) (obs := []) (by kernel_rfl) (by kernel_rfl) (by kernel_rfl) allP0 ?_
            refine seqQ_norm ?_
            refine W_seq (by kernel_rfl) ?_
            refine W_run 1 [] [0, 1, 5, 7, 8, 9, 10, 11, 23, 24, 25] [19, 7, 1000] (fr' := [(0, aD (.slice (.pair (.slice tI) (.slice tI))) a0), (1, .one (.slc 19)), (5, aB x7268.1), (7, .one (.ptr 7 0)), (8, aI (-1 : Int)), (9, aI (0 : Int)), (10, aI (0 : Int)), (11, aB false), (23, aD (.slice (.pair (.slice tI) (.slice tI))) a0), (24, aI (List.length a0 : Int)), (25, aI i7267)]) (L' := [(19, .seq tI x7268.2), (7, .one (.pair (.slice tI) (.slice tI)) v7270), (1000, .seq tI c0)]) (obs := []) (by kernel_rfl) (by kernel_rfl) (by kernel_rfl) allP0 ?_
            refine seqQ_norm ?_
            refine W_seq (by kernel_rfl) ?_
            refine W_seq (by kernel_rfl) ?_
            refine W_run 4 [] [0, 1, 5, 7, 8, 9, 10, 11, 23, 24, 25, 30, 31, 32] [19, 7, 1000] (fr' := [(0, aD (.slice (.pair (.slice tI) (.slice tI))) a0), (1, .one (.slc 19)), (5, aB x7268.1), (7, .one (.ptr 7 0)), (8, aI (-1 : Int)), (9, aI (0 : Int)), (10, aI (0 : Int)), (11, aB false), (23, aD (.slice (.pair (.slice tI) (.slice tI))) a0), (24, aI (List.length a0 : Int)), (25, aI i7267), (30, aD (.slice tI) v7270.1), (31, aI (List.length v7270.1 : Int)), (32, aI (0 : Int))]) (L' := [(19, .seq tI x7268.2), (7, .one (.pair (.slice tI) (.slice tI)) v7270), (1000, .seq tI c0)]) (obs := []) (by kernel_rfl) (by kernel_rfl) (by kernel_rfl) allP0 ?_
            refine seqQ_norm ?_
            refine W_block (id := 4) (by kernel_rfl) ?_
            obtain ⟨v7997, h7998, h⟩ := bind_of h
            refine W_len (t := 30) (u := tI) (xs := v7270.1) (by kernel_rfl) (fun h8001 => ?_)
            obtain ⟨h7999, h8000⟩ := forL_iter h8001 h7998
            refine W_weaken [0, 1, 5, 7, 8, 9, 10, 11, 23, 24, 25, 30, 31, 32] [19, 7, 1000] (fr' := ((ref_choices_i2_s895 a0 c0 i7267 x7268 v7270) ((0 : Int), ((-1 : Int), (0 : Int), (0 : Int), false))).1) (L' := ((ref_choices_i2_s895 a0 c0 i7267 x7268 v7270) ((0 : Int), ((-1 : Int), (0 : Int), (0 : Int), false))).2) (by kernel_rfl) ?_
            refine W_cutK (W_loop (S := (ref_choices_i2_s895 a0 c0 i7267 x7268 v7270)) (J := (exQ (.exit 4) (ref_choices_i2_s896 a0 c0 i7267 x7268 v7270))) (by kernel_rfl) ?_ h7999 _ v7997 h8000) ?_
            · rintro ⟨i7946, x7947⟩ s h
              refine W_seq (by kernel_rfl) ?_
              refine W_run 1 [] [0, 1, 5, 7, 8, 9, 10, 11, 23, 24, 25, 30, 31, 32, 33] [19, 7, 1000] (fr' := [(0, aD (.slice (.pair (.slice tI) (.slice tI))) a0), (1, .one (.slc 19)), (5, aB x7268.1), (7, .one (.ptr 7 0)), (8, aI x7947.1), (9, aI x7947.2.1), (10, aI x7947.2.2.1), (11, aB x7947.2.2.2), (23, aD (.slice (.pair (.slice tI) (.slice tI))) a0), (24, aI (List.length a0 : Int)), (25, aI i7267), (30, aD (.slice tI) v7270.1), (31, aI (List.length v7270.1 : Int)), (32, aI i7946), (33, aB (decide (i7946 < (List.length v7270.1 : Int))))]) (L' := [(19, .seq tI x7268.2), (7, .one (.pair (.slice tI) (.slice tI)) v7270), (1000, .seq tI c0)]) (obs := []) (by kernel_rfl) (by kernel_rfl) (by kernel_rfl) allP0 ?_
              refine seqQ_norm ?_
              refine W_seq (by kernel_rfl) ?_
              refine W_cond (o := .tmp 33) (b := decide (i7946 < (List.length v7270.1 : Int))) (by kernel_rfl) (by kernel_rfl) (fun h7951 => ?_) (fun h7951 => ?_)
              · replace h := stepL_true h7951 h
                obtain ⟨v7949, _, h7950, h, rfl⟩ := h
                refine W_skip [0, 1, 5, 7, 8, 9, 10, 11, 23, 24, 25, 30, 31, 32] [19, 7, 1000] (fr' := [(0, aD (.slice (.pair (.slice tI) (.slice tI))) a0), (1, .one (.slc 19)), (5, aB x7268.1), (7, .one (.ptr 7 0)), (8, aI x7947.1), (9, aI x7947.2.1), (10, aI x7947.2.2.1), (11, aB x7947.2.2.2), (23, aD (.slice (.pair (.slice tI) (.slice tI))) a0), (24, aI (List.length a0 : Int)), (25, aI i7267), (30, aD (.slice tI) v7270.1), (31, aI (List.length v7270.1 : Int)), (32, aI i7946)]) (L' := [(19, .seq tI x7268.2), (7, .one (.pair (.slice tI) (.slice tI)) v7270), (1000, .seq tI c0)]) (by kernel_rfl) (by kernel_rfl) ?_
                refine seqQ_norm ?_
                refine W_seq (by kernel_rfl) ?_
                obtain ⟨v7994, h7995, h⟩ := bind_of h
                refine W_cutK (Q' := (exQ .normal (ref_choices_i2_s893 a0 c0 i7267 x7268 v7270 i7946)) v7994) ?_ ?_
                · replace h := h7995
                  refine W_block (id := 5) (by kernel_rfl) ?_
                  refine W_seq (by kernel_rfl) ?_
                  refine W_run 3 [(1, .val (.dat tI v7949))] [0, 1, 5, 7, 8, 9, 10, 11, 13, 23, 24, 25, 30, 31, 32] [19, 7, 1000] (fr' := [(0, aD (.slice (.pair (.slice tI) (.slice tI))) a0), (1, .one (.slc 19)), (5, aB x7268.1), (7, .one (.ptr 7 0)), (8, aI x7947.1), (9, aI x7947.2.1), (10, aI x7947.2.2.1), (11, aB x7947.2.2.2), (13, aI v7949), (23, aD (.slice (.pair (.slice tI) (.slice tI))) a0), (24, aI (List.length a0 : Int)), (25, aI i7267), (30, aD (.slice tI) v7270.1), (31, aI (List.length v7270.1 : Int)), (32, aI i7946)]) (L' := [(19, .seq tI x7268.2), (7, .one (.pair (.slice tI) (.slice tI)) v7270), (1000, .seq tI c0)]) (obs := [Idx v7270.1 i7946 v7949]) (by kernel_rfl) (by kernel_rfl) (by kernel_rfl) (allP1 (Idx.of h7950)) ?_
                  refine seqQ_norm ?_
                  refine W_seq (by kernel_rfl) ?_
                  obtain ⟨v7989, h7990, h⟩ := bind_of h
                  refine W_cutK (Q' := (exQ .normal (ref_choices_i2_s891 a0 c0 i7267 x7268 v7270 i7946 x7947 v7949)) v7989) ?_ ?_
                  · replace h := h7990
                    refine W_region (by kernel_rfl) ?_
                    refine WO_run (j := 2) (k := 2) (orcs := []) (kF := [0, 1, 5, 7, 8, 9, 10, 11, 13, 23, 24, 25, 30, 31, 32, 37]) (kL := [7, 19, 1000]) (fr' := [(0, aD (.slice (.pair (.slice tI) (.slice tI))) a0), (1, .one (.slc 19)), (5, aB x7268.1), (7, .one (.ptr 7 0)), (8, aI x7947.1), (9, aI x7947.2.1), (10, aI x7947.2.2.1), (11, aB x7947.2.2.2), (13, aI v7949), (23, aD (.slice (.pair (.slice tI) (.slice tI))) a0), (24, aI (List.length a0 : Int)), (25, aI i7267), (30, aD (.slice tI) v7270.1), (31, aI (List.length v7270.1 : Int)), (32, aI i7946), (37, aB x7947.2.2.2)]) (L' := [(7, .one (.pair (.slice tI) (.slice tI)) v7270), (19, .seq tI x7268.2), (1000, .seq tI c0)]) (obs := []) rfl (by kernel_rfl) allP0 ?_
                    rcases Bool.eq_false_or_eq_true (x7947.2.2.2) with h7986 | h7986
                    · replace h := ofT h7986 h
                      refine WO_run (j := 9) (k := 7) (orcs := [(4, .known true), (6, .known true), (8, .known true), (10, .known true), (12, .known true), (15, .val (.dat .bool true))]) (kF := [0, 1, 5, 7, 8, 9, 10, 11, 13, 23, 24, 25, 30, 31, 32]) (kL := [7, 19, 1000]) (fr' := [(0, aD (.slice (.pair (.slice tI) (.slice tI))) a0), (1, .one (.slc 19)), (5, aB x7268.1), (7, .one (.ptr 7 0)), (8, aI x7947.1), (9, aI x7947.2.1), (10, aI x7947.2.2.1), (11, aB true), (13, aI v7949), (23, aD (.slice (.pair (.slice tI) (.slice tI))) a0), (24, aI (List.length a0 : Int)), (25, aI i7267), (30, aD (.slice tI) v7270.1), (31, aI (List.length v7270.1 : Int)), (32, aI i7946)]) (L' := [(7, .one (.pair (.slice tI) (.slice tI)) v7270), (19, .seq tI x7268.2), (1000, .seq tI c0)]) (obs := [(x7947.2.2.2 = true), (x7947.2.2.2 = true), (x7947.2.2.2 = true), (x7947.2.2.2 = true), (x7947.2.2.2 = true), (x7947.2.2.2 = true)]) rfl (by kernel_rfl) (allP2 h7986 (allP2 h7986 (allP2 h7986 (allP2 h7986 (allP2 h7986 (allP1 h7986)))))) ?_
                      obtain rfl := Option.some.inj h
                      refine WO_fin [0, 1, 5, 7, 8, 9, 10, 11, 13, 23, 24, 25, 30, 31, 32] [19, 7, 1000] (fr' := [(0, aD (.slice (.pair (.slice tI) (.slice tI))) a0), (1, .one (.slc 19)), (5, aB x7268.1), (7, .one (.ptr 7 0)), (8, aI x7947.1), (9, aI x7947.2.1), (10, aI x7947.2.2.1), (11, aB true), (13, aI v7949), (23, aD (.slice (.pair (.slice tI) (.slice tI))) a0), (24, aI (List.length a0 : Int)), (25, aI i7267), (30, aD (.slice tI) v7270.1), (31, aI (List.length v7270.1 : Int)), (32, aI i7946)]) (L' := [(19, .seq tI x7268.2), (7, .one (.pair (.slice tI) (.slice tI)) v7270), (1000, .seq tI c0)]) (by kernel_rfl) (by kernel_rfl) ?_
                      exact exQ_mk (by kernel_rfl) (by kernel_rfl)
                    · replace h := ofF h7986 h
                      obtain ⟨v7987, h7988, h⟩ := bind_of h
                      refine WO_run (j := 9) (k := 7) (orcs := [(4, .known false), (6, .known false), (8, .known false), (10, .known false), (11, .val (.dat tI v7987)), (12, .known false), (15, .val (.dat .bool false))]) (kF := [0, 1, 5, 7, 8, 9, 10, 11, 13, 23, 24, 25, 30, 31, 32]) (kL := [7, 19, 1000]) (fr' := [(0, aD (.slice (.pair (.slice tI) (.slice tI))) a0), (1, .one (.slc 19)), (5, aB x7268.1), (7, .one (.ptr 7 0)), (8, aI x7947.1), (9, aI x7947.2.1), (10, aI x7947.2.2.1), (11, aB (v7987 == (1 : Int))), (13, aI v7949), (23, aD (.slice (.pair (.slice tI) (.slice tI))) a0), (24, aI (List.length a0 : Int)), (25, aI i7267), (30, aD (.slice tI) v7270.1), (31, aI (List.length v7270.1 : Int)), (32, aI i7946)]) (L' := [(7, .one (.pair (.slice tI) (.slice tI)) v7270), (19, .seq tI x7268.2), (1000, .seq tI c0)]) (obs := [(x7947.2.2.2 = false), (x7947.2.2.2 = false), (x7947.2.2.2 = false), InR v7949 (List.length x7268.2), (x7947.2.2.2 = false), Idx x7268.2 v7949 v7987, (x7947.2.2.2 = false), (x7947.2.2.2 = false)]) rfl (by kernel_rfl) (allP2 h7986 (allP2 h7986 (allP2 h7986 (allP2 (InR.of h7988) (allP2 h7986 (allP2 (Idx.of h7988) (allP2 h7986 (allP1 h7986)))))))) ?_
                      obtain rfl := Option.some.inj h
                      refine WO_fin [0, 1, 5, 7, 8, 9, 10, 11, 13, 23, 24, 25, 30, 31, 32] [19, 7, 1000] (fr' := [(0, aD (.slice (.pair (.slice tI) (.slice tI))) a0), (1, .one (.slc 19)), (5, aB x7268.1), (7, .one (.ptr 7 0)), (8, aI x7947.1), (9, aI x7947.2.1), (10, aI x7947.2.2.1), (11, aB (v7987 == (1 : Int))), (13, aI v7949), (23, aD (.slice (.pair (.slice tI) (.slice tI))) a0), (24, aI (List.length a0 : Int)), (25, aI i7267), (30, aD (.slice tI) v7270.1), (31, aI (List.length v7270.1 : Int)), (32, aI i7946)]) (L' := [(19, .seq tI x7268.2), (7, .one (.pair (.slice tI) (.slice tI)) v7270), (1000, .seq tI c0)]) (by kernel_rfl) (by kernel_rfl) ?_
                      exact exQ_mk (by kernel_rfl) (by kernel_rfl)
                  · intro e fr L hJ
                    obtain ⟨rfl, rfl, rfl⟩ := hJ
                    refine LT_keep [0, 1, 5, 7, 8, 9, 10, 11, 13, 23, 24, 25, 30, 31, 32] [19, 7, 1000] (fr' := [(0, aD (.slice (.pair (.slice tI) (.slice tI))) a0), (1, .one (.slc 19)), (5, aB x7268.1), (7, .one (.ptr 7 0)), (8, aI x7947.1), (9, aI x7947.2.1), (10, aI x7947.2.2.1), (11, aB v7989), (13, aI v7949), (23, aD (.slice (.pair (.slice tI) (.slice tI))) a0), (24, aI (List.length a0 : Int)), (25, aI i7267), (30, aD (.slice tI) v7270.1), (31, aI (List.length v7270.1 : Int)), (32, aI i7946)]) (L' := [(19, .seq tI x7268.2), (7, .one (.pair (.slice tI) (.slice tI)) v7270), (1000, .seq tI c0)]) (by kernel_rfl) ?_
                    refine seqQ_norm ?_
                    refine W_seq (by kernel_rfl) ?_
                    obtain ⟨v7991, h7992, h⟩ := bind_of h
                    refine W_run 5 [(7, .val (.dat tI v7991))] [0, 1, 5, 7, 8, 9, 10, 11, 13, 23, 24, 25, 30, 31, 32, 48] [19, 7, 1000] (fr' := [(0, aD (.slice (.pair (.slice tI) (.slice tI))) a0), (1, .one (.slc 19)), (5, aB x7268.1), (7, .one (.ptr 7 0)), (8, aI x7947.1), (9, aI x7947.2.1), (10, aI x7947.2.2.1), (11, aB v7989), (13, aI v7949), (23, aD (.slice (.pair (.slice tI) (.slice tI))) a0), (24, aI (List.length a0 : Int)), (25, aI i7267), (30, aD (.slice tI) v7270.1), (31, aI (List.length v7270.1 : Int)), (32, aI i7946), (48, aB (decide (v7991 < (0 : Int))))]) (L' := [(19, .seq tI x7268.2), (7, .one (.pair (.slice tI) (.slice tI)) v7270), (1000, .seq tI c0)]) (obs := [InR v7949 (List.length x7268.2), Idx x7268.2 v7949 v7991]) (by kernel_rfl) (by kernel_rfl) (by kernel_rfl) (allP2 (InR.of h7992) (allP1 (Idx.of h7992))) ?_
                    refine seqQ_norm ?_
                    refine W_cond (o := .tmp 48) (b := decide (v7991 < (0 : Int))) (by kernel_rfl) (by kernel_rfl) (fun h7993 => ?_) (fun h7993 => ?_)
                    · replace h := ofT h7993 h
                      refine W_seq (by kernel_rfl) ?_
                      refine W_run 2 [] [0, 1, 5, 7, 8, 10, 11, 23, 24, 25, 30, 31, 32] [19, 7, 1000] (fr' := [(0, aD (.slice (.pair (.slice tI) (.slice tI))) a0), (1, .one (.slc 19)), (5, aB x7268.1), (7, .one (.ptr 7 0)), (8, aI v7949), (10, aI x7947.2.2.1), (11, aB v7989), (23, aD (.slice (.pair (.slice tI) (.slice tI))) a0), (24, aI (List.length a0 : Int)), (25, aI i7267), (30, aD (.slice tI) v7270.1), (31, aI (List.length v7270.1 : Int)), (32, aI i7946)]) (L' := [(19, .seq tI x7268.2), (7, .one (.pair (.slice tI) (.slice tI)) v7270), (1000, .seq tI c0)]) (obs := []) (by kernel_rfl) (by kernel_rfl) (by kernel_rfl) allP0 ?_
                      refine seqQ_norm ?_
                      refine W_seq (by kernel_rfl) ?_
                      refine W_run 1 [] [0, 1, 5, 7, 8, 9, 10, 11, 23, 24, 25, 30, 31, 32] [19, 7, 1000] (fr' := [(0, aD (.slice (.pair (.slice tI) (.slice tI))) a0), (1, .one (.slc 19)), (5, aB x7268.1), (7, .one (.ptr 7 0)), (8, aI v7949), (9, aI (1 : Int)), (10, aI x7947.2.2.1), (11, aB v7989), (23, aD (.slice (.pair (.slice tI) (.slice tI))) a0), (24, aI (List.length a0 : Int)), (25, aI i7267), (30, aD (.slice tI) v7270.1), (31, aI (List.length v7270.1 : Int)), (32, aI i7946)]) (L' := [(19, .seq tI x7268.2), (7, .one (.pair (.slice tI) (.slice tI)) v7270), (1000, .seq tI c0)]) (obs := []) (by kernel_rfl) (by kernel_rfl) (by kernel_rfl) allP0 ?_
                      refine seqQ_norm ?_
                      obtain rfl := Option.some.inj h
                      refine W_run 3 [] [0, 1, 5, 7, 8, 9, 10, 11, 23, 24, 25, 30, 31, 32] [19, 7, 1000] (fr' := [(0, aD (.slice (.pair (.slice tI) (.slice tI))) a0), (1, .one (.slc 19)), (5, aB x7268.1), (7, .one (.ptr 7 0)), (8, aI v7949), (9, aI (1 : Int)), (10, aI (w64 (x7947.2.2.1 + (1 : Int)))), (11, aB v7989), (23, aD (.slice (.pair (.slice tI) (.slice tI))) a0), (24, aI (List.length a0 : Int)), (25, aI i7267), (30, aD (.slice tI) v7270.1), (31, aI (List.length v7270.1 : Int)), (32, aI i7946)]) (L' := [(19, .seq tI x7268.2), (7, .one (.pair (.slice tI) (.slice tI)) v7270), (1000, .seq tI c0)]) (obs := []) (by kernel_rfl) (by kernel_rfl) (by kernel_rfl) allP0 ?_
                      refine blockQ_norm ?_
                      exact exQ_mk (by kernel_rfl) (by kernel_rfl)
                    · replace h := ofF h7993 h
                      obtain rfl := Option.some.inj h
                      refine W_skip [0, 1, 5, 7, 8, 9, 10, 11, 23, 24, 25, 30, 31, 32] [19, 7, 1000] (fr' := [(0, aD (.slice (.pair (.slice tI) (.slice tI))) a0), (1, .one (.slc 19)), (5, aB x7268.1), (7, .one (.ptr 7 0)), (8, aI x7947.1), (9, aI x7947.2.1), (10, aI x7947.2.2.1), (11, aB v7989), (23, aD (.slice (.pair (.slice tI) (.slice tI))) a0), (24, aI (List.length a0 : Int)), (25, aI i7267), (30, aD (.slice tI) v7270.1), (31, aI (List.length v7270.1 : Int)), (32, aI i7946)]) (L' := [(19, .seq tI x7268.2), (7, .one (.pair (.slice tI) (.slice tI)) v7270), (1000, .seq tI c0)]) (by kernel_rfl) (by kernel_rfl) ?_
                      refine blockQ_norm ?_
                      exact exQ_mk (by kernel_rfl) (by kernel_rfl)
                · intro e fr L hJ
                  obtain ⟨rfl, rfl, rfl⟩ := hJ
                  refine LT_keep [0, 1, 5, 7, 8, 9, 10, 11, 23, 24, 25, 30, 31, 32] [19, 7, 1000] (fr' := [(0, aD (.slice (.pair (.slice tI) (.slice tI))) a0), (1, .one (.slc 19)), (5, aB x7268.1), (7, .one (.ptr 7 0)), (8, aI v7994.1), (9, aI v7994.2.1), (10, aI v7994.2.2.1), (11, aB v7994.2.2.2), (23, aD (.slice (.pair (.slice tI) (.slice tI))) a0), (24, aI (List.length a0 : Int)), (25, aI i7267), (30, aD (.slice tI) v7270.1), (31, aI (List.length v7270.1 : Int)), (32, aI i7946)]) (L' := [(19, .seq tI x7268.2), (7, .one (.pair (.slice tI) (.slice tI)) v7270), (1000, .seq tI c0)]) (by kernel_rfl) ?_
                  refine seqQ_norm ?_
                  obtain rfl := Option.some.inj h
                  refine W_run 2 [] [0, 1, 5, 7, 8, 9, 10, 11, 23, 24, 25, 30, 31, 32] [19, 7, 1000] (fr' := [(0, aD (.slice (.pair (.slice tI) (.slice tI))) a0), (1, .one (.slc 19)), (5, aB x7268.1), (7, .one (.ptr 7 0)), (8, aI v7994.1), (9, aI v7994.2.1), (10, aI v7994.2.2.1), (11, aB v7994.2.2.2), (23, aD (.slice (.pair (.slice tI) (.slice tI))) a0), (24, aI (List.length a0 : Int)), (25, aI i7267), (30, aD (.slice tI) v7270.1), (31, aI (List.length v7270.1 : Int)), (32, aI (w64 (i7946 + (1 : Int))))]) (L' := [(19, .seq tI x7268.2), (7, .one (.pair (.slice tI) (.slice tI)) v7270), (1000, .seq tI c0)]) (obs := []) (by kernel_rfl) (by kernel_rfl) (by kernel_rfl) allP0 ?_
                  exact round_next' (by kernel_rfl) (by kernel_rfl)
              · obtain rfl := stepL_false h7951 h
                refine W_exit (id := 4) [0, 1, 5, 7, 8, 9, 10, 11, 23, 24, 25] [19, 7, 1000] (fr' := [(0, aD (.slice (.pair (.slice tI) (.slice tI))) a0), (1, .one (.slc 19)), (5, aB x7268.1), (7, .one (.ptr 7 0)), (8, aI x7947.1), (9, aI x7947.2.1), (10, aI x7947.2.2.1), (11, aB x7947.2.2.2), (23, aD (.slice (.pair (.slice tI) (.slice tI))) a0), (24, aI (List.length a0 : Int)), (25, aI i7267)]) (L' := [(19, .seq tI x7268.2), (7, .one (.pair (.slice tI) (.slice tI)) v7270), (1000, .seq tI c0)]) (by kernel_rfl) (by kernel_rfl) ?_
                refine seqQ_exit ?_
                refine round_exit ?_
                exact exQ_mk (by kernel_rfl) (by kernel_rfl)
            · intro e fr L hJ
              obtain ⟨rfl, rfl, rfl⟩ := hJ
              refine LT_keep [0, 1, 5, 7, 8, 9, 10, 11, 23, 24, 25] [19, 7, 1000] (fr' := [(0, aD (.slice (.pair (.slice tI) (.slice tI))) a0), (1, .one (.slc 19)), (5, aB x7268.1), (7, .one (.ptr 7 0)), (8, aI v7997.1), (9, aI v7997.2.1), (10, aI v7997.2.2.1), (11, aB v7997.2.2.2), (23, aD (.slice (.pair (.slice tI) (.slice tI))) a0), (24, aI (List.length a0 : Int)), (25, aI i7267)]) (L' := [(19, .seq tI x7268.2), (7, .one (.pair (.slice tI) (.slice tI)) v7270), (1000, .seq tI c0)]) (by kernel_rfl) ?_
              refine blockQ_hit ?_
              refine seqQ_norm ?_
              refine W_seq (by kernel_rfl) ?_
              refine W_seq (by kernel_rfl) ?_
              refine W_run 4 [] [0, 1, 5, 8, 9, 10, 11, 23, 24, 25, 54, 55, 56] [19, 1000] (fr' := [(0, aD (.slice (.pair (.slice tI) (.slice tI))) a0), (1, .one (.slc 19)), (5, aB x7268.1), (8, aI v7997.1), (9, aI v7997.2.1), (10, aI v7997.2.2.1), (11, aB v7997.2.2.2), (23, aD (.slice (.pair (.slice tI) (.slice tI))) a0), (24, aI (List.length a0 : Int)), (25, aI i7267), (54, aD (.slice tI) v7270.2), (55, aI (List.length v7270.2 : Int)), (56, aI (0 : Int))]) (L' := [(19, .seq tI x7268.2), (1000, .seq tI c0)]) (obs := []) (by kernel_rfl) (by kernel_rfl) (by kernel_rfl) allP0 ?_
              refine seqQ_norm ?_
              refine W_block (id := 6) (by kernel_rfl) ?_
              obtain ⟨v8157, h8158, h⟩ := bind_of h
              refine W_len (t := 54) (u := tI) (xs := v7270.2) (by kernel_rfl) (fun h8161 => ?_)
              obtain ⟨h8159, h8160⟩ := forL_iter h8161 h8158
              refine W_weaken [0, 1, 5, 8, 9, 10, 11, 23, 24, 25, 54, 55, 56] [19, 1000] (fr' := ((ref_choices_i2_s913 a0 c0 i7267 x7268 v7270) ((0 : Int), (v7997.1, v7997.2.1, v7997.2.2.1, v7997.2.2.2))).1) (L' := ((ref_choices_i2_s913 a0 c0 i7267 x7268 v7270) ((0 : Int), (v7997.1, v7997.2.1, v7997.2.2.1, v7997.2.2.2))).2) (by kernel_rfl) ?_
              refine W_cutK (W_loop (S := (ref_choices_i2_s913 a0 c0 i7267 x7268 v7270)) (J := (exQ (.exit 6) (ref_choices_i2_s914 a0 c0 i7267 x7268))) (by kernel_rfl) ?_ h8159 _ v8157 h8160) ?_
              · rintro ⟨i8106, x8107⟩ s h
                refine W_seq (by kernel_rfl) ?_
                refine W_run 1 [] [0, 1, 5, 8, 9, 10, 11, 23, 24, 25, 54, 55, 56, 57] [19, 1000] (fr' := [(0, aD (.slice (.pair (.slice tI) (.slice tI))) a0), (1, .one (.slc 19)), (5, aB x7268.1), (8, aI x8107.1), (9, aI x8107.2.1), (10, aI x8107.2.2.1), (11, aB x8107.2.2.2), (23, aD (.slice (.pair (.slice tI) (.slice tI))) a0), (24, aI (List.length a0 : Int)), (25, aI i7267), (54, aD (.slice tI) v7270.2), (55, aI (List.length v7270.2 : Int)), (56, aI i8106), (57, aB (decide (i8106 < (List.length v7270.2 : Int))))]) (L' := [(19, .seq tI x7268.2), (1000, .seq tI c0)]) (obs := []) (by kernel_rfl) (by kernel_rfl) (by kernel_rfl) allP0 ?_
                refine seqQ_norm ?_
                refine W_seq (by kernel_rfl) ?_
                refine W_cond (o := .tmp 57) (b := decide (i8106 < (List.length v7270.2 : Int))) (by kernel_rfl) (by kernel_rfl) (fun h8111 => ?_) (fun h8111 => ?_)
                · replace h := stepL_true h8111 h
                  obtain ⟨v8109, _, h8110, h, rfl⟩ := h
                  refine W_skip [0, 1, 5, 8, 9, 10, 11, 23, 24, 25, 54, 55, 56] [19, 1000] (fr' := [(0, aD (.slice (.pair (.slice tI) (.slice tI))) a0), (1, .one (.slc 19)), (5, aB x7268.1), (8, aI x8107.1), (9, aI x8107.2.1), (10, aI x8107.2.2.1), (11, aB x8107.2.2.2), (23, aD (.slice (.pair (.slice tI) (.slice tI))) a0), (24, aI (List.length a0 : Int)), (25, aI i7267), (54, aD (.slice tI) v7270.2), (55, aI (List.length v7270.2 : Int)), (56, aI i8106)]) (L' := [(19, .seq tI x7268.2), (1000, .seq tI c0)]) (by kernel_rfl) (by kernel_rfl) ?_
                  refine seqQ_norm ?_
                  refine W_seq (by kernel_rfl) ?_
                  obtain ⟨v8154, h8155, h⟩ := bind_of h
                  refine W_cutK (Q' := (exQ .normal (ref_choices_i2_s911 a0 c0 i7267 x7268 v7270 i8106)) v8154) ?_ ?_
                  · replace h := h8155
                    refine W_block (id := 7) (by kernel_rfl) ?_
                    refine W_seq (by kernel_rfl) ?_
                    refine W_run 3 [(1, .val (.dat tI v8109))] [0, 1, 5, 8, 9, 10, 11, 15, 23, 24, 25, 54, 55, 56] [19, 1000] (fr' := [(0, aD (.slice (.pair (.slice tI) (.slice tI))) a0), (1, .one (.slc 19)), (5, aB x7268.1), (8, aI x8107.1), (9, aI x8107.2.1), (10, aI x8107.2.2.1), (11, aB x8107.2.2.2), (15, aI v8109), (23, aD (.slice (.pair (.slice tI) (.slice tI))) a0), (24, aI (List.length a0 : Int)), (25, aI i7267), (54, aD (.slice tI) v7270.2), (55, aI (List.length v7270.2 : Int)), (56, aI i8106)]) (L' := [(19, .seq tI x7268.2), (1000, .seq tI c0)]) (obs := [Idx v7270.2 i8106 v8109]) (by kernel_rfl) (by kernel_rfl) (by kernel_rfl) (allP1 (Idx.of h8110)) ?_
                    refine seqQ_norm ?_
                    refine W_seq (by kernel_rfl) ?_
                    obtain ⟨v8149, h8150, h⟩ := bind_of h
                    refine W_cutK (Q' := (exQ .normal (ref_choices_i2_s909 a0 c0 i7267 x7268 v7270 i8106 x8107 v8109)) v8149) ?_ ?_
                    · replace h := h8150
                      refine W_region (by kernel_rfl) ?_
                      refine WO_run (j := 2) (k := 2) (orcs := []) (kF := [0, 1, 5, 8, 9, 10, 11, 15, 23, 24, 25, 54, 55, 56, 61]) (kL := [19, 1000]) (fr' := [(0, aD (.slice (.pair (.slice tI) (.slice tI))) a0), (1, .one (.slc 19)), (5, aB x7268.1), (8, aI x8107.1), (9, aI x8107.2.1), (10, aI x8107.2.2.1), (11, aB x8107.2.2.2), (15, aI v8109), (23, aD (.slice (.pair (.slice tI) (.slice tI))) a0), (24, aI (List.length a0 : Int)), (25, aI i7267), (54, aD (.slice tI) v7270.2), (55, aI (List.length v7270.2 : Int)), (56, aI i8106), (61, aB x8107.2.2.2)]) (L' := [(19, .seq tI x7268.2), (1000, .seq tI c0)]) (obs := []) rfl (by kernel_rfl) allP0 ?_
                      rcases Bool.eq_false_or_eq_true (x8107.2.2.2) with h8146 | h8146
                      · replace h := ofT h8146 h
                        refine WO_run (j := 9) (k := 7) (orcs := [(4, .known true), (6, .known true), (8, .known true), (10, .known true), (12, .known true), (15, .val (.dat .bool true))]) (kF := [0, 1, 5, 8, 9, 10, 11, 15, 23, 24, 25, 54, 55, 56]) (kL := [19, 1000]) (fr' := [(0, aD (.slice (.pair (.slice tI) (.slice tI))) a0), (1, .one (.slc 19)), (5, aB x7268.1), (8, aI x8107.1), (9, aI x8107.2.1), (10, aI x8107.2.2.1), (11, aB true), (15, aI v8109), (23, aD (.slice (.pair (.slice tI) (.slice tI))) a0), (24, aI (List.length a0 : Int)), (25, aI i7267), (54, aD (.slice tI) v7270.2), (55, aI (List.length v7270.2 : Int)), (56, aI i8106)]) (L' := [(19, .seq tI x7268.2), (1000, .seq tI c0)]) (obs := [(x8107.2.2.2 = true), (x8107.2.2.2 = true), (x8107.2.2.2 = true), (x8107.2.2.2 = true), (x8107.2.2.2 = true), (x8107.2.2.2 = true)]) rfl (by kernel_rfl) (allP2 h8146 (allP2 h8146 (allP2 h8146 (allP2 h8146 (allP2 h8146 (allP1 h8146)))))) ?_
                        obtain rfl := Option.some.inj h
                        refine WO_fin [0, 1, 5, 8, 9, 10, 11, 15, 23, 24, 25, 54, 55, 56] [19, 1000] (fr' := [(0, aD (.slice (.pair (.slice tI) (.slice tI))) a0), (1, .one (.slc 19)), (5, aB x7268.1), (8, aI x8107.1), (9, aI x8107.2.1), (10, aI x8107.2.2.1), (11, aB true), (15, aI v8109), (23, aD (.slice (.pair (.slice tI) (.slice tI))) a0), (24, aI (List.length a0 : Int)), (25, aI i7267), (54, aD (.slice tI) v7270.2), (55, aI (List.length v7270.2 : Int)), (56, aI i8106)]) (L' := [(19, .seq tI x7268.2), (1000, .seq tI c0)]) (by kernel_rfl) (by kernel_rfl) ?_
                        exact exQ_mk (by kernel_rfl) (by kernel_rfl)
                      · replace h := ofF h8146 h
                        obtain ⟨v8147, h8148, h⟩ := bind_of h
                        refine WO_run (j := 9) (k := 7) (orcs := [(4, .known false), (6, .known false), (8, .known false), (10, .known false), (11, .val (.dat tI v8147)), (12, .known false), (15, .val (.dat .bool false))]) (kF := [0, 1, 5, 8, 9, 10, 11, 15, 23, 24, 25, 54, 55, 56]) (kL := [19, 1000]) (fr' := [(0, aD (.slice (.pair (.slice tI) (.slice tI))) a0), (1, .one (.slc 19)), (5, aB x7268.1), (8, aI x8107.1), (9, aI x8107.2.1), (10, aI x8107.2.2.1), (11, aB (v8147 == (0 : Int))), (15, aI v8109), (23, aD (.slice (.pair (.slice tI) (.slice tI))) a0), (24, aI (List.length a0 : Int)), (25, aI i7267), (54, aD (.slice tI) v7270.2), (55, aI (List.length v7270.2 : Int)), (56, aI i8106)]) (L' := [(19, .seq tI x7268.2), (1000, .seq tI c0)]) (obs := [(x8107.2.2.2 = false), (x8107.2.2.2 = false), (x8107.2.2.2 = false), InR v8109 (List.length x7268.2), (x8107.2.2.2 = false), Idx x7268.2 v8109 v8147, (x8107.2.2.2 = false), (x8107.2.2.2 = false)]) rfl (by kernel_rfl) (allP2 h8146 (allP2 h8146 (allP2 h8146 (allP2 (InR.of h8148) (allP2 h8146 (allP2 (Idx.of h8148) (allP2 h8146 (allP1 h8146)))))))) ?_
                        obtain rfl := Option.some.inj h
                        refine WO_fin [0, 1, 5, 8, 9, 10, 11, 15, 23, 24, 25, 54, 55, 56] [19, 1000] (fr' := [(0, aD (.slice (.pair (.slice tI) (.slice tI))) a0), (1, .one (.slc 19)), (5, aB x7268.1), (8, aI x8107.1), (9, aI x8107.2.1), (10, aI x8107.2.2.1), (11, aB (v8147 == (0 : Int))), (15, aI v8109), (23, aD (.slice (.pair (.slice tI) (.slice tI))) a0), (24, aI (List.length a0 : Int)), (25, aI i7267), (54, aD (.slice tI) v7270.2), (55, aI (List.length v7270.2 : Int)), (56, aI i8106)]) (L' := [(19, .seq tI x7268.2), (1000, .seq tI c0)]) (by kernel_rfl) (by kernel_rfl) ?_
                        exact exQ_mk (by kernel_rfl) (by kernel_rfl)
                    · intro e fr L hJ
                      obtain ⟨rfl, rfl, rfl⟩ := hJ
                      refine LT_keep [0, 1, 5, 8, 9, 10, 11, 15, 23, 24, 25, 54, 55, 56] [19, 1000] (fr' := [(0, aD (.slice (.pair (.slice tI) (.slice tI))) a0), (1, .one (.slc 19)), (5, aB x7268.1), (8, aI x8107.1), (9, aI x8107.2.1), (10, aI x8107.2.2.1), (11, aB v8149), (15, aI v8109), (23, aD (.slice (.pair (.slice tI) (.slice tI))) a0), (24, aI (List.length a0 : Int)), (25, aI i7267), (54, aD (.slice tI) v7270.2), (55, aI (List.length v7270.2 : Int)), (56, aI i8106)]) (L' := [(19, .seq tI x7268.2), (1000, .seq tI c0)]) (by kernel_rfl) ?_
                      refine seqQ_norm ?_
                      refine W_seq (by kernel_rfl) ?_
                      obtain ⟨v8151, h8152, h⟩ := bind_of h
                      refine W_run 5 [(7, .val (.dat tI v8151))] [0, 1, 5, 8, 9, 10, 11, 15, 23, 24, 25, 54, 55, 56, 72] [19, 1000] (fr' := [(0, aD (.slice (.pair (.slice tI) (.slice tI))) a0), (1, .one (.slc 19)), (5, aB x7268.1), (8, aI x8107.1), (9, aI x8107.2.1), (10, aI x8107.2.2.1), (11, aB v8149), (15, aI v8109), (23, aD (.slice (.pair (.slice tI) (.slice tI))) a0), (24, aI (List.length a0 : Int)), (25, aI i7267), (54, aD (.slice tI) v7270.2), (55, aI (List.length v7270.2 : Int)), (56, aI i8106), (72, aB (decide (v8151 < (0 : Int))))]) (L' := [(19, .seq tI x7268.2), (1000, .seq tI c0)]) (obs := [InR v8109 (List.length x7268.2), Idx x7268.2 v8109 v8151]) (by kernel_rfl) (by kernel_rfl) (by kernel_rfl) (allP2 (InR.of h8152) (allP1 (Idx.of h8152))) ?_
                      refine seqQ_norm ?_
                      refine W_cond (o := .tmp 72) (b := decide (v8151 < (0 : Int))) (by kernel_rfl) (by kernel_rfl) (fun h8153 => ?_) (fun h8153 => ?_)
                      · replace h := ofT h8153 h
                        refine W_seq (by kernel_rfl) ?_
                        refine W_run 2 [] [0, 1, 5, 8, 10, 11, 23, 24, 25, 54, 55, 56] [19, 1000] (fr' := [(0, aD (.slice (.pair (.slice tI) (.slice tI))) a0), (1, .one (.slc 19)), (5, aB x7268.1), (8, aI v8109), (10, aI x8107.2.2.1), (11, aB v8149), (23, aD (.slice (.pair (.slice tI) (.slice tI))) a0), (24, aI (List.length a0 : Int)), (25, aI i7267), (54, aD (.slice tI) v7270.2), (55, aI (List.length v7270.2 : Int)), (56, aI i8106)]) (L' := [(19, .seq tI x7268.2), (1000, .seq tI c0)]) (obs := []) (by kernel_rfl) (by kernel_rfl) (by kernel_rfl) allP0 ?_
                        refine seqQ_norm ?_
                        refine W_seq (by kernel_rfl) ?_
                        refine W_run 1 [] [0, 1, 5, 8, 9, 10, 11, 23, 24, 25, 54, 55, 56] [19, 1000] (fr' := [(0, aD (.slice (.pair (.slice tI) (.slice tI))) a0), (1, .one (.slc 19)), (5, aB x7268.1), (8, aI v8109), (9, aI (0 : Int)), (10, aI x8107.2.2.1), (11, aB v8149), (23, aD (.slice (.pair (.slice tI) (.slice tI))) a0), (24, aI (List.length a0 : Int)), (25, aI i7267), (54, aD (.slice tI) v7270.2), (55, aI (List.length v7270.2 : Int)), (56, aI i8106)]) (L' := [(19, .seq tI x7268.2), (1000, .seq tI c0)]) (obs := []) (by kernel_rfl) (by kernel_rfl) (by kernel_rfl) allP0 ?_
                        refine seqQ_norm ?_
                        obtain rfl := Option.some.inj h
                        refine W_run 3 [] [0, 1, 5, 8, 9, 10, 11, 23, 24, 25, 54, 55, 56] [19, 1000] (fr' := [(0, aD (.slice (.pair (.slice tI) (.slice tI))) a0), (1, .one (.slc 19)), (5, aB x7268.1), (8, aI v8109), (9, aI (0 : Int)), (10, aI (w64 (x8107.2.2.1 + (1 : Int)))), (11, aB v8149), (23, aD (.slice (.pair (.slice tI) (.slice tI))) a0), (24, aI (List.length a0 : Int)), (25, aI i7267), (54, aD (.slice tI) v7270.2), (55, aI (List.length v7270.2 : Int)), (56, aI i8106)]) (L' := [(19, .seq tI x7268.2), (1000, .seq tI c0)]) (obs := []) (by kernel_rfl) (by kernel_rfl) (by kernel_rfl) allP0 ?_
                        refine blockQ_norm ?_
                        exact exQ_mk (by kernel_rfl) (by kernel_rfl)
                      · replace h := ofF h8153 h
                        obtain rfl := Option.some.inj h
                        refine W_skip [0, 1, 5, 8, 9, 10, 11, 23, 24, 25, 54, 55, 56] [19, 1000] (fr' := [(0, aD (.slice (.pair (.slice tI) (.slice tI))) a0), (1, .one (.slc 19)), (5, aB x7268.1), (8, aI x8107.1), (9, aI x8107.2.1), (10, aI x8107.2.2.1), (11, aB v8149), (23, aD (.slice (.pair (.slice tI) (.slice tI))) a0), (24, aI (List.length a0 : Int)), (25, aI i7267), (54, aD (.slice tI) v7270.2), (55, aI (List.length v7270.2 : Int)), (56, aI i8106)]) (L' := [(19, .seq tI x7268.2), (1000, .seq tI c0)]) (by kernel_rfl) (by kernel_rfl) ?_
                        refine blockQ_norm ?_
                        exact exQ_mk (by kernel_rfl) (by kernel_rfl)
                  · intro e fr L hJ
                    obtain ⟨rfl, rfl, rfl⟩ := hJ
                    refine LT_keep [0, 1, 5, 8, 9, 10, 11, 23, 24, 25, 54, 55, 56] [19, 1000] (fr' := [(0, aD (.slice (.pair (.slice tI) (.slice tI))) a0), (1, .one (.slc 19)), (5, aB x7268.1), (8, aI v8154.1), (9, aI v8154.2.1), (10, aI v8154.2.2.1), (11, aB v8154.2.2.2), (23, aD (.slice (.pair (.slice tI) (.slice tI))) a0), (24, aI (List.length a0 : Int)), (25, aI i7267), (54, aD (.slice tI) v7270.2), (55, aI (List.length v7270.2 : Int)), (56, aI i8106)]) (L' := [(19, .seq tI x7268.2), (1000, .seq tI c0)]) (by kernel_rfl) ?_
                    refine seqQ_norm ?_
                    obtain rfl := Option.some.inj h
                    refine W_run 2 [] [0, 1, 5, 8, 9, 10, 11, 23, 24, 25, 54, 55, 56] [19, 1000] (fr' := [(0, aD (.slice (.pair (.slice tI) (.slice tI))) a0), (1, .one (.slc 19)), (5, aB x7268.1), (8, aI v8154.1), (9, aI v8154.2.1), (10, aI v8154.2.2.1), (11, aB v8154.2.2.2), (23, aD (.slice (.pair (.slice tI) (.slice tI))) a0), (24, aI (List.length a0 : Int)), (25, aI i7267), (54, aD (.slice tI) v7270.2), (55, aI (List.length v7270.2 : Int)), (56, aI (w64 (i8106 + (1 : Int))))]) (L' := [(19, .seq tI x7268.2), (1000, .seq tI c0)]) (obs := []) (by kernel_rfl) (by kernel_rfl) (by kernel_rfl) allP0 ?_
                    exact round_next' (by kernel_rfl) (by kernel_rfl)
                · obtain rfl := stepL_false h8111 h
                  refine W_exit (id := 6) [0, 1, 5, 8, 9, 10, 11, 23, 24, 25] [19, 1000] (fr' := [(0, aD (.slice (.pair (.slice tI) (.slice tI))) a0), (1, .one (.slc 19)), (5, aB x7268.1), (8, aI x8107.1), (9, aI x8107.2.1), (10, aI x8107.2.2.1), (11, aB x8107.2.2.2), (23, aD (.slice (.pair (.slice tI) (.slice tI))) a0), (24, aI (List.length a0 : Int)), (25, aI i7267)]) (L' := [(19, .seq tI x7268.2), (1000, .seq tI c0)]) (by kernel_rfl) (by kernel_rfl) ?_
                  refine seqQ_exit ?_
                  refine round_exit ?_
                  exact exQ_mk (by kernel_rfl) (by kernel_rfl)
              · intro e fr L hJ
                obtain ⟨rfl, rfl, rfl⟩ := hJ
                refine LT_keep [0, 1, 5, 8, 9, 10, 11, 23, 24, 25] [19, 1000] (fr' := [(0, aD (.slice (.pair (.slice tI) (.slice tI))) a0), (1, .one (.slc 19)), (5, aB x7268.1), (8, aI v8157.1), (9, aI v8157.2.1), (10, aI v8157.2.2.1), (11, aB v8157.2.2.2), (23, aD (.slice (.pair (.slice tI) (.slice tI))) a0), (24, aI (List.length a0 : Int)), (25, aI i7267)]) (L' := [(19, .seq tI x7268.2), (1000, .seq tI c0)]) (by kernel_rfl) ?_
                refine blockQ_hit ?_
                refine seqQ_norm ?_
                refine W_seq (by kernel_rfl) ?_
                refine W_seq (by kernel_rfl) ?_
                refine W_run 1 [] [0, 1, 5, 8, 9, 10, 23, 24, 25, 77] [19, 1000] (fr' := [(0, aD (.slice (.pair (.slice tI) (.slice tI))) a0), (1, .one (.slc 19)), (5, aB x7268.1), (8, aI v8157.1), (9, aI v8157.2.1), (10, aI v8157.2.2.1), (23, aD (.slice (.pair (.slice tI) (.slice tI))) a0), (24, aI (List.length a0 : Int)), (25, aI i7267), (77, aB v8157.2.2.2)]) (L' := [(19, .seq tI x7268.2), (1000, .seq tI c0)]) (obs := []) (by kernel_rfl) (by kernel_rfl) (by kernel_rfl) allP0 ?_
                refine seqQ_norm ?_
                refine W_cond (o := .tmp 77) (b := v8157.2.2.2) (by kernel_rfl) (by kernel_rfl) (fun h8162 => ?_) (fun h8162 => ?_)
                · replace h := ofT h8162 h
                  obtain rfl := Option.some.inj h
                  refine W_exit (id := 3) [0, 1, 5, 23, 24, 25] [19, 1000] (fr' := [(0, aD (.slice (.pair (.slice tI) (.slice tI))) a0), (1, .one (.slc 19)), (5, aB x7268.1), (23, aD (.slice (.pair (.slice tI) (.slice tI))) a0), (24, aI (List.length a0 : Int)), (25, aI i7267)]) (L' := [(19, .seq tI x7268.2), (1000, .seq tI c0)]) (by kernel_rfl) (by kernel_rfl) ?_
                  refine seqQ_exit ?_
                  refine blockQ_hit ?_
                  refine escQ_brk ?_
                  exact exQ_mk (by kernel_rfl) (by kernel_rfl)
                · replace h := ofF h8162 h
                  refine W_skip [0, 1, 5, 8, 9, 10, 23, 24, 25] [19, 1000] (fr' := [(0, aD (.slice (.pair (.slice tI) (.slice tI))) a0), (1, .one (.slc 19)), (5, aB x7268.1), (8, aI v8157.1), (9, aI v8157.2.1), (10, aI v8157.2.2.1), (23, aD (.slice (.pair (.slice tI) (.slice tI))) a0), (24, aI (List.length a0 : Int)), (25, aI i7267)]) (L' := [(19, .seq tI x7268.2), (1000, .seq tI c0)]) (by kernel_rfl) (by kernel_rfl) ?_
                  refine seqQ_norm ?_
                  refine W_seq (by kernel_rfl) ?_
                  refine W_seq (by kernel_rfl) ?_
                  refine W_run 2 [] [0, 1, 5, 8, 9, 10, 23, 24, 25, 79] [19, 1000] (fr' := [(0, aD (.slice (.pair (.slice tI) (.slice tI))) a0), (1, .one (.slc 19)), (5, aB x7268.1), (8, aI v8157.1), (9, aI v8157.2.1), (10, aI v8157.2.2.1), (23, aD (.slice (.pair (.slice tI) (.slice tI))) a0), (24, aI (List.length a0 : Int)), (25, aI i7267), (79, aB (v8157.2.2.1 == (0 : Int)))]) (L' := [(19, .seq tI x7268.2), (1000, .seq tI c0)]) (obs := []) (by kernel_rfl) (by kernel_rfl) (by kernel_rfl) allP0 ?_
                  refine seqQ_norm ?_
                  refine W_cond (o := .tmp 79) (b := v8157.2.2.1 == (0 : Int)) (by kernel_rfl) (by kernel_rfl) (fun h8163 => ?_) (fun h8163 => ?_)
                  · replace h := ofT h8163 h
                    refine W_seq (by kernel_rfl) ?_
                    refine W_run 1 [] [4] [1000] (fr' := [(4, aI (0 : Int))]) (L' := [(1000, .seq tI c0)]) (obs := []) (by kernel_rfl) (by kernel_rfl) (by kernel_rfl) allP0 ?_
                    refine seqQ_norm ?_
                    obtain rfl := Option.some.inj h
                    refine W_ret [4] [1000] (fr' := [(4, aI (0 : Int))]) (L' := [(1000, .seq tI c0)]) (by kernel_rfl) (by kernel_rfl) ?_
                    refine seqQ_ret ?_
                    refine blockQ_ret ?_
                    refine escQ_ret ?_
                    exact exQ_mk (by kernel_rfl) (by kernel_rfl)
                  · replace h := ofF h8163 h
                    refine W_skip [0, 1, 5, 8, 9, 10, 23, 24, 25] [19, 1000] (fr' := [(0, aD (.slice (.pair (.slice tI) (.slice tI))) a0), (1, .one (.slc 19)), (5, aB x7268.1), (8, aI v8157.1), (9, aI v8157.2.1), (10, aI v8157.2.2.1), (23, aD (.slice (.pair (.slice tI) (.slice tI))) a0), (24, aI (List.length a0 : Int)), (25, aI i7267)]) (L' := [(19, .seq tI x7268.2), (1000, .seq tI c0)]) (by kernel_rfl) (by kernel_rfl) ?_
                    refine seqQ_norm ?_
                    refine W_seq (by kernel_rfl) ?_
                    refine W_run 2 [] [0, 1, 5, 8, 9, 23, 24, 25, 81] [19, 1000] (fr' := [(0, aD (.slice (.pair (.slice tI) (.slice tI))) a0), (1, .one (.slc 19)), (5, aB x7268.1), (8, aI v8157.1), (9, aI v8157.2.1), (23, aD (.slice (.pair (.slice tI) (.slice tI))) a0), (24, aI (List.length a0 : Int)), (25, aI i7267), (81, aB (v8157.2.2.1 == (1 : Int)))]) (L' := [(19, .seq tI x7268.2), (1000, .seq tI c0)]) (obs := []) (by kernel_rfl) (by kernel_rfl) (by kernel_rfl) allP0 ?_
                    refine seqQ_norm ?_
                    refine W_cond (o := .tmp 81) (b := v8157.2.2.1 == (1 : Int)) (by kernel_rfl) (by kernel_rfl) (fun h8164 => ?_) (fun h8164 => ?_)
                    · replace h := ofT h8164 h
                      refine W_seq (by kernel_rfl) ?_
                      obtain ⟨v8165, h8166, h⟩ := bind_of h
                      refine W_run 5 [] [0, 1, 23, 24, 25] [19, 1000] (fr' := [(0, aD (.slice (.pair (.slice tI) (.slice tI))) a0), (1, .one (.slc 19)), (23, aD (.slice (.pair (.slice tI) (.slice tI))) a0), (24, aI (List.length a0 : Int)), (25, aI i7267)]) (L' := [(19, .seq tI (List.set x7268.2 (Int.toNat v8157.1) v8157.2.1)), (1000, .seq tI c0)]) (obs := [InR v8157.1 (List.length x7268.2), InR v8157.1 (List.length x7268.2)]) (by kernel_rfl) (by kernel_rfl) (by kernel_rfl) (allP2 (InR.of h8166) (allP1 (InR.of h8166))) ?_
                      refine seqQ_norm ?_
                      obtain rfl := Option.some.inj h
                      refine W_run 1 [] [0, 1, 5, 23, 24, 25] [19, 1000] (fr' := [(0, aD (.slice (.pair (.slice tI) (.slice tI))) a0), (1, .one (.slc 19)), (5, aB true), (23, aD (.slice (.pair (.slice tI) (.slice tI))) a0), (24, aI (List.length a0 : Int)), (25, aI i7267)]) (L' := [(19, .seq tI (List.set x7268.2 (Int.toNat v8157.1) v8157.2.1)), (1000, .seq tI c0)]) (obs := []) (by kernel_rfl) (by kernel_rfl) (by kernel_rfl) allP0 ?_
                      refine blockQ_norm ?_
                      refine escQ_brk ?_
                      exact exQ_mk (by kernel_rfl) (by kernel_rfl)
                    · replace h := ofF h8164 h
                      obtain rfl := Option.some.inj h
                      refine W_skip [0, 1, 5, 23, 24, 25] [19, 1000] (fr' := [(0, aD (.slice (.pair (.slice tI) (.slice tI))) a0), (1, .one (.slc 19)), (5, aB x7268.1), (23, aD (.slice (.pair (.slice tI) (.slice tI))) a0), (24, aI (List.length a0 : Int)), (25, aI i7267)]) (L' := [(19, .seq tI x7268.2), (1000, .seq tI c0)]) (by kernel_rfl) (by kernel_rfl) ?_
                      refine blockQ_norm ?_
                      refine escQ_brk ?_
                      exact exQ_mk (by kernel_rfl) (by kernel_rfl)
          · intro e fr L hJ
            rcases v8167 with v8169 | v8170
            · obtain ⟨rfl, rfl, rfl⟩ := hJ
              obtain rfl := Option.some.inj h
              refine LT_keep [4] [1000] (fr' := [(4, aI v8169)]) (L' := [(1000, .seq tI c0)]) (by kernel_rfl) ?_
              refine seqQ_ret ?_
              refine round_ret ?_
              refine escQ_ret ?_
              exact exQ_mk (by kernel_rfl) (by kernel_rfl)
            · obtain ⟨rfl, rfl, rfl⟩ := hJ
              refine LT_keep [0, 1, 5, 23, 24, 25] [19, 1000] (fr' := [(0, aD (.slice (.pair (.slice tI) (.slice tI))) a0), (1, .one (.slc 19)), (5, aB v8170.1), (23, aD (.slice (.pair (.slice tI) (.slice tI))) a0), (24, aI (List.length a0 : Int)), (25, aI i7267)]) (L' := [(19, .seq tI v8170.2), (1000, .seq tI c0)]) (by kernel_rfl) ?_
              refine seqQ_norm ?_
              obtain rfl := Option.some.inj h
              refine W_run 2 [] [0, 1, 5, 23, 24, 25] [19, 1000] (fr' := [(0, aD (.slice (.pair (.slice tI) (.slice tI))) a0), (1, .one (.slc 19)), (5, aB v8170.1), (23, aD (.slice (.pair (.slice tI) (.slice tI))) a0), (24, aI (List.length a0 : Int)), (25, aI (w64 (i7267 + (1 : Int))))]) (L' := [(19, .seq tI v8170.2), (1000, .seq tI c0)]) (obs := []) (by kernel_rfl) (by kernel_rfl) (by kernel_rfl) allP0 ?_
              exact round_next' (by kernel_rfl) (by kernel_rfl)
        · obtain rfl := stepL_false h7272 h
          refine W_exit (id := 2) [0, 1, 5] [19, 1000] (fr' := [(0, aD (.slice (.pair (.slice tI) (.slice tI))) a0), (1, .one (.slc 19)), (5, aB x7268.1)]) (L' := [(19, .seq tI x7268.2), (1000, .seq tI c0)]) (by kernel_rfl) (by kernel_rfl) ?_
          refine seqQ_exit ?_
          refine round_exit ?_
          refine escQ_brk ?_
          exact exQ_mk (by kernel_rfl) (by kernel_rfl)
      · intro e fr L hJ
        rcases v8172 with v8177 | v8178
        · obtain ⟨rfl, rfl, rfl⟩ := hJ
          obtain rfl := Option.some.inj h
          refine LT_keep [4] [1000] (fr' := [(4, aI v8177)]) (L' := [(1000, .seq tI c0)]) (by kernel_rfl) ?_
          refine blockQ_ret ?_
          refine blockQ_ret ?_
          refine round_ret ?_
          refine escQ_ret ?_
          exact exQ_mk (by kernel_rfl) (by kernel_rfl)
        · obtain ⟨rfl, rfl, rfl⟩ := hJ
          obtain rfl := Option.some.inj h
          refine LT_keep [0, 1, 5] [19, 1000] (fr' := [(0, aD (.slice (.pair (.slice tI) (.slice tI))) a0), (1, .one (.slc 19)), (5, aB v8178.1)]) (L' := [(19, .seq tI v8178.2), (1000, .seq tI c0)]) (by kernel_rfl) ?_
          refine blockQ_hit ?_
          refine blockQ_norm ?_
          exact round_next' (by kernel_rfl) (by kernel_rfl)
    · replace h := ofF h5454 h
      obtain rfl := Option.some.inj h
      refine W_exit (id := 0) [0, 1] [19, 1000] (fr' := [(0, aD (.slice (.pair (.slice tI) (.slice tI))) a0), (1, .one (.slc 19))]) (L' := [(19, .seq tI x2728.2), (1000, .seq tI c0)]) (by kernel_rfl) (by kernel_rfl) ?_
      refine seqQ_exit ?_
      refine round_exit ?_
      refine escQ_brk ?_
      exact exQ_mk (by kernel_rfl) (by kernel_rfl)
  · intro e fr L hJ
    rcases v8179 with v8183 | v8184
    · obtain ⟨rfl, rfl, rfl⟩ := hJ
      obtain rfl := Option.some.inj h
      refine LT_keep [4] [1000] (fr' := [(4, aI v8183)]) (L' := [(1000, .seq tI c0)]) (by kernel_rfl) ?_
      refine blockQ_ret ?_
      refine seqQ_ret ?_
      exact retQ_mk (by kernel_rfl) (by kernel_rfl) (by kernel_rfl)
    · obtain ⟨rfl, rfl, rfl⟩ := hJ
      refine LT_keep [0, 1] [19, 1000] (fr' := [(0, aD (.slice (.pair (.slice tI) (.slice tI))) a0), (1, .one (.slc 19))]) (L' := [(19, .seq tI v8184), (1000, .seq tI c0)]) (by kernel_rfl) ?_
      refine blockQ_hit ?_
      refine seqQ_norm ?_
      refine W_seq (by kernel_rfl) ?_
      refine W_seq (by kernel_rfl) ?_
      refine W_run 1 [] [0, 1, 16] [19, 1000] (fr' := [(0, aD (.slice (.pair (.slice tI) (.slice tI))) a0), (1, .one (.slc 19)), (16, aI (0 : Int))]) (L' := [(19, .seq tI v8184), (1000, .seq tI c0)]) (obs := []) (by kernel_rfl) (by kernel_rfl) (by kernel_rfl) allP0 ?_
      refine seqQ_norm ?_
      refine W_block (id := 8) (by kernel_rfl) ?_
      obtain ⟨v8227, h8228, h⟩ := bind_of h
      refine W_lenS (s := 19) (u := tI) (xs := v8184) (by kernel_rfl) (fun h8231 => ?_)
      obtain ⟨h8229, h8230⟩ := forL_iter h8231 h8228
      refine W_weaken [0, 1, 16] [19, 1000] (fr' := ((ref_choices_i2_s927 a0 c0 v8184) ((0 : Int), ())).1) (L' := ((ref_choices_i2_s927 a0 c0 v8184) ((0 : Int), ())).2) (by kernel_rfl) ?_
      refine W_cutK (W_loop (S := (ref_choices_i2_s927 a0 c0 v8184)) (J := (escQ (exQ .ret (ref_choices_i2_s928 c0)) (exQ (.exit 8) (ref_choices_i2_s929 c0)))) (by kernel_rfl) ?_ h8229 _ v8227 h8230) ?_
      · rintro ⟨i8211, x8212⟩ s h
        refine W_seq (by kernel_rfl) ?_
        refine W_seq (by kernel_rfl) ?_
        refine W_run 4 [] [0, 1, 16, 90] [19, 1000] (fr' := [(0, aD (.slice (.pair (.slice tI) (.slice tI))) a0), (1, .one (.slc 19)), (16, aI i8211), (90, aB (decide (i8211 < (List.length v8184 : Int))))]) (L' := [(19, .seq tI v8184), (1000, .seq tI c0)]) (obs := []) (by kernel_rfl) (by kernel_rfl) (by kernel_rfl) allP0 ?_
        refine seqQ_norm ?_
        refine W_cond (o := .tmp 90) (b := decide (i8211 < (List.length v8184 : Int))) (by kernel_rfl) (by kernel_rfl) (fun h8216 => ?_) (fun h8216 => ?_)
        · replace h := stepL_true h8216 h
          obtain ⟨v8214, _, h8215, h, rfl⟩ := h
          refine W_skip [0, 1, 16] [19, 1000] (fr' := [(0, aD (.slice (.pair (.slice tI) (.slice tI))) a0), (1, .one (.slc 19)), (16, aI i8211)]) (L' := [(19, .seq tI v8184), (1000, .seq tI c0)]) (by kernel_rfl) (by kernel_rfl) ?_
          refine seqQ_norm ?_
          refine W_seq (by kernel_rfl) ?_
          refine W_block (id := 9) (by kernel_rfl) ?_
          refine W_seq (by kernel_rfl) ?_
          refine W_seq (by kernel_rfl) ?_
          refine W_run 5 [(7, .val (.dat tI v8214))] [0, 1, 16, 97] [19, 1000] (fr' := [(0, aD (.slice (.pair (.slice tI) (.slice tI))) a0), (1, .one (.slc 19)), (16, aI i8211), (97, aB (decide (v8214 ≥ (0 : Int))))]) (L' := [(19, .seq tI v8184), (1000, .seq tI c0)]) (obs := [InR i8211 (List.length v8184), Idx v8184 i8211 v8214]) (by kernel_rfl) (by kernel_rfl) (by kernel_rfl) (allP2 (InR.of h8215) (allP1 (Idx.of h8215))) ?_
          refine seqQ_norm ?_
          refine W_cond (o := .tmp 97) (b := decide (v8214 ≥ (0 : Int))) (by kernel_rfl) (by kernel_rfl) (fun h8217 => ?_) (fun h8217 => ?_)
          · replace h := ofT h8217 h
            refine W_exit (id := 9) [0, 1, 16] [19, 1000] (fr' := [(0, aD (.slice (.pair (.slice tI) (.slice tI))) a0), (1, .one (.slc 19)), (16, aI i8211)]) (L' := [(19, .seq tI v8184), (1000, .seq tI c0)]) (by kernel_rfl) (by kernel_rfl) ?_
            refine seqQ_exit ?_
            refine blockQ_hit ?_
            refine seqQ_norm ?_
            obtain rfl := Option.some.inj h
            refine W_run 3 [] [0, 1, 16] [19, 1000] (fr' := [(0, aD (.slice (.pair (.slice tI) (.slice tI))) a0), (1, .one (.slc 19)), (16, aI (w64 (i8211 + (1 : Int))))]) (L' := [(19, .seq tI v8184), (1000, .seq tI c0)]) (obs := []) (by kernel_rfl) (by kernel_rfl) (by kernel_rfl) allP0 ?_
            exact round_next' (by kernel_rfl) (by kernel_rfl)
          · replace h := ofF h8217 h
            refine W_skip [0, 1, 16] [19, 1000] (fr' := [(0, aD (.slice (.pair (.slice tI) (.slice tI))) a0), (1, .one (.slc 19)), (16, aI i8211)]) (L' := [(19, .seq tI v8184), (1000, .seq tI c0)]) (by kernel_rfl) (by kernel_rfl) ?_
            refine seqQ_norm ?_
            refine W_seq (by kernel_rfl) ?_
            refine W_run 4 [] [0, 1, 16] [19, 1000] (fr' := [(0, aD (.slice (.pair (.slice tI) (.slice tI))) a0), (1, .one (.slc 19)), (16, aI i8211)]) (L' := [(19, .seq tI (List.set v8184 (Int.toNat i8211) (0 : Int))), (1000, .seq tI c0)]) (obs := [InR i8211 (List.length v8184), InR i8211 (List.length v8184)]) (by kernel_rfl) (by kernel_rfl) (by kernel_rfl) (allP2 (InR.of h8215) (allP1 (InR.of h8215))) ?_
            refine seqQ_norm ?_
            refine W_seq (by kernel_rfl) ?_
            refine W_region (by kernel_rfl) ?_
            refine WO_run (j := 2) (k := 2) (orcs := []) (kF := [0, 1, 16, 101, 102]) (kL := [19, 1000]) (fr' := [(0, aD (.slice (.pair (.slice tI) (.slice tI))) a0), (1, .one (.slc 19)), (16, aI i8211), (101, aD (.slice (.pair (.slice tI) (.slice tI))) a0), (102, .one (.slc 19))]) (L' := [(19, .seq tI (List.set v8184 (Int.toNat i8211) (0 : Int))), (1000, .seq tI c0)]) (obs := []) rfl (by kernel_rfl) allP0 ?_
            obtain ⟨r8218, h8219, h⟩ := bind_of h
            refine WO_lend [(1000, 19)] (us := [none, none]) (d := 103) (p := True) (j := 3) rfl ⟨by kernel_rfl, by kernel_rfl, by kernel_rfl⟩ trivial (ih_ref_choices_i2 h8219) (by kernel_rfl) (by kernel_rfl) ?_
            refine WO_run (j := 4) (k := 1) (orcs := []) (kF := [0, 1, 16, 17]) (kL := [19, 1000]) (fr' := [(0, aD (.slice (.pair (.slice tI) (.slice tI))) a0), (1, .one (.slc 19)), (16, aI i8211), (17, aI r8218)]) (L' := [(19, .seq tI (List.set v8184 (Int.toNat i8211) (0 : Int))), (1000, .seq tI c0)]) (obs := []) rfl (by kernel_rfl) allP0 ?_
            refine WO_fin [0, 1, 16, 17] [19, 1000] (fr' := [(0, aD (.slice (.pair (.slice tI) (.slice tI))) a0), (1, .one (.slc 19)), (16, aI i8211), (17, aI r8218)]) (L' := [(19, .seq tI (List.set v8184 (Int.toNat i8211) (0 : Int))), (1000, .seq tI c0)]) (by kernel_rfl) (by kernel_rfl) ?_
            refine seqQ_norm ?_
            refine W_seq (by kernel_rfl) ?_
            refine W_seq (by kernel_rfl) ?_
            refine W_run 2 [] [0, 1, 16, 17, 105] [19, 1000] (fr' := [(0, aD (.slice (.pair (.slice tI) (.slice tI))) a0), (1, .one (.slc 19)), (16, aI i8211), (17, aI r8218), (105, aB (decide (r8218 > (1 : Int))))]) (L' := [(19, .seq tI (List.set v8184 (Int.toNat i8211) (0 : Int))), (1000, .seq tI c0)]) (obs := []) (by kernel_rfl) (by kernel_rfl) (by kernel_rfl) allP0 ?_
            refine seqQ_norm ?_
            refine W_cond (o := .tmp 105) (b := decide (r8218 > (1 : Int))) (by kernel_rfl) (by kernel_rfl) (fun h8220 => ?_) (fun h8220 => ?_)
            · replace h := ofT h8220 h
              refine W_seq (by kernel_rfl) ?_
              refine W_run 1 [] [4] [1000] (fr' := [(4, aI (2 : Int))]) (L' := [(1000, .seq tI c0)]) (obs := []) (by kernel_rfl) (by kernel_rfl) (by kernel_rfl) allP0 ?_
              refine seqQ_norm ?_
              obtain rfl := Option.some.inj h
              refine W_ret [4] [1000] (fr' := [(4, aI (2 : Int))]) (L' := [(1000, .seq tI c0)]) (by kernel_rfl) (by kernel_rfl) ?_
              refine seqQ_ret ?_
              refine blockQ_ret ?_
              refine seqQ_ret ?_
              refine round_ret ?_
              refine escQ_ret ?_
              exact exQ_mk (by kernel_rfl) (by kernel_rfl)
            · replace h := ofF h8220 h
              refine W_skip [0, 1, 16, 17] [19, 1000] (fr' := [(0, aD (.slice (.pair (.slice tI) (.slice tI))) a0), (1, .one (.slc 19)), (16, aI i8211), (17, aI r8218)]) (L' := [(19, .seq tI (List.set v8184 (Int.toNat i8211) (0 : Int))), (1000, .seq tI c0)]) (by kernel_rfl) (by kernel_rfl) ?_
              refine seqQ_norm ?_
              refine W_seq (by kernel_rfl) ?_
              obtain ⟨v8221, h8222, h⟩ := bind_of h
              refine W_run 4 [] [0, 1, 17] [19, 1000] (fr' := [(0, aD (.slice (.pair (.slice tI) (.slice tI))) a0), (1, .one (.slc 19)), (17, aI r8218)]) (L' := [(19, .seq tI (List.set (List.set v8184 (Int.toNat i8211) (0 : Int)) (Int.toNat i8211) (1 : Int))), (1000, .seq tI c0)]) (obs := [InR i8211 (List.length (List.set v8184 (Int.toNat i8211) (0 : Int))), InR i8211 (List.length (List.set v8184 (Int.toNat i8211) (0 : Int)))]) (by kernel_rfl) (by kernel_rfl) (by kernel_rfl) (allP2 (InR.of h8222) (allP1 (InR.of h8222))) ?_
              refine seqQ_norm ?_
              refine W_seq (by kernel_rfl) ?_
              refine W_region (by kernel_rfl) ?_
              refine WO_run (j := 2) (k := 2) (orcs := []) (kF := [17, 109, 110]) (kL := [19, 1000]) (fr' := [(17, aI r8218), (109, aD (.slice (.pair (.slice tI) (.slice tI))) a0), (110, .one (.slc 19))]) (L' := [(19, .seq tI (List.set (List.set v8184 (Int.toNat i8211) (0 : Int)) (Int.toNat i8211) (1 : Int))), (1000, .seq tI c0)]) (obs := []) rfl (by kernel_rfl) allP0 ?_
              obtain ⟨r8223, h8224, h⟩ := bind_of h
              refine WO_frz 19 (by kernel_rfl) ?_
              refine WO_call0 (us := [none, none]) (d := 111) (p := True) (j := 3) rfl ⟨by kernel_rfl, by kernel_rfl, by kernel_rfl⟩ trivial (ih_ref_choices h8224) (by kernel_rfl) ?_
              refine WO_run (j := 4) (k := 1) (orcs := []) (kF := [17, 18]) (kL := [1000]) (fr' := [(17, aI r8218), (18, aI r8223)]) (L' := [(1000, .seq tI c0)]) (obs := []) rfl (by kernel_rfl) allP0 ?_
              refine WO_fin [17, 18] [1000] (fr' := [(17, aI r8218), (18, aI r8223)]) (L' := [(1000, .seq tI c0)]) (by kernel_rfl) (by kernel_rfl) ?_
              refine seqQ_norm ?_
              refine W_seq (by kernel_rfl) ?_
              refine W_seq (by kernel_rfl) ?_
              refine W_run 4 [] [17, 18, 115] [1000] (fr' := [(17, aI r8218), (18, aI r8223), (115, aB (decide ((w64 (r8218 + r8223)) > (2 : Int))))]) (L' := [(1000, .seq tI c0)]) (obs := []) (by kernel_rfl) (by kernel_rfl) (by kernel_rfl) allP0 ?_
              refine seqQ_norm ?_
              refine W_cond (o := .tmp 115) (b := decide ((w64 (r8218 + r8223)) > (2 : Int))) (by kernel_rfl) (by kernel_rfl) (fun h8225 => ?_) (fun h8225 => ?_)
              · replace h := ofT h8225 h
                refine W_seq (by kernel_rfl) ?_
                refine W_run 1 [] [4] [1000] (fr' := [(4, aI (2 : Int))]) (L' := [(1000, .seq tI c0)]) (obs := []) (by kernel_rfl) (by kernel_rfl) (by kernel_rfl) allP0 ?_
                refine seqQ_norm ?_
                obtain rfl := Option.some.inj h
                refine W_ret [4] [1000] (fr' := [(4, aI (2 : Int))]) (L' := [(1000, .seq tI c0)]) (by kernel_rfl) (by kernel_rfl) ?_
                refine seqQ_ret ?_
                refine blockQ_ret ?_
                refine seqQ_ret ?_
                refine round_ret ?_
                refine escQ_ret ?_
                exact exQ_mk (by kernel_rfl) (by kernel_rfl)
              · replace h := ofF h8225 h
                refine W_skip [17, 18] [1000] (fr' := [(17, aI r8218), (18, aI r8223)]) (L' := [(1000, .seq tI c0)]) (by kernel_rfl) (by kernel_rfl) ?_
                refine seqQ_norm ?_
                refine W_seq (by kernel_rfl) ?_
                refine W_run 4 [] [4] [1000] (fr' := [(4, aI (w64 (r8218 + r8223)))]) (L' := [(1000, .seq tI c0)]) (obs := []) (by kernel_rfl) (by kernel_rfl) (by kernel_rfl) allP0 ?_
                refine seqQ_norm ?_
                obtain rfl := Option.some.inj h
                refine W_ret [4] [1000] (fr' := [(4, aI (w64 (r8218 + r8223)))]) (L' := [(1000, .seq tI c0)]) (by kernel_rfl) (by kernel_rfl) ?_
                refine blockQ_ret ?_
                refine seqQ_ret ?_
                refine round_ret ?_
                refine escQ_ret ?_
                exact exQ_mk (by kernel_rfl) (by kernel_rfl)
        · obtain rfl := stepL_false h8216 h
          refine W_exit (id := 8) [] [1000] (fr' := []) (L' := [(1000, .seq tI c0)]) (by kernel_rfl) (by kernel_rfl) ?_
          refine seqQ_exit ?_
          refine round_exit ?_
          refine escQ_brk ?_
          exact exQ_mk (by kernel_rfl) (by kernel_rfl)
      · intro e fr L hJ
        rcases v8227 with v8232 | v8233
        · obtain ⟨rfl, rfl, rfl⟩ := hJ
          obtain rfl := Option.some.inj h
          refine LT_keep [4] [1000] (fr' := [(4, aI v8232)]) (L' := [(1000, .seq tI c0)]) (by kernel_rfl) ?_
          refine blockQ_ret ?_
          refine seqQ_ret ?_
          exact retQ_mk (by kernel_rfl) (by kernel_rfl) (by kernel_rfl)
        · obtain ⟨rfl, rfl, rfl⟩ := hJ
          refine LT_keep [] [1000] (fr' := []) (L' := [(1000, .seq tI c0)]) (by kernel_rfl) ?_
          refine blockQ_hit ?_
          refine seqQ_norm ?_
          refine W_seq (by kernel_rfl) ?_
          refine W_run 1 [] [4] [1000] (fr' := [(4, aI (1 : Int))]) (L' := [(1000, .seq tI c0)]) (obs := []) (by kernel_rfl) (by kernel_rfl) (by kernel_rfl) allP0 ?_
          refine seqQ_norm ?_
          obtain rfl := Option.some.inj h
          refine W_ret [4] [1000] (fr' := [(4, aI (1 : Int))]) (L' := [(1000, .seq tI c0)]) (by kernel_rfl) (by kernel_rfl) ?_
          exact retQ_mk (by kernel_rfl) (by kernel_rfl) (by kernel_rfl)
theorem ref_choices_i2_ok {rf_ref_choices : (List ((List Int) × (List Int))) → (List Int) → Option Int} (ih_ref_choices : ∀ {a0 : (List ((List Int) × (List Int)))} {a1 : (List Int)} {r : Int}, rf_ref_choices a0 a1 = some r → FnC Try.prog 44 [aD (.slice (.pair (.slice tI) (.slice tI))) a0, aD (.slice tI) a1] [] (aI r) []) : ∀ {fuel : Nat} {a0 : (List ((List Int) × (List Int)))} {c0 : (List Int)} {r : Int}, ref_choices_i2 rf_ref_choices fuel a0 c0 = some r → FnC Try.prog 44 [aD (.slice (.pair (.slice tI) (.slice tI))) a0, .one (.slc 1000)] [(1000, .seq tI c0)] (aI r) [(1000, .seq tI c0)] := by
  intro fuel
  induction fuel with
  | zero => intros a0 c0 r h; cases h
  | succ fuel ih => intros a0 c0 r h; exact ref_choices_i2_step_ok ih_ref_choices (fun h => ih h) (show ref_choices_i2_step rf_ref_choices (ref_choices_i2 rf_ref_choices fuel) fuel a0 c0 = some r from h)
end Go.Proofs.Ytcallckeeohoaaa.nameBuilds
