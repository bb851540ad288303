/- What the functions that GateValues calls compute, as models, and that they compute it: written by a program of mine. -/
import Derived.Test.YtmemlgpcmefpfaaProg
import Derived.Test.YtmemlgpcmefpfaaSl3
set_option linter.all false
set_option maxRecDepth 100000
namespace Go.Proofs.Ytmemlgpcmefpfaa.gateValues
open Go Go.Sl
def gate_Wrong_1 (a0 : Int) (c0 : Int) : Option Bool :=
some ((decide (a0 ≥ (0 : Int))) && (decide (a0 < c0)))
theorem gate_Wrong_1_ok {a0 : Int} {c0 : Int} {r : Bool} (h : gate_Wrong_1 a0 c0 = some r) : FnC Try.prog 45 [aI a0, .one (.ptr 1000 0)] [(1000, .cells [.dat tI c0])] (aB r) [(1000, .cells [.dat tI c0])] := by
  refine fnC_of_W (B := bodyOf Try.f45) (n := 11) Try.func45 (by kernel_rfl) (by kernel_rfl) (by kernel_rfl) (by kernel_rfl) (by kernel_rfl) ?_
  intro K
  refine W_seq (by kernel_rfl) ?_
  refine W_run 1 [] [0, 1] [1000] (fr' := [(0, aI a0), (1, .one (.ptr 1000 0))]) (L' := [(1000, .cells [.dat tI c0])]) (obs := []) (by kernel_rfl) (by kernel_rfl) (by kernel_rfl) allP0 ?_
  refine seqQ_norm ?_
  refine W_seq (by kernel_rfl) ?_
  refine W_run 8 [] [3] [1000] (fr' := [(3, aB ((decide (a0 ≥ (0 : Int))) && (decide (a0 < c0))))]) (L' := [(1000, .cells [.dat tI c0])]) (obs := []) (by kernel_rfl) (by kernel_rfl) (by kernel_rfl) allP0 ?_
  refine seqQ_norm ?_
  obtain rfl := Option.some.inj h
  refine W_ret [3] [1000] (fr' := [(3, aB ((decide (a0 ≥ (0 : Int))) && (decide (a0 < c0))))]) (L' := [(1000, .cells [.dat tI c0])]) (by kernel_rfl) (by kernel_rfl) ?_
  exact retQ_mk (by kernel_rfl) (by kernel_rfl) (by kernel_rfl)

@[reducible] def gate_Wrong_s38 (a0 : Int) (a1 : (List (Int × (Int × Int)))) (i265 : Int) (v268 : (Int × (Int × Int))) (v : Bool) : Fr × LL := ([(0, aI a0), (6, .one (.ptr 6 0)), (7, .one (.fn 45 [(5, 0)])), (8, aD (.slice (.pair tI (.pair tI tI))) a1), (9, aI (List.length a1 : Int)), (10, aI i265), (40, aB v)], [(6, .one (.pair tI (.pair tI tI)) v268), (5, .cells [.dat tI i265])])
def gate_Wrong_g39 (i265 : Int) (v268 : (Int × (Int × Int))) : Option Bool :=
(bif decide (v268.1 > (1 : Int)) then
((gate_Wrong_1 v268.2.1 i265).bind fun r386 =>
some (!r386))
else
(some false)).bind fun v388 =>
bif v388 then
(some v388)
else
(bif decide (v268.1 > (2 : Int)) then
((gate_Wrong_1 v268.2.2 i265).bind fun r392 =>
some (!r392))
else
(some false))
@[reducible] def gate_Wrong_s40 (a0 : Int) (a1 : (List (Int × (Int × Int)))) (i265 : Int) (v : Bool) : Fr × LL := ([(0, aI a0), (8, aD (.slice (.pair tI (.pair tI tI))) a1), (9, aI (List.length a1 : Int)), (10, aI i265), (40, aB v)], [])
@[reducible] def gate_Wrong_s41 (a0 : Int) (a1 : (List (Int × (Int × Int)))) (i265 : Int) (v268 : (Int × (Int × Int))) (v : Bool) : Fr × LL := ([(0, aI a0), (6, .one (.ptr 6 0)), (7, .one (.fn 45 [(5, 0)])), (8, aD (.slice (.pair tI (.pair tI tI))) a1), (9, aI (List.length a1 : Int)), (10, aI i265), (25, aB v)], [(6, .one (.pair tI (.pair tI tI)) v268), (5, .cells [.dat tI i265])])
@[reducible] def gate_Wrong_s42 (a0 : Int) (a1 : (List (Int × (Int × Int)))) (i265 : Int) (v268 : (Int × (Int × Int))) (v : Bool) : Fr × LL := ([(0, aI a0), (6, .one (.ptr 6 0)), (7, .one (.fn 45 [(5, 0)])), (8, aD (.slice (.pair tI (.pair tI tI))) a1), (9, aI (List.length a1 : Int)), (10, aI i265), (16, aB v)], [(6, .one (.pair tI (.pair tI tI)) v268), (5, .cells [.dat tI i265])])
def gate_Wrong_b43 (a0 : Int) (i265 : Int) (v268 : (Int × (Int × Int))) (x266 : Unit) : Option (Flow Unit (Esc Int Unit)) :=
(bif decide (v268.1 < (1 : Int)) then
(some true)
else
(some (decide (v268.1 > (4 : Int))))).bind fun v337 =>
bif v337 then
(some (.done (.ret (6 : Int))))
else
((bif v268.1 == (1 : Int) then
(bif decide (v268.2.1 < (0 : Int)) then
(some true)
else
(some (decide (v268.2.1 ≥ a0))))
else
(some false)).bind fun v346 =>
bif v346 then
(some (.done (.ret (4 : Int))))
else
((gate_Wrong_g39 i265 v268).bind fun v394 =>
bif v394 then
(some (.done (.ret (2 : Int))))
else
(some (.next ()))))
@[reducible] def gate_Wrong_s44 (a0 : Int) (a1 : (List (Int × (Int × Int)))) (v : Int × Unit) : Fr × LL := ([(0, aI a0), (8, aD (.slice (.pair tI (.pair tI tI))) a1), (9, aI (List.length a1 : Int)), (10, aI v.1)], [])
@[reducible] def gate_Wrong_s45 (v : Int) : Fr × LL := ([(4, aI v)], [])
@[reducible] def gate_Wrong_s46 (v : Unit) : Fr × LL := ([], [])
def gate_Wrong (a0 : Int) (a1 : (List (Int × (Int × Int)))) : Option Int :=
(forL (gate_Wrong_b43 a0) (fun x266 => (.brk ())) a1 0 ()).bind fun v398 =>
match v398 with
| .ret v403 =>
(some v403)
| .brk v404 =>
(some (0 : Int))
theorem gate_Wrong_ok {a0 : Int} {a1 : (List (Int × (Int × Int)))} {r : Int} (h : gate_Wrong a0 a1 = some r) : FnC Try.prog 35 [aI a0, aD (.slice (.pair tI (.pair tI tI))) a1] [] (aI r) [] := by
  refine fnC_of_W (B := bodyOf Try.f35) (n := 62) Try.func35 (by kernel_rfl) (by kernel_rfl) (by kernel_rfl) (by kernel_rfl) (by kernel_rfl) ?_
  intro K
  refine W_seq (by kernel_rfl) ?_
  refine W_run 1 [] [0, 1] [] (fr' := [(0, aI a0), (1, aD (.slice (.pair tI (.pair tI tI))) a1)]) (L' := []) (obs := []) (by kernel_rfl) (by kernel_rfl) (by kernel_rfl) allP0 ?_
  refine seqQ_norm ?_
  refine W_seq (by kernel_rfl) ?_
  refine W_seq (by kernel_rfl) ?_
  refine W_run 3 [] [0, 8, 9, 10] [] (fr' := [(0, aI a0), (8, aD (.slice (.pair tI (.pair tI tI))) a1), (9, aI (List.length a1 : Int)), (10, aI (0 : Int))]) (L' := []) (obs := []) (by kernel_rfl) (by kernel_rfl) (by kernel_rfl) allP0 ?_
  refine seqQ_norm ?_
  refine W_block (id := 0) (by kernel_rfl) ?_
  obtain ⟨v398, h399, h⟩ := bind_of h
  refine W_len (t := 8) (u := (.pair tI (.pair tI tI))) (xs := a1) (by kernel_rfl) (fun h402 => ?_)
  obtain ⟨h400, h401⟩ := forL_iter h402 h399
  refine W_weaken [0, 8, 9, 10] [] (fr' := ((gate_Wrong_s44 a0 a1) ((0 : Int), ())).1) (L' := ((gate_Wrong_s44 a0 a1) ((0 : Int), ())).2) (by kernel_rfl) ?_
  refine W_cutK (W_loop (S := (gate_Wrong_s44 a0 a1)) (J := (escQ (exQ .ret gate_Wrong_s45) (exQ (.exit 0) gate_Wrong_s46))) (by kernel_rfl) ?_ h400 _ v398 h401) ?_
  · rintro ⟨i265, x266⟩ s h
    refine W_seq (by kernel_rfl) ?_
    refine W_run 1 [] [0, 8, 9, 10, 11] [] (fr' := [(0, aI a0), (8, aD (.slice (.pair tI (.pair tI tI))) a1), (9, aI (List.length a1 : Int)), (10, aI i265), (11, aB (decide (i265 < (List.length a1 : Int))))]) (L' := []) (obs := []) (by kernel_rfl) (by kernel_rfl) (by kernel_rfl) allP0 ?_
    refine seqQ_norm ?_
    refine W_seq (by kernel_rfl) ?_
    refine W_cond (o := .tmp 11) (b := decide (i265 < (List.length a1 : Int))) (by kernel_rfl) (by kernel_rfl) (fun h270 => ?_) (fun h270 => ?_)
    · replace h := stepL_true h270 h
      obtain ⟨v268, _, h269, h, rfl⟩ := h
      refine W_skip [0, 8, 9, 10] [] (fr' := [(0, aI a0), (8, aD (.slice (.pair tI (.pair tI tI))) a1), (9, aI (List.length a1 : Int)), (10, aI i265)]) (L' := []) (by kernel_rfl) (by kernel_rfl) ?_
      refine seqQ_norm ?_
      refine W_seq (by kernel_rfl) ?_
      refine W_block (id := 1) (by kernel_rfl) ?_
      refine W_seq (by kernel_rfl) ?_
      refine W_run 7 [(3, .val (.dat (.pair tI (.pair tI tI)) v268)), (9, .typed)] [0, 5, 6, 8, 9, 10] [5, 6] (fr' := [(0, aI a0), (5, .one (.ptr 5 0)), (6, .one (.ptr 6 0)), (8, aD (.slice (.pair tI (.pair tI tI))) a1), (9, aI (List.length a1 : Int)), (10, aI i265)]) (L' := [(5, .cells [.dat tI i265]), (6, .one (.pair tI (.pair tI tI)) v268)]) (obs := [Idx a1 i265 v268, True, True]) (by kernel_rfl) (by kernel_rfl) (by kernel_rfl) (allP2 (Idx.of h269) (allP2 trivial (allP1 trivial))) ?_
      refine seqQ_norm ?_
      refine W_seq (by kernel_rfl) ?_
      refine W_run 2 [] [0, 6, 7, 8, 9, 10] [6, 5] (fr' := [(0, aI a0), (6, .one (.ptr 6 0)), (7, .one (.fn 45 [(5, 0)])), (8, aD (.slice (.pair tI (.pair tI tI))) a1), (9, aI (List.length a1 : Int)), (10, aI i265)]) (L' := [(6, .one (.pair tI (.pair tI tI)) v268), (5, .cells [.dat tI i265])]) (obs := []) (by kernel_rfl) (by kernel_rfl) (by kernel_rfl) allP0 ?_
      refine seqQ_norm ?_
      refine W_block (id := 2) (by kernel_rfl) ?_
      refine W_seq (by kernel_rfl) ?_
      obtain ⟨v337, h338, h⟩ := bind_of h
      refine W_cutK (Q' := (exQ .normal (gate_Wrong_s42 a0 a1 i265 v268)) v337) ?_ ?_
      · replace h := h338
        refine W_region (by kernel_rfl) ?_
        refine WO_run (j := 4) (k := 4) (orcs := []) (kF := [0, 6, 7, 8, 9, 10, 20]) (kL := [5, 6]) (fr' := [(0, aI a0), (6, .one (.ptr 6 0)), (7, .one (.fn 45 [(5, 0)])), (8, aD (.slice (.pair tI (.pair tI tI))) a1), (9, aI (List.length a1 : Int)), (10, aI i265), (20, aB (decide (v268.1 < (1 : Int))))]) (L' := [(5, .cells [.dat tI i265]), (6, .one (.pair tI (.pair tI tI)) v268)]) (obs := []) rfl (by kernel_rfl) allP0 ?_
        rcases Bool.eq_false_or_eq_true (decide (v268.1 < (1 : Int))) with h336 | h336
        · replace h := ofT h336 h
          refine WO_run (j := 9) (k := 5) (orcs := [(8, .known true), (10, .known true), (12, .known true), (15, .val (.dat .bool true))]) (kF := [0, 6, 7, 8, 9, 10, 16]) (kL := [5, 6]) (fr' := [(0, aI a0), (6, .one (.ptr 6 0)), (7, .one (.fn 45 [(5, 0)])), (8, aD (.slice (.pair tI (.pair tI tI))) a1), (9, aI (List.length a1 : Int)), (10, aI i265), (16, aB true)]) (L' := [(5, .cells [.dat tI i265]), (6, .one (.pair tI (.pair tI tI)) v268)]) (obs := [((decide (v268.1 < (1 : Int))) = true), ((decide (v268.1 < (1 : Int))) = true), ((decide (v268.1 < (1 : Int))) = true), ((decide (v268.1 < (1 : Int))) = true)]) rfl (by kernel_rfl) (allP2 h336 (allP2 h336 (allP2 h336 (allP1 h336)))) ?_
          obtain rfl := Option.some.inj h
          refine WO_fin [0, 6, 7, 8, 9, 10, 16] [6, 5] (fr' := [(0, aI a0), (6, .one (.ptr 6 0)), (7, .one (.fn 45 [(5, 0)])), (8, aD (.slice (.pair tI (.pair tI tI))) a1), (9, aI (List.length a1 : Int)), (10, aI i265), (16, aB true)]) (L' := [(6, .one (.pair tI (.pair tI tI)) v268), (5, .cells [.dat tI i265])]) (by kernel_rfl) (by kernel_rfl) ?_
          exact exQ_mk (by kernel_rfl) (by kernel_rfl)
        · replace h := ofF h336 h
          refine WO_run (j := 9) (k := 5) (orcs := [(8, .known false), (10, .known false), (12, .known false), (15, .val (.dat .bool false))]) (kF := [0, 6, 7, 8, 9, 10, 16]) (kL := [5, 6]) (fr' := [(0, aI a0), (6, .one (.ptr 6 0)), (7, .one (.fn 45 [(5, 0)])), (8, aD (.slice (.pair tI (.pair tI tI))) a1), (9, aI (List.length a1 : Int)), (10, aI i265), (16, aB (decide (v268.1 > (4 : Int))))]) (L' := [(5, .cells [.dat tI i265]), (6, .one (.pair tI (.pair tI tI)) v268)]) (obs := [((decide (v268.1 < (1 : Int))) = false), ((decide (v268.1 < (1 : Int))) = false), ((decide (v268.1 < (1 : Int))) = false), ((decide (v268.1 < (1 : Int))) = false)]) rfl (by kernel_rfl) (allP2 h336 (allP2 h336 (allP2 h336 (allP1 h336)))) ?_
          obtain rfl := Option.some.inj h
          refine WO_fin [0, 6, 7, 8, 9, 10, 16] [6, 5] (fr' := [(0, aI a0), (6, .one (.ptr 6 0)), (7, .one (.fn 45 [(5, 0)])), (8, aD (.slice (.pair tI (.pair tI tI))) a1), (9, aI (List.length a1 : Int)), (10, aI i265), (16, aB (decide (v268.1 > (4 : Int))))]) (L' := [(6, .one (.pair tI (.pair tI tI)) v268), (5, .cells [.dat tI i265])]) (by kernel_rfl) (by kernel_rfl) ?_
          exact exQ_mk (by kernel_rfl) (by kernel_rfl)
      · intro e fr L hJ
        obtain ⟨rfl, rfl, rfl⟩ := hJ
        refine LT_keep [0, 6, 7, 8, 9, 10, 16] [6, 5] (fr' := [(0, aI a0), (6, .one (.ptr 6 0)), (7, .one (.fn 45 [(5, 0)])), (8, aD (.slice (.pair tI (.pair tI tI))) a1), (9, aI (List.length a1 : Int)), (10, aI i265), (16, aB v337)]) (L' := [(6, .one (.pair tI (.pair tI tI)) v268), (5, .cells [.dat tI i265])]) (by kernel_rfl) ?_
        refine seqQ_norm ?_
        refine W_cond (o := .tmp 16) (b := v337) (by kernel_rfl) (by kernel_rfl) (fun h339 => ?_) (fun h339 => ?_)
        · replace h := ofT h339 h
          refine W_seq (by kernel_rfl) ?_
          refine W_run 1 [] [4] [] (fr' := [(4, aI (6 : Int))]) (L' := []) (obs := []) (by kernel_rfl) (by kernel_rfl) (by kernel_rfl) allP0 ?_
          refine seqQ_norm ?_
          obtain rfl := Option.some.inj h
          refine W_ret [4] [] (fr' := [(4, aI (6 : Int))]) (L' := []) (by kernel_rfl) (by kernel_rfl) ?_
          refine blockQ_ret ?_
          refine blockQ_ret ?_
          refine seqQ_ret ?_
          refine round_ret ?_
          refine escQ_ret ?_
          exact exQ_mk (by kernel_rfl) (by kernel_rfl)
        · replace h := ofF h339 h
          refine W_seq (by kernel_rfl) ?_
          obtain ⟨v346, h347, h⟩ := bind_of h
          refine W_cutK (Q' := (exQ .normal (gate_Wrong_s41 a0 a1 i265 v268)) v346) ?_ ?_
          · replace h := h347
            refine W_region (by kernel_rfl) ?_
            refine WO_run (j := 4) (k := 4) (orcs := []) (kF := [0, 6, 7, 8, 9, 10, 29]) (kL := [5, 6]) (fr' := [(0, aI a0), (6, .one (.ptr 6 0)), (7, .one (.fn 45 [(5, 0)])), (8, aD (.slice (.pair tI (.pair tI tI))) a1), (9, aI (List.length a1 : Int)), (10, aI i265), (29, aB (v268.1 == (1 : Int)))]) (L' := [(5, .cells [.dat tI i265]), (6, .one (.pair tI (.pair tI tI)) v268)]) (obs := []) rfl (by kernel_rfl) allP0 ?_
            rcases Bool.eq_false_or_eq_true (v268.1 == (1 : Int)) with h344 | h344
            · replace h := ofT h344 h
              refine WO_run (j := 8) (k := 4) (orcs := [(8, .known true), (10, .known true), (12, .known true), (14, .known true)]) (kF := [0, 6, 7, 8, 9, 10, 29, 33]) (kL := [5, 6]) (fr' := [(0, aI a0), (6, .one (.ptr 6 0)), (7, .one (.fn 45 [(5, 0)])), (8, aD (.slice (.pair tI (.pair tI tI))) a1), (9, aI (List.length a1 : Int)), (10, aI i265), (29, aB (v268.1 == (1 : Int))), (33, aB (decide (v268.2.1 < (0 : Int))))]) (L' := [(5, .cells [.dat tI i265]), (6, .one (.pair tI (.pair tI tI)) v268)]) (obs := [((v268.1 == (1 : Int)) = true), ((v268.1 == (1 : Int)) = true), ((v268.1 == (1 : Int)) = true), ((v268.1 == (1 : Int)) = true)]) rfl (by kernel_rfl) (allP2 h344 (allP2 h344 (allP2 h344 (allP1 h344)))) ?_
              rcases Bool.eq_false_or_eq_true (decide (v268.2.1 < (0 : Int))) with h345 | h345
              · replace h := ofT h345 h
                refine WO_run (j := 15) (k := 7) (orcs := [(16, .known true), (18, .known true), (20, .known true), (22, .known true), (24, .known true), (25, .val (.dat .bool true)), (27, .val (.dat .bool true))]) (kF := [0, 6, 7, 8, 9, 10, 25]) (kL := [5, 6]) (fr' := [(0, aI a0), (6, .one (.ptr 6 0)), (7, .one (.fn 45 [(5, 0)])), (8, aD (.slice (.pair tI (.pair tI tI))) a1), (9, aI (List.length a1 : Int)), (10, aI i265), (25, aB true)]) (L' := [(5, .cells [.dat tI i265]), (6, .one (.pair tI (.pair tI tI)) v268)]) (obs := [((decide (v268.2.1 < (0 : Int))) = true), ((decide (v268.2.1 < (0 : Int))) = true), ((decide (v268.2.1 < (0 : Int))) = true), ((decide (v268.2.1 < (0 : Int))) = true), ((v268.1 == (1 : Int)) = true), ((decide (v268.2.1 < (0 : Int))) = true), ((v268.1 == (1 : Int)) = true)]) rfl (by kernel_rfl) (allP2 h345 (allP2 h345 (allP2 h345 (allP2 h345 (allP2 h344 (allP2 h345 (allP1 h344))))))) ?_
                obtain rfl := Option.some.inj h
                refine WO_fin [0, 6, 7, 8, 9, 10, 25] [6, 5] (fr' := [(0, aI a0), (6, .one (.ptr 6 0)), (7, .one (.fn 45 [(5, 0)])), (8, aD (.slice (.pair tI (.pair tI tI))) a1), (9, aI (List.length a1 : Int)), (10, aI i265), (25, aB true)]) (L' := [(6, .one (.pair tI (.pair tI tI)) v268), (5, .cells [.dat tI i265])]) (by kernel_rfl) (by kernel_rfl) ?_
                exact exQ_mk (by kernel_rfl) (by kernel_rfl)
              · replace h := ofF h345 h
                refine WO_run (j := 15) (k := 7) (orcs := [(16, .known false), (18, .known false), (20, .known false), (22, .known false), (24, .known true), (25, .val (.dat .bool false)), (27, .val (.dat .bool true))]) (kF := [0, 6, 7, 8, 9, 10, 25]) (kL := [5, 6]) (fr' := [(0, aI a0), (6, .one (.ptr 6 0)), (7, .one (.fn 45 [(5, 0)])), (8, aD (.slice (.pair tI (.pair tI tI))) a1), (9, aI (List.length a1 : Int)), (10, aI i265), (25, aB (decide (v268.2.1 ≥ a0)))]) (L' := [(5, .cells [.dat tI i265]), (6, .one (.pair tI (.pair tI tI)) v268)]) (obs := [((decide (v268.2.1 < (0 : Int))) = false), ((decide (v268.2.1 < (0 : Int))) = false), ((decide (v268.2.1 < (0 : Int))) = false), ((decide (v268.2.1 < (0 : Int))) = false), ((v268.1 == (1 : Int)) = true), ((decide (v268.2.1 < (0 : Int))) = false), ((v268.1 == (1 : Int)) = true)]) rfl (by kernel_rfl) (allP2 h345 (allP2 h345 (allP2 h345 (allP2 h345 (allP2 h344 (allP2 h345 (allP1 h344))))))) ?_
                obtain rfl := Option.some.inj h
                refine WO_fin [0, 6, 7, 8, 9, 10, 25] [6, 5] (fr' := [(0, aI a0), (6, .one (.ptr 6 0)), (7, .one (.fn 45 [(5, 0)])), (8, aD (.slice (.pair tI (.pair tI tI))) a1), (9, aI (List.length a1 : Int)), (10, aI i265), (25, aB (decide (v268.2.1 ≥ a0)))]) (L' := [(6, .one (.pair tI (.pair tI tI)) v268), (5, .cells [.dat tI i265])]) (by kernel_rfl) (by kernel_rfl) ?_
                exact exQ_mk (by kernel_rfl) (by kernel_rfl)
            · replace h := ofF h344 h
              refine WO_run (j := 15) (k := 11) (orcs := [(8, .known false), (10, .known false), (12, .known false), (14, .known false), (16, .known true), (18, .known true), (20, .known true), (22, .known true), (24, .known false), (27, .val (.dat .bool false))]) (kF := [0, 6, 7, 8, 9, 10, 25]) (kL := [5, 6]) (fr' := [(0, aI a0), (6, .one (.ptr 6 0)), (7, .one (.fn 45 [(5, 0)])), (8, aD (.slice (.pair tI (.pair tI tI))) a1), (9, aI (List.length a1 : Int)), (10, aI i265), (25, aB false)]) (L' := [(5, .cells [.dat tI i265]), (6, .one (.pair tI (.pair tI tI)) v268)]) (obs := [((v268.1 == (1 : Int)) = false), ((v268.1 == (1 : Int)) = false), ((v268.1 == (1 : Int)) = false), ((v268.1 == (1 : Int)) = false), ((v268.1 == (1 : Int)) = false), ((v268.1 == (1 : Int)) = false)]) rfl (by kernel_rfl) (allP2 h344 (allP2 h344 (allP2 h344 (allP2 h344 (allP2 h344 (allP1 h344)))))) ?_
              obtain rfl := Option.some.inj h
              refine WO_fin [0, 6, 7, 8, 9, 10, 25] [6, 5] (fr' := [(0, aI a0), (6, .one (.ptr 6 0)), (7, .one (.fn 45 [(5, 0)])), (8, aD (.slice (.pair tI (.pair tI tI))) a1), (9, aI (List.length a1 : Int)), (10, aI i265), (25, aB false)]) (L' := [(6, .one (.pair tI (.pair tI tI)) v268), (5, .cells [.dat tI i265])]) (by kernel_rfl) (by kernel_rfl) ?_
              exact exQ_mk (by kernel_rfl) (by kernel_rfl)
          · intro e fr L hJ
            obtain ⟨rfl, rfl, rfl⟩ := hJ
            refine LT_keep [0, 6, 7, 8, 9, 10, 25] [6, 5] (fr' := [(0, aI a0), (6, .one (.ptr 6 0)), (7, .one (.fn 45 [(5, 0)])), (8, aD (.slice (.pair tI (.pair tI tI))) a1), (9, aI (List.length a1 : Int)), (10, aI i265), (25, aB v346)]) (L' := [(6, .one (.pair tI (.pair tI tI)) v268), (5, .cells [.dat tI i265])]) (by kernel_rfl) ?_
            refine seqQ_norm ?_
            refine W_cond (o := .tmp 25) (b := v346) (by kernel_rfl) (by kernel_rfl) (fun h348 => ?_) (fun h348 => ?_)
            · replace h := ofT h348 h
              refine W_seq (by kernel_rfl) ?_
              refine W_run 1 [] [4] [] (fr' := [(4, aI (4 : Int))]) (L' := []) (obs := []) (by kernel_rfl) (by kernel_rfl) (by kernel_rfl) allP0 ?_
              refine seqQ_norm ?_
              obtain rfl := Option.some.inj h
              refine W_ret [4] [] (fr' := [(4, aI (4 : Int))]) (L' := []) (by kernel_rfl) (by kernel_rfl) ?_
              refine blockQ_ret ?_
              refine blockQ_ret ?_
              refine seqQ_ret ?_
              refine round_ret ?_
              refine escQ_ret ?_
              exact exQ_mk (by kernel_rfl) (by kernel_rfl)
            · replace h := ofF h348 h
              refine W_seq (by kernel_rfl) ?_
              obtain ⟨v394, h395, h⟩ := bind_of h
              refine W_cutK (Q' := (exQ .normal (gate_Wrong_s40 a0 a1 i265)) v394) ?_ ?_
              · replace h := h395
                refine W_seq (by kernel_rfl) ?_
                obtain ⟨v388, h389, h⟩ := bind_of h
                refine W_cutK (Q' := (exQ .normal (gate_Wrong_s38 a0 a1 i265 v268)) v388) ?_ ?_
                · replace h := h389
                  refine W_region (by kernel_rfl) ?_
                  refine WO_run (j := 4) (k := 4) (orcs := []) (kF := [0, 6, 7, 8, 9, 10, 44]) (kL := [5, 6]) (fr' := [(0, aI a0), (6, .one (.ptr 6 0)), (7, .one (.fn 45 [(5, 0)])), (8, aD (.slice (.pair tI (.pair tI tI))) a1), (9, aI (List.length a1 : Int)), (10, aI i265), (44, aB (decide (v268.1 > (1 : Int))))]) (L' := [(5, .cells [.dat tI i265]), (6, .one (.pair tI (.pair tI tI)) v268)]) (obs := []) rfl (by kernel_rfl) allP0 ?_
                  rcases Bool.eq_false_or_eq_true (decide (v268.1 > (1 : Int))) with h385 | h385
                  · replace h := ofT h385 h
                    refine WO_run (j := 7) (k := 3) (orcs := [(8, .known true), (10, .known true), (12, .known true)]) (kF := [0, 6, 7, 8, 9, 10, 44, 45, 47]) (kL := [5, 6]) (fr' := [(0, aI a0), (6, .one (.ptr 6 0)), (7, .one (.fn 45 [(5, 0)])), (8, aD (.slice (.pair tI (.pair tI tI))) a1), (9, aI (List.length a1 : Int)), (10, aI i265), (44, aB (decide (v268.1 > (1 : Int)))), (45, .one (.fn 45 [(5, 0)])), (47, aI v268.2.1)]) (L' := [(5, .cells [.dat tI i265]), (6, .one (.pair tI (.pair tI tI)) v268)]) (obs := [((decide (v268.1 > (1 : Int))) = true), ((decide (v268.1 > (1 : Int))) = true), ((decide (v268.1 > (1 : Int))) = true)]) rfl (by kernel_rfl) (allP2 h385 (allP2 h385 (allP1 h385))) ?_
                    obtain ⟨r386, h387, h⟩ := bind_of h
                    refine WO_lend [(1000, 5)] (us := [none, none]) (d := 48) (p := ((decide (v268.1 > (1 : Int))) = true)) (j := 8) rfl ⟨by kernel_rfl, by kernel_rfl, by kernel_rfl⟩ h385 (gate_Wrong_1_ok h387) (by kernel_rfl) (by kernel_rfl) ?_
                    refine WO_run (j := 11) (k := 3) (orcs := [(16, .known true), (19, .val (.dat .bool true))]) (kF := [0, 6, 7, 8, 9, 10, 40]) (kL := [5, 6]) (fr' := [(0, aI a0), (6, .one (.ptr 6 0)), (7, .one (.fn 45 [(5, 0)])), (8, aD (.slice (.pair tI (.pair tI tI))) a1), (9, aI (List.length a1 : Int)), (10, aI i265), (40, aB (!r386))]) (L' := [(5, .cells [.dat tI i265]), (6, .one (.pair tI (.pair tI tI)) v268)]) (obs := [((decide (v268.1 > (1 : Int))) = true), ((decide (v268.1 > (1 : Int))) = true)]) rfl (by kernel_rfl) (allP2 h385 (allP1 h385)) ?_
                    obtain rfl := Option.some.inj h
                    refine WO_fin [0, 6, 7, 8, 9, 10, 40] [6, 5] (fr' := [(0, aI a0), (6, .one (.ptr 6 0)), (7, .one (.fn 45 [(5, 0)])), (8, aD (.slice (.pair tI (.pair tI tI))) a1), (9, aI (List.length a1 : Int)), (10, aI i265), (40, aB (!r386))]) (L' := [(6, .one (.pair tI (.pair tI tI)) v268), (5, .cells [.dat tI i265])]) (by kernel_rfl) (by kernel_rfl) ?_
                    exact exQ_mk (by kernel_rfl) (by kernel_rfl)
                  · replace h := ofF h385 h
                    refine WO_run (j := 11) (k := 7) (orcs := [(8, .known false), (10, .known false), (12, .known false), (14, .known false), (16, .known false), (19, .val (.dat .bool false))]) (kF := [0, 6, 7, 8, 9, 10, 40]) (kL := [5, 6]) (fr' := [(0, aI a0), (6, .one (.ptr 6 0)), (7, .one (.fn 45 [(5, 0)])), (8, aD (.slice (.pair tI (.pair tI tI))) a1), (9, aI (List.length a1 : Int)), (10, aI i265), (40, aB false)]) (L' := [(5, .cells [.dat tI i265]), (6, .one (.pair tI (.pair tI tI)) v268)]) (obs := [((decide (v268.1 > (1 : Int))) = false), ((decide (v268.1 > (1 : Int))) = false), ((decide (v268.1 > (1 : Int))) = false), ((decide (v268.1 > (1 : Int))) = false), ((decide (v268.1 > (1 : Int))) = false), ((decide (v268.1 > (1 : Int))) = false)]) rfl (by kernel_rfl) (allP2 h385 (allP2 h385 (allP2 h385 (allP2 h385 (allP2 h385 (allP1 h385)))))) ?_
                    obtain rfl := Option.some.inj h
                    refine WO_fin [0, 6, 7, 8, 9, 10, 40] [6, 5] (fr' := [(0, aI a0), (6, .one (.ptr 6 0)), (7, .one (.fn 45 [(5, 0)])), (8, aD (.slice (.pair tI (.pair tI tI))) a1), (9, aI (List.length a1 : Int)), (10, aI i265), (40, aB false)]) (L' := [(6, .one (.pair tI (.pair tI tI)) v268), (5, .cells [.dat tI i265])]) (by kernel_rfl) (by kernel_rfl) ?_
                    exact exQ_mk (by kernel_rfl) (by kernel_rfl)
                · intro e fr L hJ
                  obtain ⟨rfl, rfl, rfl⟩ := hJ
                  refine LT_keep [0, 6, 7, 8, 9, 10, 40] [6, 5] (fr' := [(0, aI a0), (6, .one (.ptr 6 0)), (7, .one (.fn 45 [(5, 0)])), (8, aD (.slice (.pair tI (.pair tI tI))) a1), (9, aI (List.length a1 : Int)), (10, aI i265), (40, aB v388)]) (L' := [(6, .one (.pair tI (.pair tI tI)) v268), (5, .cells [.dat tI i265])]) (by kernel_rfl) ?_
                  refine seqQ_norm ?_
                  refine W_cond (o := .tmp 40) (b := v388) (by kernel_rfl) (by kernel_rfl) (fun h390 => ?_) (fun h390 => ?_)
                  · replace h := ofT h390 h
                    obtain rfl := Option.some.inj h
                    refine W_skip [0, 8, 9, 10, 40] [] (fr' := [(0, aI a0), (8, aD (.slice (.pair tI (.pair tI tI))) a1), (9, aI (List.length a1 : Int)), (10, aI i265), (40, aB v388)]) (L' := []) (by kernel_rfl) (by kernel_rfl) ?_
                    exact exQ_mk (by kernel_rfl) (by kernel_rfl)
                  · replace h := ofF h390 h
                    refine W_region (by kernel_rfl) ?_
                    refine WO_run (j := 4) (k := 4) (orcs := []) (kF := [0, 6, 7, 8, 9, 10, 40, 54]) (kL := [5, 6]) (fr' := [(0, aI a0), (6, .one (.ptr 6 0)), (7, .one (.fn 45 [(5, 0)])), (8, aD (.slice (.pair tI (.pair tI tI))) a1), (9, aI (List.length a1 : Int)), (10, aI i265), (40, aB v388), (54, aB (decide (v268.1 > (2 : Int))))]) (L' := [(5, .cells [.dat tI i265]), (6, .one (.pair tI (.pair tI tI)) v268)]) (obs := []) rfl (by kernel_rfl) allP0 ?_
                    rcases Bool.eq_false_or_eq_true (decide (v268.1 > (2 : Int))) with h391 | h391
                    · replace h := ofT h391 h
                      refine WO_run (j := 7) (k := 3) (orcs := [(8, .known true), (10, .known true), (12, .known true)]) (kF := [0, 8, 9, 10, 40, 54, 55, 57]) (kL := [5, 6]) (fr' := [(0, aI a0), (8, aD (.slice (.pair tI (.pair tI tI))) a1), (9, aI (List.length a1 : Int)), (10, aI i265), (40, aB v388), (54, aB (decide (v268.1 > (2 : Int)))), (55, .one (.fn 45 [(5, 0)])), (57, aI v268.2.2)]) (L' := [(5, .cells [.dat tI i265]), (6, .one (.pair tI (.pair tI tI)) v268)]) (obs := [((decide (v268.1 > (2 : Int))) = true), ((decide (v268.1 > (2 : Int))) = true), ((decide (v268.1 > (2 : Int))) = true)]) rfl (by kernel_rfl) (allP2 h391 (allP2 h391 (allP1 h391))) ?_
                      obtain ⟨r392, h393, h⟩ := bind_of h
                      refine WO_lend [(1000, 5)] (us := [none, none]) (d := 58) (p := ((decide (v268.1 > (2 : Int))) = true)) (j := 8) rfl ⟨by kernel_rfl, by kernel_rfl, by kernel_rfl⟩ h391 (gate_Wrong_1_ok h393) (by kernel_rfl) (by kernel_rfl) ?_
                      refine WO_run (j := 11) (k := 3) (orcs := [(16, .known true), (19, .val (.dat .bool true))]) (kF := [0, 8, 9, 10, 40]) (kL := [5, 6]) (fr' := [(0, aI a0), (8, aD (.slice (.pair tI (.pair tI tI))) a1), (9, aI (List.length a1 : Int)), (10, aI i265), (40, aB (!r392))]) (L' := [(5, .cells [.dat tI i265]), (6, .one (.pair tI (.pair tI tI)) v268)]) (obs := [((decide (v268.1 > (2 : Int))) = true), ((decide (v268.1 > (2 : Int))) = true)]) rfl (by kernel_rfl) (allP2 h391 (allP1 h391)) ?_
                      obtain rfl := Option.some.inj h
                      refine WO_fin [0, 8, 9, 10, 40] [] (fr' := [(0, aI a0), (8, aD (.slice (.pair tI (.pair tI tI))) a1), (9, aI (List.length a1 : Int)), (10, aI i265), (40, aB (!r392))]) (L' := []) (by kernel_rfl) (by kernel_rfl) ?_
                      exact exQ_mk (by kernel_rfl) (by kernel_rfl)
                    · replace h := ofF h391 h
                      refine WO_run (j := 11) (k := 7) (orcs := [(8, .known false), (10, .known false), (12, .known false), (14, .known false), (16, .known false), (19, .val (.dat .bool false))]) (kF := [0, 8, 9, 10, 40]) (kL := [5, 6]) (fr' := [(0, aI a0), (8, aD (.slice (.pair tI (.pair tI tI))) a1), (9, aI (List.length a1 : Int)), (10, aI i265), (40, aB false)]) (L' := [(5, .cells [.dat tI i265]), (6, .one (.pair tI (.pair tI tI)) v268)]) (obs := [((decide (v268.1 > (2 : Int))) = false), ((decide (v268.1 > (2 : Int))) = false), ((decide (v268.1 > (2 : Int))) = false), ((decide (v268.1 > (2 : Int))) = false), ((decide (v268.1 > (2 : Int))) = false), ((decide (v268.1 > (2 : Int))) = false)]) rfl (by kernel_rfl) (allP2 h391 (allP2 h391 (allP2 h391 (allP2 h391 (allP2 h391 (allP1 h391)))))) ?_
                      obtain rfl := Option.some.inj h
                      refine WO_fin [0, 8, 9, 10, 40] [] (fr' := [(0, aI a0), (8, aD (.slice (.pair tI (.pair tI tI))) a1), (9, aI (List.length a1 : Int)), (10, aI i265), (40, aB false)]) (L' := []) (by kernel_rfl) (by kernel_rfl) ?_
                      exact exQ_mk (by kernel_rfl) (by kernel_rfl)
              · intro e fr L hJ
                obtain ⟨rfl, rfl, rfl⟩ := hJ
                refine LT_keep [0, 8, 9, 10, 40] [] (fr' := [(0, aI a0), (8, aD (.slice (.pair tI (.pair tI tI))) a1), (9, aI (List.length a1 : Int)), (10, aI i265), (40, aB v394)]) (L' := []) (by kernel_rfl) ?_
                refine seqQ_norm ?_
                refine W_cond (o := .tmp 40) (b := v394) (by kernel_rfl) (by kernel_rfl) (fun h396 => ?_) (fun h396 => ?_)
                · replace h := ofT h396 h
                  refine W_seq (by kernel_rfl) ?_
                  refine W_run 1 [] [4] [] (fr' := [(4, aI (2 : Int))]) (L' := []) (obs := []) (by kernel_rfl) (by kernel_rfl) (by kernel_rfl) allP0 ?_
                  refine seqQ_norm ?_
                  obtain rfl := Option.some.inj h
                  refine W_ret [4] [] (fr' := [(4, aI (2 : Int))]) (L' := []) (by kernel_rfl) (by kernel_rfl) ?_
                  refine blockQ_ret ?_
                  refine blockQ_ret ?_
                  refine seqQ_ret ?_
                  refine round_ret ?_
                  refine escQ_ret ?_
                  exact exQ_mk (by kernel_rfl) (by kernel_rfl)
                · replace h := ofF h396 h
                  refine W_skip [0, 8, 9, 10] [] (fr' := [(0, aI a0), (8, aD (.slice (.pair tI (.pair tI tI))) a1), (9, aI (List.length a1 : Int)), (10, aI i265)]) (L' := []) (by kernel_rfl) (by kernel_rfl) ?_
                  refine blockQ_norm ?_
                  refine blockQ_norm ?_
                  refine seqQ_norm ?_
                  obtain rfl := Option.some.inj h
                  refine W_run 2 [] [0, 8, 9, 10] [] (fr' := [(0, aI a0), (8, aD (.slice (.pair tI (.pair tI tI))) a1), (9, aI (List.length a1 : Int)), (10, aI (w64 (i265 + (1 : Int))))]) (L' := []) (obs := []) (by kernel_rfl) (by kernel_rfl) (by kernel_rfl) allP0 ?_
                  exact round_next' (by kernel_rfl) (by kernel_rfl)
    · obtain rfl := stepL_false h270 h
      refine W_exit (id := 0) [] [] (fr' := []) (L' := []) (by kernel_rfl) (by kernel_rfl) ?_
      refine seqQ_exit ?_
      refine round_exit ?_
      refine escQ_brk ?_
      exact exQ_mk (by kernel_rfl) (by kernel_rfl)
  · intro e fr L hJ
    rcases v398 with v403 | v404
    · obtain ⟨rfl, rfl, rfl⟩ := hJ
      obtain rfl := Option.some.inj h
      refine LT_keep [4] [] (fr' := [(4, aI v403)]) (L' := []) (by kernel_rfl) ?_
      refine blockQ_ret ?_
      refine seqQ_ret ?_
      exact retQ_mk (by kernel_rfl) (by kernel_rfl) (by kernel_rfl)
    · obtain ⟨rfl, rfl, rfl⟩ := hJ
      refine LT_keep [] [] (fr' := []) (L' := []) (by kernel_rfl) ?_
      refine blockQ_hit ?_
      refine seqQ_norm ?_
      refine W_seq (by kernel_rfl) ?_
      refine W_run 1 [] [4] [] (fr' := [(4, aI (0 : Int))]) (L' := []) (obs := []) (by kernel_rfl) (by kernel_rfl) (by kernel_rfl) allP0 ?_
      refine seqQ_norm ?_
      obtain rfl := Option.some.inj h
      refine W_ret [4] [] (fr' := [(4, aI (0 : Int))]) (L' := []) (by kernel_rfl) (by kernel_rfl) ?_
      exact retQ_mk (by kernel_rfl) (by kernel_rfl) (by kernel_rfl)

def gate_Check (a0 : Int) (a1 : (List (Int × (Int × Int)))) : Option Int :=
bif (((decide (a0 < (0 : Int))) || (decide (a0 > (5 : Int)))) || (decide ((List.length a1 : Int) < (1 : Int)))) || (decide ((List.length a1 : Int) > (40 : Int))) then
(some (1 : Int))
else
((gate_Wrong a0 a1).bind fun r2 =>
some r2)
theorem gate_Check_ok {a0 : Int} {a1 : (List (Int × (Int × Int)))} {r : Int} (h : gate_Check a0 a1 = some r) : FnC Try.prog 13 [aI a0, aD (.slice (.pair tI (.pair tI tI))) a1] [] (aI r) [] := by
  refine fnC_of_W (B := bodyOf Try.f13) (n := 24) Try.func13 (by kernel_rfl) (by kernel_rfl) (by kernel_rfl) (by kernel_rfl) (by kernel_rfl) ?_
  intro K
  refine W_seq (by kernel_rfl) ?_
  refine W_run 1 [] [0, 1] [] (fr' := [(0, aI a0), (1, aD (.slice (.pair tI (.pair tI tI))) a1)]) (L' := []) (obs := []) (by kernel_rfl) (by kernel_rfl) (by kernel_rfl) allP0 ?_
  refine seqQ_norm ?_
  refine W_seq (by kernel_rfl) ?_
  refine W_seq (by kernel_rfl) ?_
  refine W_run 16 [] [0, 1, 20] [] (fr' := [(0, aI a0), (1, aD (.slice (.pair tI (.pair tI tI))) a1), (20, aB ((((decide (a0 < (0 : Int))) || (decide (a0 > (5 : Int)))) || (decide ((List.length a1 : Int) < (1 : Int)))) || (decide ((List.length a1 : Int) > (40 : Int)))))]) (L' := []) (obs := []) (by kernel_rfl) (by kernel_rfl) (by kernel_rfl) allP0 ?_
  refine seqQ_norm ?_
  refine W_cond (o := .tmp 20) (b := (((decide (a0 < (0 : Int))) || (decide (a0 > (5 : Int)))) || (decide ((List.length a1 : Int) < (1 : Int)))) || (decide ((List.length a1 : Int) > (40 : Int)))) (by kernel_rfl) (by kernel_rfl) (fun h1 => ?_) (fun h1 => ?_)
  · replace h := ofT h1 h
    refine W_seq (by kernel_rfl) ?_
    refine W_run 1 [] [4] [] (fr' := [(4, aI (1 : Int))]) (L' := []) (obs := []) (by kernel_rfl) (by kernel_rfl) (by kernel_rfl) allP0 ?_
    refine seqQ_norm ?_
    obtain rfl := Option.some.inj h
    refine W_ret [4] [] (fr' := [(4, aI (1 : Int))]) (L' := []) (by kernel_rfl) (by kernel_rfl) ?_
    refine seqQ_ret ?_
    exact retQ_mk (by kernel_rfl) (by kernel_rfl) (by kernel_rfl)
  · replace h := ofF h1 h
    refine W_skip [0, 1] [] (fr' := [(0, aI a0), (1, aD (.slice (.pair tI (.pair tI tI))) a1)]) (L' := []) (by kernel_rfl) (by kernel_rfl) ?_
    refine seqQ_norm ?_
    refine W_seq (by kernel_rfl) ?_
    refine W_region (by kernel_rfl) ?_
    refine WO_run (j := 2) (k := 2) (orcs := []) (kF := [21, 22]) (kL := []) (fr' := [(21, aI a0), (22, aD (.slice (.pair tI (.pair tI tI))) a1)]) (L' := []) (obs := []) rfl (by kernel_rfl) allP0 ?_
    obtain ⟨r2, h3, h⟩ := bind_of h
    refine WO_call0 (us := [none, none]) (d := 23) (p := True) (j := 3) rfl ⟨by kernel_rfl, by kernel_rfl, by kernel_rfl⟩ trivial (gate_Wrong_ok h3) (by kernel_rfl) ?_
    refine WO_run (j := 4) (k := 1) (orcs := []) (kF := [4]) (kL := []) (fr' := [(4, aI r2)]) (L' := []) (obs := []) rfl (by kernel_rfl) allP0 ?_
    refine WO_fin [4] [] (fr' := [(4, aI r2)]) (L' := []) (by kernel_rfl) (by kernel_rfl) ?_
    refine seqQ_norm ?_
    obtain rfl := Option.some.inj h
    refine W_ret [4] [] (fr' := [(4, aI r2)]) (L' := []) (by kernel_rfl) (by kernel_rfl) ?_
    exact retQ_mk (by kernel_rfl) (by kernel_rfl) (by kernel_rfl)

def gate_All_g11 (a1 : (List Bool)) (x168 : (List Bool)) (v170 : (Int × (Int × Int))) : Option Bool :=
bif v170.1 == (1 : Int) then
((idx a1 v170.2.1).bind fun v267 =>
some v267)
else
(bif v170.1 == (2 : Int) then
((idx x168 v170.2.1).bind fun v270 =>
some (!v270))
else
(bif v170.1 == (3 : Int) then
((idx x168 v170.2.1).bind fun v273 =>
bif v273 then
((idx x168 v170.2.2).bind fun v276 =>
some v276)
else
(some false))
else
(bif v170.1 == (4 : Int) then
((idx x168 v170.2.1).bind fun v279 =>
bif v279 then
(some true)
else
((idx x168 v170.2.2).bind fun v282 =>
some v282))
else
(some false))))
@[reducible] def gate_All_s12 (a0 : (List (Int × (Int × Int)))) (a1 : (List Bool)) (i167 : Int) (x168 : (List Bool)) (v : Bool) : Fr × LL := ([(1, aD (.slice .bool) a1), (5, .one (.slc 63)), (8, aB v), (9, aD (.slice (.pair tI (.pair tI tI))) a0), (10, aI (List.length a0 : Int)), (11, aI i167)], [(63, .seq .bool x168)])
def gate_All_b13 (a1 : (List Bool)) (i167 : Int) (v170 : (Int × (Int × Int))) (x168 : (List Bool)) : Option (Flow (List Bool) (List Bool)) :=
(gate_All_g11 a1 x168 v170).bind fun v284 =>
(ck ((List.length x168 : Int) + 1 ≤ 4294967296)).bind fun _ =>
some (.next (x168 ++ [v284]))
@[reducible] def gate_All_s14 (a0 : (List (Int × (Int × Int)))) (a1 : (List Bool)) (v : Int × (List Bool)) : Fr × LL := ([(1, aD (.slice .bool) a1), (5, .one (.slc 63)), (9, aD (.slice (.pair tI (.pair tI tI))) a0), (10, aI (List.length a0 : Int)), (11, aI v.1)], [(63, .seq .bool v.2)])
@[reducible] def gate_All_s15 (v : (List Bool)) : Fr × LL := ([(5, .one (.slc 63))], [(63, .seq .bool v)])
def gate_All (a0 : (List (Int × (Int × Int)))) (a1 : (List Bool)) : Option (List Bool) :=
(forL (gate_All_b13 a1) (fun x168 => x168) a0 0 []).bind fun v288 =>
some v288
theorem gate_All_ok {a0 : (List (Int × (Int × Int)))} {a1 : (List Bool)} {r : (List Bool)} (h : gate_All a0 a1 = some r) : FnC Try.prog 36 [aD (.slice (.pair tI (.pair tI tI))) a0, aD (.slice .bool) a1] [] (aD (.slice .bool) r) [] := by
  refine fnC_of_W (B := bodyOf Try.f36) (n := 66) Try.func36 (by kernel_rfl) (by kernel_rfl) (by kernel_rfl) (by kernel_rfl) (by kernel_rfl) ?_
  intro K
  refine W_seq (by kernel_rfl) ?_
  refine W_run 1 [] [0, 1] [] (fr' := [(0, aD (.slice (.pair tI (.pair tI tI))) a0), (1, aD (.slice .bool) a1)]) (L' := []) (obs := []) (by kernel_rfl) (by kernel_rfl) (by kernel_rfl) allP0 ?_
  refine seqQ_norm ?_
  refine W_seq (by kernel_rfl) ?_
  refine W_run 1 [] [0, 1, 5] [] (fr' := [(0, aD (.slice (.pair tI (.pair tI tI))) a0), (1, aD (.slice .bool) a1), (5, .one (.nilS))]) (L' := []) (obs := []) (by kernel_rfl) (by kernel_rfl) (by kernel_rfl) allP0 ?_
  refine seqQ_norm ?_
  refine W_seq (by kernel_rfl) ?_
  refine W_seq (by kernel_rfl) ?_
  refine W_run 3 [] [1, 5, 9, 10, 11] [] (fr' := [(1, aD (.slice .bool) a1), (5, .one (.nilS)), (9, aD (.slice (.pair tI (.pair tI tI))) a0), (10, aI (List.length a0 : Int)), (11, aI (0 : Int))]) (L' := []) (obs := []) (by kernel_rfl) (by kernel_rfl) (by kernel_rfl) allP0 ?_
  refine seqQ_norm ?_
  refine W_block (id := 0) (by kernel_rfl) ?_
  obtain ⟨v288, h289, h⟩ := bind_of h
  refine W_len (t := 9) (u := (.pair tI (.pair tI tI))) (xs := a0) (by kernel_rfl) (fun h292 => ?_)
  obtain ⟨h290, h291⟩ := forL_iter h292 h289
  refine W_mine 5 63 .bool (by kernel_rfl) ?_
  refine W_weaken [1, 5, 9, 10, 11] [63] (fr' := ((gate_All_s14 a0 a1) ((0 : Int), [])).1) (L' := ((gate_All_s14 a0 a1) ((0 : Int), [])).2) (by kernel_rfl) ?_
  refine W_cutK (W_loop (S := (gate_All_s14 a0 a1)) (J := (exQ (.exit 0) gate_All_s15)) (by kernel_rfl) ?_ h290 _ v288 h291) ?_
  · rintro ⟨i167, x168⟩ s h
    refine W_seq (by kernel_rfl) ?_
    refine W_run 1 [] [1, 5, 9, 10, 11, 12] [63] (fr' := [(1, aD (.slice .bool) a1), (5, .one (.slc 63)), (9, aD (.slice (.pair tI (.pair tI tI))) a0), (10, aI (List.length a0 : Int)), (11, aI i167), (12, aB (decide (i167 < (List.length a0 : Int))))]) (L' := [(63, .seq .bool x168)]) (obs := []) (by kernel_rfl) (by kernel_rfl) (by kernel_rfl) allP0 ?_
    refine seqQ_norm ?_
    refine W_seq (by kernel_rfl) ?_
    refine W_cond (o := .tmp 12) (b := decide (i167 < (List.length a0 : Int))) (by kernel_rfl) (by kernel_rfl) (fun h172 => ?_) (fun h172 => ?_)
    · replace h := stepL_true h172 h
      obtain ⟨v170, _, h171, h, rfl⟩ := h
      refine W_skip [1, 5, 9, 10, 11] [63] (fr' := [(1, aD (.slice .bool) a1), (5, .one (.slc 63)), (9, aD (.slice (.pair tI (.pair tI tI))) a0), (10, aI (List.length a0 : Int)), (11, aI i167)]) (L' := [(63, .seq .bool x168)]) (by kernel_rfl) (by kernel_rfl) ?_
      refine seqQ_norm ?_
      refine W_seq (by kernel_rfl) ?_
      refine W_block (id := 1) (by kernel_rfl) ?_
      refine W_seq (by kernel_rfl) ?_
      refine W_run 4 [(1, .val (.dat (.pair tI (.pair tI tI)) v170)), (5, .typed)] [1, 5, 7, 9, 10, 11] [63, 7] (fr' := [(1, aD (.slice .bool) a1), (5, .one (.slc 63)), (7, .one (.ptr 7 0)), (9, aD (.slice (.pair tI (.pair tI tI))) a0), (10, aI (List.length a0 : Int)), (11, aI i167)]) (L' := [(63, .seq .bool x168), (7, .one (.pair tI (.pair tI tI)) v170)]) (obs := [Idx a0 i167 v170, True]) (by kernel_rfl) (by kernel_rfl) (by kernel_rfl) (allP2 (Idx.of h171) (allP1 trivial)) ?_
      refine seqQ_norm ?_
      refine W_seq (by kernel_rfl) ?_
      refine W_run 1 [] [1, 5, 7, 8, 9, 10, 11] [63, 7] (fr' := [(1, aD (.slice .bool) a1), (5, .one (.slc 63)), (7, .one (.ptr 7 0)), (8, aB false), (9, aD (.slice (.pair tI (.pair tI tI))) a0), (10, aI (List.length a0 : Int)), (11, aI i167)]) (L' := [(63, .seq .bool x168), (7, .one (.pair tI (.pair tI tI)) v170)]) (obs := []) (by kernel_rfl) (by kernel_rfl) (by kernel_rfl) allP0 ?_
      refine seqQ_norm ?_
      refine W_seq (by kernel_rfl) ?_
      obtain ⟨v284, h285, h⟩ := bind_of h
      refine W_cutK (Q' := (exQ .normal (gate_All_s12 a0 a1 i167 x168)) v284) ?_ ?_
      · replace h := h285
        refine W_seq (by kernel_rfl) ?_
        refine W_run 2 [] [1, 5, 7, 8, 9, 10, 11, 16] [63, 7] (fr' := [(1, aD (.slice .bool) a1), (5, .one (.slc 63)), (7, .one (.ptr 7 0)), (8, aB false), (9, aD (.slice (.pair tI (.pair tI tI))) a0), (10, aI (List.length a0 : Int)), (11, aI i167), (16, aI v170.1)]) (L' := [(63, .seq .bool x168), (7, .one (.pair tI (.pair tI tI)) v170)]) (obs := []) (by kernel_rfl) (by kernel_rfl) (by kernel_rfl) allP0 ?_
        refine seqQ_norm ?_
        refine W_block (id := 2) (by kernel_rfl) ?_
        refine W_seq (by kernel_rfl) ?_
        refine W_run 2 [] [1, 5, 7, 8, 9, 10, 11, 16, 17] [63, 7] (fr' := [(1, aD (.slice .bool) a1), (5, .one (.slc 63)), (7, .one (.ptr 7 0)), (8, aB false), (9, aD (.slice (.pair tI (.pair tI tI))) a0), (10, aI (List.length a0 : Int)), (11, aI i167), (16, aI v170.1), (17, aB (v170.1 == (1 : Int)))]) (L' := [(63, .seq .bool x168), (7, .one (.pair tI (.pair tI tI)) v170)]) (obs := []) (by kernel_rfl) (by kernel_rfl) (by kernel_rfl) allP0 ?_
        refine seqQ_norm ?_
        refine W_cond (o := .tmp 17) (b := v170.1 == (1 : Int)) (by kernel_rfl) (by kernel_rfl) (fun h266 => ?_) (fun h266 => ?_)
        · replace h := ofT h266 h
          obtain ⟨v267, h268, h⟩ := bind_of h
          obtain rfl := Option.some.inj h
          refine W_run 6 [(7, .val (.dat .bool v267))] [1, 5, 8, 9, 10, 11] [63] (fr' := [(1, aD (.slice .bool) a1), (5, .one (.slc 63)), (8, aB v267), (9, aD (.slice (.pair tI (.pair tI tI))) a0), (10, aI (List.length a0 : Int)), (11, aI i167)]) (L' := [(63, .seq .bool x168)]) (obs := [Idx a1 v170.2.1 v267]) (by kernel_rfl) (by kernel_rfl) (by kernel_rfl) (allP1 (Idx.of h268)) ?_
          refine blockQ_norm ?_
          exact exQ_mk (by kernel_rfl) (by kernel_rfl)
        · replace h := ofF h266 h
          refine W_seq (by kernel_rfl) ?_
          refine W_run 2 [] [1, 5, 7, 8, 9, 10, 11, 16, 24] [63, 7] (fr' := [(1, aD (.slice .bool) a1), (5, .one (.slc 63)), (7, .one (.ptr 7 0)), (8, aB false), (9, aD (.slice (.pair tI (.pair tI tI))) a0), (10, aI (List.length a0 : Int)), (11, aI i167), (16, aI v170.1), (24, aB (v170.1 == (2 : Int)))]) (L' := [(63, .seq .bool x168), (7, .one (.pair tI (.pair tI tI)) v170)]) (obs := []) (by kernel_rfl) (by kernel_rfl) (by kernel_rfl) allP0 ?_
          refine seqQ_norm ?_
          refine W_cond (o := .tmp 24) (b := v170.1 == (2 : Int)) (by kernel_rfl) (by kernel_rfl) (fun h269 => ?_) (fun h269 => ?_)
          · replace h := ofT h269 h
            obtain ⟨v270, h271, h⟩ := bind_of h
            obtain rfl := Option.some.inj h
            refine W_run 7 [(9, .val (.dat .bool v270))] [1, 5, 8, 9, 10, 11] [63] (fr' := [(1, aD (.slice .bool) a1), (5, .one (.slc 63)), (8, aB (!v270)), (9, aD (.slice (.pair tI (.pair tI tI))) a0), (10, aI (List.length a0 : Int)), (11, aI i167)]) (L' := [(63, .seq .bool x168)]) (obs := [InR v170.2.1 (List.length x168), Idx x168 v170.2.1 v270]) (by kernel_rfl) (by kernel_rfl) (by kernel_rfl) (allP2 (InR.of h271) (allP1 (Idx.of h271))) ?_
            refine blockQ_norm ?_
            exact exQ_mk (by kernel_rfl) (by kernel_rfl)
          · replace h := ofF h269 h
            refine W_seq (by kernel_rfl) ?_
            refine W_run 2 [] [1, 5, 7, 8, 9, 10, 11, 16, 32] [63, 7] (fr' := [(1, aD (.slice .bool) a1), (5, .one (.slc 63)), (7, .one (.ptr 7 0)), (8, aB false), (9, aD (.slice (.pair tI (.pair tI tI))) a0), (10, aI (List.length a0 : Int)), (11, aI i167), (16, aI v170.1), (32, aB (v170.1 == (3 : Int)))]) (L' := [(63, .seq .bool x168), (7, .one (.pair tI (.pair tI tI)) v170)]) (obs := []) (by kernel_rfl) (by kernel_rfl) (by kernel_rfl) allP0 ?_
            refine seqQ_norm ?_
            refine W_cond (o := .tmp 32) (b := v170.1 == (3 : Int)) (by kernel_rfl) (by kernel_rfl) (fun h272 => ?_) (fun h272 => ?_)
            · replace h := ofT h272 h
              obtain ⟨v273, h274, h⟩ := bind_of h
              refine W_region (by kernel_rfl) ?_
              refine WO_run (j := 6) (k := 6) (orcs := [(9, .val (.dat .bool v273))]) (kF := [1, 5, 7, 8, 9, 10, 11, 39]) (kL := [7, 63]) (fr' := [(1, aD (.slice .bool) a1), (5, .one (.slc 63)), (7, .one (.ptr 7 0)), (8, aB false), (9, aD (.slice (.pair tI (.pair tI tI))) a0), (10, aI (List.length a0 : Int)), (11, aI i167), (39, aB v273)]) (L' := [(7, .one (.pair tI (.pair tI tI)) v170), (63, .seq .bool x168)]) (obs := [InR v170.2.1 (List.length x168), Idx x168 v170.2.1 v273]) rfl (by kernel_rfl) (allP2 (InR.of h274) (allP1 (Idx.of h274))) ?_
              rcases Bool.eq_false_or_eq_true (v273) with h275 | h275
              · replace h := ofT h275 h
                obtain ⟨v276, h277, h⟩ := bind_of h
                refine WO_run (j := 13) (k := 7) (orcs := [(12, .known true), (14, .known true), (16, .known true), (18, .known true), (20, .known true), (21, .val (.dat .bool v276)), (23, .val (.dat .bool true))]) (kF := [1, 5, 8, 9, 10, 11]) (kL := [7, 63]) (fr' := [(1, aD (.slice .bool) a1), (5, .one (.slc 63)), (8, aB v276), (9, aD (.slice (.pair tI (.pair tI tI))) a0), (10, aI (List.length a0 : Int)), (11, aI i167)]) (L' := [(7, .one (.pair tI (.pair tI tI)) v170), (63, .seq .bool x168)]) (obs := [(v273 = true), (v273 = true), (v273 = true), (v273 = true), InR v170.2.2 (List.length x168), (v273 = true), Idx x168 v170.2.2 v276, (v273 = true)]) rfl (by kernel_rfl) (allP2 h275 (allP2 h275 (allP2 h275 (allP2 h275 (allP2 (InR.of h277) (allP2 h275 (allP2 (Idx.of h277) (allP1 h275)))))))) ?_
                obtain rfl := Option.some.inj h
                refine WO_fin [1, 5, 8, 9, 10, 11] [63] (fr' := [(1, aD (.slice .bool) a1), (5, .one (.slc 63)), (8, aB v276), (9, aD (.slice (.pair tI (.pair tI tI))) a0), (10, aI (List.length a0 : Int)), (11, aI i167)]) (L' := [(63, .seq .bool x168)]) (by kernel_rfl) (by kernel_rfl) ?_
                refine blockQ_norm ?_
                exact exQ_mk (by kernel_rfl) (by kernel_rfl)
              · replace h := ofF h275 h
                refine WO_run (j := 13) (k := 7) (orcs := [(12, .known false), (14, .known false), (16, .known false), (18, .known false), (20, .known false), (23, .val (.dat .bool false))]) (kF := [1, 5, 8, 9, 10, 11]) (kL := [7, 63]) (fr' := [(1, aD (.slice .bool) a1), (5, .one (.slc 63)), (8, aB false), (9, aD (.slice (.pair tI (.pair tI tI))) a0), (10, aI (List.length a0 : Int)), (11, aI i167)]) (L' := [(7, .one (.pair tI (.pair tI tI)) v170), (63, .seq .bool x168)]) (obs := [(v273 = false), (v273 = false), (v273 = false), (v273 = false), (v273 = false), (v273 = false)]) rfl (by kernel_rfl) (allP2 h275 (allP2 h275 (allP2 h275 (allP2 h275 (allP2 h275 (allP1 h275)))))) ?_
                obtain rfl := Option.some.inj h
                refine WO_fin [1, 5, 8, 9, 10, 11] [63] (fr' := [(1, aD (.slice .bool) a1), (5, .one (.slc 63)), (8, aB false), (9, aD (.slice (.pair tI (.pair tI tI))) a0), (10, aI (List.length a0 : Int)), (11, aI i167)]) (L' := [(63, .seq .bool x168)]) (by kernel_rfl) (by kernel_rfl) ?_
                refine blockQ_norm ?_
                exact exQ_mk (by kernel_rfl) (by kernel_rfl)
            · replace h := ofF h272 h
              refine W_seq (by kernel_rfl) ?_
              refine W_run 2 [] [1, 5, 7, 8, 9, 10, 11, 46] [63, 7] (fr' := [(1, aD (.slice .bool) a1), (5, .one (.slc 63)), (7, .one (.ptr 7 0)), (8, aB false), (9, aD (.slice (.pair tI (.pair tI tI))) a0), (10, aI (List.length a0 : Int)), (11, aI i167), (46, aB (v170.1 == (4 : Int)))]) (L' := [(63, .seq .bool x168), (7, .one (.pair tI (.pair tI tI)) v170)]) (obs := []) (by kernel_rfl) (by kernel_rfl) (by kernel_rfl) allP0 ?_
              refine seqQ_norm ?_
              refine W_cond (o := .tmp 46) (b := v170.1 == (4 : Int)) (by kernel_rfl) (by kernel_rfl) (fun h278 => ?_) (fun h278 => ?_)
              · replace h := ofT h278 h
                obtain ⟨v279, h280, h⟩ := bind_of h
                refine W_region (by kernel_rfl) ?_
                refine WO_run (j := 6) (k := 6) (orcs := [(9, .val (.dat .bool v279))]) (kF := [1, 5, 7, 8, 9, 10, 11, 53]) (kL := [7, 63]) (fr' := [(1, aD (.slice .bool) a1), (5, .one (.slc 63)), (7, .one (.ptr 7 0)), (8, aB false), (9, aD (.slice (.pair tI (.pair tI tI))) a0), (10, aI (List.length a0 : Int)), (11, aI i167), (53, aB v279)]) (L' := [(7, .one (.pair tI (.pair tI tI)) v170), (63, .seq .bool x168)]) (obs := [InR v170.2.1 (List.length x168), Idx x168 v170.2.1 v279]) rfl (by kernel_rfl) (allP2 (InR.of h280) (allP1 (Idx.of h280))) ?_
                rcases Bool.eq_false_or_eq_true (v279) with h281 | h281
                · replace h := ofT h281 h
                  refine WO_run (j := 13) (k := 7) (orcs := [(12, .known true), (14, .known true), (16, .known true), (18, .known true), (20, .known true), (23, .val (.dat .bool true))]) (kF := [1, 5, 8, 9, 10, 11]) (kL := [7, 63]) (fr' := [(1, aD (.slice .bool) a1), (5, .one (.slc 63)), (8, aB true), (9, aD (.slice (.pair tI (.pair tI tI))) a0), (10, aI (List.length a0 : Int)), (11, aI i167)]) (L' := [(7, .one (.pair tI (.pair tI tI)) v170), (63, .seq .bool x168)]) (obs := [(v279 = true), (v279 = true), (v279 = true), (v279 = true), (v279 = true), (v279 = true)]) rfl (by kernel_rfl) (allP2 h281 (allP2 h281 (allP2 h281 (allP2 h281 (allP2 h281 (allP1 h281)))))) ?_
                  obtain rfl := Option.some.inj h
                  refine WO_fin [1, 5, 8, 9, 10, 11] [63] (fr' := [(1, aD (.slice .bool) a1), (5, .one (.slc 63)), (8, aB true), (9, aD (.slice (.pair tI (.pair tI tI))) a0), (10, aI (List.length a0 : Int)), (11, aI i167)]) (L' := [(63, .seq .bool x168)]) (by kernel_rfl) (by kernel_rfl) ?_
                  refine blockQ_norm ?_
                  exact exQ_mk (by kernel_rfl) (by kernel_rfl)
                · replace h := ofF h281 h
                  obtain ⟨v282, h283, h⟩ := bind_of h
                  refine WO_run (j := 13) (k := 7) (orcs := [(12, .known false), (14, .known false), (16, .known false), (18, .known false), (20, .known false), (21, .val (.dat .bool v282)), (23, .val (.dat .bool false))]) (kF := [1, 5, 8, 9, 10, 11]) (kL := [7, 63]) (fr' := [(1, aD (.slice .bool) a1), (5, .one (.slc 63)), (8, aB v282), (9, aD (.slice (.pair tI (.pair tI tI))) a0), (10, aI (List.length a0 : Int)), (11, aI i167)]) (L' := [(7, .one (.pair tI (.pair tI tI)) v170), (63, .seq .bool x168)]) (obs := [(v279 = false), (v279 = false), (v279 = false), (v279 = false), InR v170.2.2 (List.length x168), (v279 = false), Idx x168 v170.2.2 v282, (v279 = false)]) rfl (by kernel_rfl) (allP2 h281 (allP2 h281 (allP2 h281 (allP2 h281 (allP2 (InR.of h283) (allP2 h281 (allP2 (Idx.of h283) (allP1 h281)))))))) ?_
                  obtain rfl := Option.some.inj h
                  refine WO_fin [1, 5, 8, 9, 10, 11] [63] (fr' := [(1, aD (.slice .bool) a1), (5, .one (.slc 63)), (8, aB v282), (9, aD (.slice (.pair tI (.pair tI tI))) a0), (10, aI (List.length a0 : Int)), (11, aI i167)]) (L' := [(63, .seq .bool x168)]) (by kernel_rfl) (by kernel_rfl) ?_
                  refine blockQ_norm ?_
                  exact exQ_mk (by kernel_rfl) (by kernel_rfl)
              · replace h := ofF h278 h
                obtain rfl := Option.some.inj h
                refine W_skip [1, 5, 8, 9, 10, 11] [63] (fr' := [(1, aD (.slice .bool) a1), (5, .one (.slc 63)), (8, aB false), (9, aD (.slice (.pair tI (.pair tI tI))) a0), (10, aI (List.length a0 : Int)), (11, aI i167)]) (L' := [(63, .seq .bool x168)]) (by kernel_rfl) (by kernel_rfl) ?_
                refine blockQ_norm ?_
                exact exQ_mk (by kernel_rfl) (by kernel_rfl)
      · intro e fr L hJ
        obtain ⟨rfl, rfl, rfl⟩ := hJ
        refine LT_keep [1, 5, 8, 9, 10, 11] [63] (fr' := [(1, aD (.slice .bool) a1), (5, .one (.slc 63)), (8, aB v284), (9, aD (.slice (.pair tI (.pair tI tI))) a0), (10, aI (List.length a0 : Int)), (11, aI i167)]) (L' := [(63, .seq .bool x168)]) (by kernel_rfl) ?_
        refine seqQ_norm ?_
        obtain ⟨_, h286, h⟩ := bind_of h
        replace h286 := ck_some h286
        refine W_run 5 [] [1, 5, 9, 10, 11] [63] (fr' := [(1, aD (.slice .bool) a1), (5, .one (.slc 63)), (9, aD (.slice (.pair tI (.pair tI tI))) a0), (10, aI (List.length a0 : Int)), (11, aI i167)]) (L' := [(63, .seq .bool (x168 ++ [v284]))]) (obs := [SmallLen (List.length x168 + List.length [v284])]) (by kernel_rfl) (by kernel_rfl) (by kernel_rfl) (allP1 h286) ?_
        refine blockQ_norm ?_
        refine seqQ_norm ?_
        obtain rfl := Option.some.inj h
        refine W_run 2 [] [1, 5, 9, 10, 11] [63] (fr' := [(1, aD (.slice .bool) a1), (5, .one (.slc 63)), (9, aD (.slice (.pair tI (.pair tI tI))) a0), (10, aI (List.length a0 : Int)), (11, aI (w64 (i167 + (1 : Int))))]) (L' := [(63, .seq .bool (x168 ++ [v284]))]) (obs := []) (by kernel_rfl) (by kernel_rfl) (by kernel_rfl) allP0 ?_
        exact round_next' (by kernel_rfl) (by kernel_rfl)
    · obtain rfl := stepL_false h172 h
      refine W_exit (id := 0) [5] [63] (fr' := [(5, .one (.slc 63))]) (L' := [(63, .seq .bool x168)]) (by kernel_rfl) (by kernel_rfl) ?_
      refine seqQ_exit ?_
      refine round_exit ?_
      exact exQ_mk (by kernel_rfl) (by kernel_rfl)
  · intro e fr L hJ
    obtain ⟨rfl, rfl, rfl⟩ := hJ
    refine LT_keep [5] [63] (fr' := [(5, .one (.slc 63))]) (L' := [(63, .seq .bool v288)]) (by kernel_rfl) ?_
    refine blockQ_hit ?_
    refine seqQ_norm ?_
    refine W_seq (by kernel_rfl) ?_
    refine W_run 2 [] [4] [63] (fr' := [(4, .one (.slc 63))]) (L' := [(63, .seq .bool v288)]) (obs := []) (by kernel_rfl) (by kernel_rfl) (by kernel_rfl) allP0 ?_
    refine seqQ_norm ?_
    obtain rfl := Option.some.inj h
    refine W_frz 63 (by kernel_rfl) ?_
    refine W_ret [4] [] (fr' := [(4, aD (.slice .bool) v288)]) (L' := []) (by kernel_rfl) (by kernel_rfl) ?_
    exact retQ_mk (by kernel_rfl) (by kernel_rfl) (by kernel_rfl)

def gate_Value (a0 : Int) (a1 : (List (Int × (Int × Int)))) (a2 : (List Bool)) : Option (Bool × Int) :=
(gate_Check a0 a1).bind fun r1 =>
bif r1 != (0 : Int) then
(some (false, r1))
else
(bif (List.length a2 : Int) != a0 then
(some (false, (3 : Int)))
else
((gate_All a1 a2).bind fun r5 =>
(idx r5 (w64 ((List.length a1 : Int) - (1 : Int)))).bind fun v7 =>
some (v7, (0 : Int))))
theorem gate_Value_ok {a0 : Int} {a1 : (List (Int × (Int × Int)))} {a2 : (List Bool)} {r : (Bool × Int)} (h : gate_Value a0 a1 a2 = some r) : FnC Try.prog 17 [aI a0, aD (.slice (.pair tI (.pair tI tI))) a1, aD (.slice .bool) a2] [] (.tup [.dat .bool r.1, .dat tI r.2]) [] := by
  refine fnC_of_W (B := bodyOf Try.f17) (n := 27) Try.func17 (by kernel_rfl) (by kernel_rfl) (by kernel_rfl) (by kernel_rfl) (by kernel_rfl) ?_
  intro K
  refine W_seq (by kernel_rfl) ?_
  refine W_run 2 [] [0, 1, 2] [] (fr' := [(0, aI a0), (1, aD (.slice (.pair tI (.pair tI tI))) a1), (2, aD (.slice .bool) a2)]) (L' := []) (obs := []) (by kernel_rfl) (by kernel_rfl) (by kernel_rfl) allP0 ?_
  refine seqQ_norm ?_
  refine W_seq (by kernel_rfl) ?_
  refine W_seq (by kernel_rfl) ?_
  refine W_region (by kernel_rfl) ?_
  refine WO_run (j := 2) (k := 2) (orcs := []) (kF := [0, 1, 2, 9, 10]) (kL := []) (fr' := [(0, aI a0), (1, aD (.slice (.pair tI (.pair tI tI))) a1), (2, aD (.slice .bool) a2), (9, aI a0), (10, aD (.slice (.pair tI (.pair tI tI))) a1)]) (L' := []) (obs := []) rfl (by kernel_rfl) allP0 ?_
  obtain ⟨r1, h2, h⟩ := bind_of h
  refine WO_call0 (us := [none, none]) (d := 11) (p := True) (j := 3) rfl ⟨by kernel_rfl, by kernel_rfl, by kernel_rfl⟩ trivial (gate_Check_ok h2) (by kernel_rfl) ?_
  refine WO_run (j := 4) (k := 1) (orcs := []) (kF := [0, 1, 2, 8]) (kL := []) (fr' := [(0, aI a0), (1, aD (.slice (.pair tI (.pair tI tI))) a1), (2, aD (.slice .bool) a2), (8, aI r1)]) (L' := []) (obs := []) rfl (by kernel_rfl) allP0 ?_
  refine WO_fin [0, 1, 2, 8] [] (fr' := [(0, aI a0), (1, aD (.slice (.pair tI (.pair tI tI))) a1), (2, aD (.slice .bool) a2), (8, aI r1)]) (L' := []) (by kernel_rfl) (by kernel_rfl) ?_
  refine seqQ_norm ?_
  refine W_seq (by kernel_rfl) ?_
  refine W_run 2 [] [0, 1, 2, 8, 13] [] (fr' := [(0, aI a0), (1, aD (.slice (.pair tI (.pair tI tI))) a1), (2, aD (.slice .bool) a2), (8, aI r1), (13, aB (r1 != (0 : Int)))]) (L' := []) (obs := []) (by kernel_rfl) (by kernel_rfl) (by kernel_rfl) allP0 ?_
  refine seqQ_norm ?_
  refine W_cond (o := .tmp 13) (b := r1 != (0 : Int)) (by kernel_rfl) (by kernel_rfl) (fun h3 => ?_) (fun h3 => ?_)
  · replace h := ofT h3 h
    refine W_seq (by kernel_rfl) ?_
    refine W_run 3 [] [6, 7] [] (fr' := [(6, aB false), (7, aI r1)]) (L' := []) (obs := []) (by kernel_rfl) (by kernel_rfl) (by kernel_rfl) allP0 ?_
    refine seqQ_norm ?_
    obtain rfl := Option.some.inj h
    refine W_ret [6, 7] [] (fr' := [(6, aB false), (7, aI r1)]) (L' := []) (by kernel_rfl) (by kernel_rfl) ?_
    refine seqQ_ret ?_
    exact retQ_mk (by kernel_rfl) (by kernel_rfl) (by kernel_rfl)
  · replace h := ofF h3 h
    refine W_skip [0, 1, 2] [] (fr' := [(0, aI a0), (1, aD (.slice (.pair tI (.pair tI tI))) a1), (2, aD (.slice .bool) a2)]) (L' := []) (by kernel_rfl) (by kernel_rfl) ?_
    refine seqQ_norm ?_
    refine W_seq (by kernel_rfl) ?_
    refine W_seq (by kernel_rfl) ?_
    refine W_run 4 [] [1, 2, 18] [] (fr' := [(1, aD (.slice (.pair tI (.pair tI tI))) a1), (2, aD (.slice .bool) a2), (18, aB ((List.length a2 : Int) != a0))]) (L' := []) (obs := []) (by kernel_rfl) (by kernel_rfl) (by kernel_rfl) allP0 ?_
    refine seqQ_norm ?_
    refine W_cond (o := .tmp 18) (b := (List.length a2 : Int) != a0) (by kernel_rfl) (by kernel_rfl) (fun h4 => ?_) (fun h4 => ?_)
    · replace h := ofT h4 h
      refine W_seq (by kernel_rfl) ?_
      refine W_run 2 [] [6, 7] [] (fr' := [(6, aB false), (7, aI (3 : Int))]) (L' := []) (obs := []) (by kernel_rfl) (by kernel_rfl) (by kernel_rfl) allP0 ?_
      refine seqQ_norm ?_
      obtain rfl := Option.some.inj h
      refine W_ret [6, 7] [] (fr' := [(6, aB false), (7, aI (3 : Int))]) (L' := []) (by kernel_rfl) (by kernel_rfl) ?_
      refine seqQ_ret ?_
      exact retQ_mk (by kernel_rfl) (by kernel_rfl) (by kernel_rfl)
    · replace h := ofF h4 h
      refine W_skip [1, 2] [] (fr' := [(1, aD (.slice (.pair tI (.pair tI tI))) a1), (2, aD (.slice .bool) a2)]) (L' := []) (by kernel_rfl) (by kernel_rfl) ?_
      refine seqQ_norm ?_
      refine W_seq (by kernel_rfl) ?_
      refine W_region (by kernel_rfl) ?_
      refine WO_run (j := 2) (k := 2) (orcs := []) (kF := [1, 19, 20]) (kL := []) (fr' := [(1, aD (.slice (.pair tI (.pair tI tI))) a1), (19, aD (.slice (.pair tI (.pair tI tI))) a1), (20, aD (.slice .bool) a2)]) (L' := []) (obs := []) rfl (by kernel_rfl) allP0 ?_
      obtain ⟨r5, h6, h⟩ := bind_of h
      refine WO_call0 (us := [none, none]) (d := 21) (p := True) (j := 3) rfl ⟨by kernel_rfl, by kernel_rfl, by kernel_rfl⟩ trivial (gate_All_ok h6) (by kernel_rfl) ?_
      obtain ⟨v7, h8, h⟩ := bind_of h
      refine WO_run (j := 10) (k := 7) (orcs := [(13, .val (.dat .bool v7))]) (kF := [6, 7]) (kL := []) (fr' := [(6, aB v7), (7, aI (0 : Int))]) (L' := []) (obs := [Idx r5 (w64 ((List.length a1 : Int) - (1 : Int))) v7]) rfl (by kernel_rfl) (allP1 (Idx.of h8)) ?_
      refine WO_fin [6, 7] [] (fr' := [(6, aB v7), (7, aI (0 : Int))]) (L' := []) (by kernel_rfl) (by kernel_rfl) ?_
      refine seqQ_norm ?_
      obtain rfl := Option.some.inj h
      refine W_ret [6, 7] [] (fr' := [(6, aB v7), (7, aI (0 : Int))]) (L' := []) (by kernel_rfl) (by kernel_rfl) ?_
      exact retQ_mk (by kernel_rfl) (by kernel_rfl) (by kernel_rfl)

def ref_Within (a0 : Int) (a1 : Int) (a2 : Int) : Option Bool :=
some ((decide (a0 ≤ a1)) && (decide (a1 ≤ a2)))
theorem ref_Within_ok {a0 : Int} {a1 : Int} {a2 : Int} {r : Bool} (h : ref_Within a0 a1 a2 = some r) : FnC Try.prog 23 [aI a0, aI a1, aI a2] [] (aB r) [] := by
  refine fnC_of_W (B := bodyOf Try.f23) (n := 15) Try.func23 (by kernel_rfl) (by kernel_rfl) (by kernel_rfl) (by kernel_rfl) (by kernel_rfl) ?_
  intro K
  refine W_seq (by kernel_rfl) ?_
  refine W_run 1 [] [0, 1, 2] [] (fr' := [(0, aI a0), (1, aI a1), (2, aI a2)]) (L' := []) (obs := []) (by kernel_rfl) (by kernel_rfl) (by kernel_rfl) allP0 ?_
  refine seqQ_norm ?_
  refine W_seq (by kernel_rfl) ?_
  refine W_run 9 [] [6] [] (fr' := [(6, aB ((decide (a0 ≤ a1)) && (decide (a1 ≤ a2))))]) (L' := []) (obs := []) (by kernel_rfl) (by kernel_rfl) (by kernel_rfl) allP0 ?_
  refine seqQ_norm ?_
  obtain rfl := Option.some.inj h
  refine W_ret [6] [] (fr' := [(6, aB ((decide (a0 ≤ a1)) && (decide (a1 ≤ a2))))]) (L' := []) (by kernel_rfl) (by kernel_rfl) ?_
  exact retQ_mk (by kernel_rfl) (by kernel_rfl) (by kernel_rfl)

def ref_Inside_b1 (a0 : Int) (i11 : Int) (v14 : Int) (x12 : Unit) : Option (Flow Unit (Esc Bool Unit)) :=
bif (decide (v14 < (0 : Int))) || (decide (v14 ≥ a0)) then
(some (.done (.ret false)))
else
(some (.next ()))
@[reducible] def ref_Inside_s2 (a0 : Int) (a1 : (List Int)) (v : Int × Unit) : Fr × LL := ([(0, aI a0), (7, aD (.slice tI) a1), (8, aI (List.length a1 : Int)), (9, aI v.1)], [])
@[reducible] def ref_Inside_s3 (v : Bool) : Fr × LL := ([(4, aB v)], [])
@[reducible] def ref_Inside_s4 (v : Unit) : Fr × LL := ([], [])
def ref_Inside (a0 : Int) (a1 : (List Int)) : Option Bool :=
(forL (ref_Inside_b1 a0) (fun x12 => (.brk ())) a1 0 ()).bind fun v19 =>
match v19 with
| .ret v24 =>
(some v24)
| .brk v25 =>
(some true)
theorem ref_Inside_ok {a0 : Int} {a1 : (List Int)} {r : Bool} (h : ref_Inside a0 a1 = some r) : FnC Try.prog 40 [aI a0, aD (.slice tI) a1] [] (aB r) [] := by
  refine fnC_of_W (B := bodyOf Try.f40) (n := 21) Try.func40 (by kernel_rfl) (by kernel_rfl) (by kernel_rfl) (by kernel_rfl) (by kernel_rfl) ?_
  intro K
  refine W_seq (by kernel_rfl) ?_
  refine W_run 1 [] [0, 1] [] (fr' := [(0, aI a0), (1, aD (.slice tI) a1)]) (L' := []) (obs := []) (by kernel_rfl) (by kernel_rfl) (by kernel_rfl) allP0 ?_
  refine seqQ_norm ?_
  refine W_seq (by kernel_rfl) ?_
  refine W_seq (by kernel_rfl) ?_
  refine W_run 3 [] [0, 7, 8, 9] [] (fr' := [(0, aI a0), (7, aD (.slice tI) a1), (8, aI (List.length a1 : Int)), (9, aI (0 : Int))]) (L' := []) (obs := []) (by kernel_rfl) (by kernel_rfl) (by kernel_rfl) allP0 ?_
  refine seqQ_norm ?_
  refine W_block (id := 0) (by kernel_rfl) ?_
  obtain ⟨v19, h20, h⟩ := bind_of h
  refine W_len (t := 7) (u := tI) (xs := a1) (by kernel_rfl) (fun h23 => ?_)
  obtain ⟨h21, h22⟩ := forL_iter h23 h20
  refine W_weaken [0, 7, 8, 9] [] (fr' := ((ref_Inside_s2 a0 a1) ((0 : Int), ())).1) (L' := ((ref_Inside_s2 a0 a1) ((0 : Int), ())).2) (by kernel_rfl) ?_
  refine W_cutK (W_loop (S := (ref_Inside_s2 a0 a1)) (J := (escQ (exQ .ret ref_Inside_s3) (exQ (.exit 0) ref_Inside_s4))) (by kernel_rfl) ?_ h21 _ v19 h22) ?_
  · rintro ⟨i11, x12⟩ s h
    refine W_seq (by kernel_rfl) ?_
    refine W_run 1 [] [0, 7, 8, 9, 10] [] (fr' := [(0, aI a0), (7, aD (.slice tI) a1), (8, aI (List.length a1 : Int)), (9, aI i11), (10, aB (decide (i11 < (List.length a1 : Int))))]) (L' := []) (obs := []) (by kernel_rfl) (by kernel_rfl) (by kernel_rfl) allP0 ?_
    refine seqQ_norm ?_
    refine W_seq (by kernel_rfl) ?_
    refine W_cond (o := .tmp 10) (b := decide (i11 < (List.length a1 : Int))) (by kernel_rfl) (by kernel_rfl) (fun h16 => ?_) (fun h16 => ?_)
    · replace h := stepL_true h16 h
      obtain ⟨v14, _, h15, h, rfl⟩ := h
      refine W_skip [0, 7, 8, 9] [] (fr' := [(0, aI a0), (7, aD (.slice tI) a1), (8, aI (List.length a1 : Int)), (9, aI i11)]) (L' := []) (by kernel_rfl) (by kernel_rfl) ?_
      refine seqQ_norm ?_
      refine W_seq (by kernel_rfl) ?_
      refine W_block (id := 1) (by kernel_rfl) ?_
      refine W_seq (by kernel_rfl) ?_
      refine W_run 3 [(1, .val (.dat tI v14))] [0, 6, 7, 8, 9] [] (fr' := [(0, aI a0), (6, aI v14), (7, aD (.slice tI) a1), (8, aI (List.length a1 : Int)), (9, aI i11)]) (L' := []) (obs := [Idx a1 i11 v14]) (by kernel_rfl) (by kernel_rfl) (by kernel_rfl) (allP1 (Idx.of h15)) ?_
      refine seqQ_norm ?_
      refine W_seq (by kernel_rfl) ?_
      refine W_run 7 [] [0, 7, 8, 9, 19] [] (fr' := [(0, aI a0), (7, aD (.slice tI) a1), (8, aI (List.length a1 : Int)), (9, aI i11), (19, aB ((decide (v14 < (0 : Int))) || (decide (v14 ≥ a0))))]) (L' := []) (obs := []) (by kernel_rfl) (by kernel_rfl) (by kernel_rfl) allP0 ?_
      refine seqQ_norm ?_
      refine W_cond (o := .tmp 19) (b := (decide (v14 < (0 : Int))) || (decide (v14 ≥ a0))) (by kernel_rfl) (by kernel_rfl) (fun h17 => ?_) (fun h17 => ?_)
      · replace h := ofT h17 h
        refine W_seq (by kernel_rfl) ?_
        refine W_run 1 [] [4] [] (fr' := [(4, aB false)]) (L' := []) (obs := []) (by kernel_rfl) (by kernel_rfl) (by kernel_rfl) allP0 ?_
        refine seqQ_norm ?_
        obtain rfl := Option.some.inj h
        refine W_ret [4] [] (fr' := [(4, aB false)]) (L' := []) (by kernel_rfl) (by kernel_rfl) ?_
        refine blockQ_ret ?_
        refine seqQ_ret ?_
        refine round_ret ?_
        refine escQ_ret ?_
        exact exQ_mk (by kernel_rfl) (by kernel_rfl)
      · replace h := ofF h17 h
        refine W_skip [0, 7, 8, 9] [] (fr' := [(0, aI a0), (7, aD (.slice tI) a1), (8, aI (List.length a1 : Int)), (9, aI i11)]) (L' := []) (by kernel_rfl) (by kernel_rfl) ?_
        refine blockQ_norm ?_
        refine seqQ_norm ?_
        obtain rfl := Option.some.inj h
        refine W_run 2 [] [0, 7, 8, 9] [] (fr' := [(0, aI a0), (7, aD (.slice tI) a1), (8, aI (List.length a1 : Int)), (9, aI (w64 (i11 + (1 : Int))))]) (L' := []) (obs := []) (by kernel_rfl) (by kernel_rfl) (by kernel_rfl) allP0 ?_
        exact round_next' (by kernel_rfl) (by kernel_rfl)
    · obtain rfl := stepL_false h16 h
      refine W_exit (id := 0) [] [] (fr' := []) (L' := []) (by kernel_rfl) (by kernel_rfl) ?_
      refine seqQ_exit ?_
      refine round_exit ?_
      refine escQ_brk ?_
      exact exQ_mk (by kernel_rfl) (by kernel_rfl)
  · intro e fr L hJ
    rcases v19 with v24 | v25
    · obtain ⟨rfl, rfl, rfl⟩ := hJ
      obtain rfl := Option.some.inj h
      refine LT_keep [4] [] (fr' := [(4, aB v24)]) (L' := []) (by kernel_rfl) ?_
      refine blockQ_ret ?_
      refine seqQ_ret ?_
      exact retQ_mk (by kernel_rfl) (by kernel_rfl) (by kernel_rfl)
    · obtain ⟨rfl, rfl, rfl⟩ := hJ
      refine LT_keep [] [] (fr' := []) (L' := []) (by kernel_rfl) ?_
      refine blockQ_hit ?_
      refine seqQ_norm ?_
      refine W_seq (by kernel_rfl) ?_
      refine W_run 1 [] [4] [] (fr' := [(4, aB true)]) (L' := []) (obs := []) (by kernel_rfl) (by kernel_rfl) (by kernel_rfl) allP0 ?_
      refine seqQ_norm ?_
      obtain rfl := Option.some.inj h
      refine W_ret [4] [] (fr' := [(4, aB true)]) (L' := []) (by kernel_rfl) (by kernel_rfl) ?_
      exact retQ_mk (by kernel_rfl) (by kernel_rfl) (by kernel_rfl)

def ref_GatesCheck_g7 (i105 : Int) (v108 : (Int × (Int × Int))) : Option Bool :=
bif v108.1 != (1 : Int) then
((ref_Inside i105 [v108.2.1]).bind fun r147 =>
bif !r147 then
(some true)
else
(bif decide (v108.1 ≥ (3 : Int)) then
((ref_Inside i105 [v108.2.2]).bind fun r151 =>
some (!r151))
else
(some false)))
else
(bif decide (v108.1 ≥ (3 : Int)) then
((ref_Inside i105 [v108.2.2]).bind fun r154 =>
some (!r154))
else
(some false))
@[reducible] def ref_GatesCheck_s8 (a0 : Int) (a1 : (List (Int × (Int × Int)))) (i105 : Int) (v : Bool) : Fr × LL := ([(0, aI a0), (7, aD (.slice (.pair tI (.pair tI tI))) a1), (8, aI (List.length a1 : Int)), (9, aI i105), (52, aB v)], [])
@[reducible] def ref_GatesCheck_s9 (a0 : Int) (a1 : (List (Int × (Int × Int)))) (i105 : Int) (v108 : (Int × (Int × Int))) (v : Bool) : Fr × LL := ([(0, aI a0), (5, aI i105), (6, .one (.ptr 6 0)), (7, aD (.slice (.pair tI (.pair tI tI))) a1), (8, aI (List.length a1 : Int)), (9, aI i105), (28, aB v)], [(6, .one (.pair tI (.pair tI tI)) v108)])
def ref_GatesCheck_b10 (a0 : Int) (i105 : Int) (v108 : (Int × (Int × Int))) (x106 : Unit) : Option (Flow Unit (Esc Int Unit)) :=
(ref_Within (1 : Int) v108.1 (4 : Int)).bind fun r111 =>
bif !r111 then
(some (.done (.ret (6 : Int))))
else
((bif v108.1 == (1 : Int) then
((ref_Inside a0 [v108.2.1]).bind fun r121 =>
some (!r121))
else
(some false)).bind fun v123 =>
bif v123 then
(some (.done (.ret (4 : Int))))
else
((ref_GatesCheck_g7 i105 v108).bind fun v156 =>
bif v156 then
(some (.done (.ret (2 : Int))))
else
(some (.next ()))))
@[reducible] def ref_GatesCheck_s11 (a0 : Int) (a1 : (List (Int × (Int × Int)))) (v : Int × Unit) : Fr × LL := ([(0, aI a0), (7, aD (.slice (.pair tI (.pair tI tI))) a1), (8, aI (List.length a1 : Int)), (9, aI v.1)], [])
@[reducible] def ref_GatesCheck_s12 (v : Int) : Fr × LL := ([(4, aI v)], [])
@[reducible] def ref_GatesCheck_s13 (v : Unit) : Fr × LL := ([], [])
def ref_GatesCheck (a0 : Int) (a1 : (List (Int × (Int × Int)))) : Option Int :=
(forL (ref_GatesCheck_b10 a0) (fun x106 => (.brk ())) a1 0 ()).bind fun v160 =>
match v160 with
| .ret v165 =>
(some v165)
| .brk v166 =>
(some (0 : Int))
theorem ref_GatesCheck_ok {a0 : Int} {a1 : (List (Int × (Int × Int)))} {r : Int} (h : ref_GatesCheck a0 a1 = some r) : FnC Try.prog 21 [aI a0, aD (.slice (.pair tI (.pair tI tI))) a1] [] (aI r) [] := by
  refine fnC_of_W (B := bodyOf Try.f21) (n := 54) Try.func21 (by kernel_rfl) (by kernel_rfl) (by kernel_rfl) (by kernel_rfl) (by kernel_rfl) ?_
  intro K
  refine W_seq (by kernel_rfl) ?_
  refine W_run 1 [] [0, 1] [] (fr' := [(0, aI a0), (1, aD (.slice (.pair tI (.pair tI tI))) a1)]) (L' := []) (obs := []) (by kernel_rfl) (by kernel_rfl) (by kernel_rfl) allP0 ?_
  refine seqQ_norm ?_
  refine W_seq (by kernel_rfl) ?_
  refine W_seq (by kernel_rfl) ?_
  refine W_run 3 [] [0, 7, 8, 9] [] (fr' := [(0, aI a0), (7, aD (.slice (.pair tI (.pair tI tI))) a1), (8, aI (List.length a1 : Int)), (9, aI (0 : Int))]) (L' := []) (obs := []) (by kernel_rfl) (by kernel_rfl) (by kernel_rfl) allP0 ?_
  refine seqQ_norm ?_
  refine W_block (id := 0) (by kernel_rfl) ?_
  obtain ⟨v160, h161, h⟩ := bind_of h
  refine W_len (t := 7) (u := (.pair tI (.pair tI tI))) (xs := a1) (by kernel_rfl) (fun h164 => ?_)
  obtain ⟨h162, h163⟩ := forL_iter h164 h161
  refine W_weaken [0, 7, 8, 9] [] (fr' := ((ref_GatesCheck_s11 a0 a1) ((0 : Int), ())).1) (L' := ((ref_GatesCheck_s11 a0 a1) ((0 : Int), ())).2) (by kernel_rfl) ?_
  refine W_cutK (W_loop (S := (ref_GatesCheck_s11 a0 a1)) (J := (escQ (exQ .ret ref_GatesCheck_s12) (exQ (.exit 0) ref_GatesCheck_s13))) (by kernel_rfl) ?_ h162 _ v160 h163) ?_
  · rintro ⟨i105, x106⟩ s h
    refine W_seq (by kernel_rfl) ?_
    refine W_run 1 [] [0, 7, 8, 9, 10] [] (fr' := [(0, aI a0), (7, aD (.slice (.pair tI (.pair tI tI))) a1), (8, aI (List.length a1 : Int)), (9, aI i105), (10, aB (decide (i105 < (List.length a1 : Int))))]) (L' := []) (obs := []) (by kernel_rfl) (by kernel_rfl) (by kernel_rfl) allP0 ?_
    refine seqQ_norm ?_
    refine W_seq (by kernel_rfl) ?_
    refine W_cond (o := .tmp 10) (b := decide (i105 < (List.length a1 : Int))) (by kernel_rfl) (by kernel_rfl) (fun h110 => ?_) (fun h110 => ?_)
    · replace h := stepL_true h110 h
      obtain ⟨v108, _, h109, h, rfl⟩ := h
      refine W_skip [0, 7, 8, 9] [] (fr' := [(0, aI a0), (7, aD (.slice (.pair tI (.pair tI tI))) a1), (8, aI (List.length a1 : Int)), (9, aI i105)]) (L' := []) (by kernel_rfl) (by kernel_rfl) ?_
      refine seqQ_norm ?_
      refine W_seq (by kernel_rfl) ?_
      refine W_block (id := 1) (by kernel_rfl) ?_
      refine W_seq (by kernel_rfl) ?_
      refine W_run 6 [(3, .val (.dat (.pair tI (.pair tI tI)) v108)), (7, .typed)] [0, 5, 6, 7, 8, 9] [6] (fr' := [(0, aI a0), (5, aI i105), (6, .one (.ptr 6 0)), (7, aD (.slice (.pair tI (.pair tI tI))) a1), (8, aI (List.length a1 : Int)), (9, aI i105)]) (L' := [(6, .one (.pair tI (.pair tI tI)) v108)]) (obs := [Idx a1 i105 v108, True]) (by kernel_rfl) (by kernel_rfl) (by kernel_rfl) (allP2 (Idx.of h109) (allP1 trivial)) ?_
      refine seqQ_norm ?_
      refine W_seq (by kernel_rfl) ?_
      refine W_seq (by kernel_rfl) ?_
      refine W_region (by kernel_rfl) ?_
      refine WO_run (j := 2) (k := 2) (orcs := []) (kF := [0, 5, 6, 7, 8, 9, 15]) (kL := [6]) (fr' := [(0, aI a0), (5, aI i105), (6, .one (.ptr 6 0)), (7, aD (.slice (.pair tI (.pair tI tI))) a1), (8, aI (List.length a1 : Int)), (9, aI i105), (15, aI v108.1)]) (L' := [(6, .one (.pair tI (.pair tI tI)) v108)]) (obs := []) rfl (by kernel_rfl) allP0 ?_
      obtain ⟨r111, h112, h⟩ := bind_of h
      refine WO_call0 (us := [none, none, none]) (d := 16) (p := True) (j := 3) rfl ⟨by kernel_rfl, by kernel_rfl, by kernel_rfl⟩ trivial (ref_Within_ok h112) (by kernel_rfl) ?_
      refine WO_run (j := 4) (k := 1) (orcs := []) (kF := [0, 5, 6, 7, 8, 9, 17]) (kL := [6]) (fr' := [(0, aI a0), (5, aI i105), (6, .one (.ptr 6 0)), (7, aD (.slice (.pair tI (.pair tI tI))) a1), (8, aI (List.length a1 : Int)), (9, aI i105), (17, aB (!r111))]) (L' := [(6, .one (.pair tI (.pair tI tI)) v108)]) (obs := []) rfl (by kernel_rfl) allP0 ?_
      refine WO_fin [0, 5, 6, 7, 8, 9, 17] [6] (fr' := [(0, aI a0), (5, aI i105), (6, .one (.ptr 6 0)), (7, aD (.slice (.pair tI (.pair tI tI))) a1), (8, aI (List.length a1 : Int)), (9, aI i105), (17, aB (!r111))]) (L' := [(6, .one (.pair tI (.pair tI tI)) v108)]) (by kernel_rfl) (by kernel_rfl) ?_
      refine seqQ_norm ?_
      refine W_cond (o := .tmp 17) (b := !r111) (by kernel_rfl) (by kernel_rfl) (fun h113 => ?_) (fun h113 => ?_)
      · replace h := ofT h113 h
        refine W_seq (by kernel_rfl) ?_
        refine W_run 1 [] [4] [] (fr' := [(4, aI (6 : Int))]) (L' := []) (obs := []) (by kernel_rfl) (by kernel_rfl) (by kernel_rfl) allP0 ?_
        refine seqQ_norm ?_
        obtain rfl := Option.some.inj h
        refine W_ret [4] [] (fr' := [(4, aI (6 : Int))]) (L' := []) (by kernel_rfl) (by kernel_rfl) ?_
        refine seqQ_ret ?_
        refine blockQ_ret ?_
        refine seqQ_ret ?_
        refine round_ret ?_
        refine escQ_ret ?_
        exact exQ_mk (by kernel_rfl) (by kernel_rfl)
      · replace h := ofF h113 h
        refine W_skip [0, 5, 6, 7, 8, 9] [6] (fr' := [(0, aI a0), (5, aI i105), (6, .one (.ptr 6 0)), (7, aD (.slice (.pair tI (.pair tI tI))) a1), (8, aI (List.length a1 : Int)), (9, aI i105)]) (L' := [(6, .one (.pair tI (.pair tI tI)) v108)]) (by kernel_rfl) (by kernel_rfl) ?_
        refine seqQ_norm ?_
        refine W_seq (by kernel_rfl) ?_
        refine W_seq (by kernel_rfl) ?_
        obtain ⟨v123, h124, h⟩ := bind_of h
        refine W_cutK (Q' := (exQ .normal (ref_GatesCheck_s9 a0 a1 i105 v108)) v123) ?_ ?_
        · replace h := h124
          refine W_region (by kernel_rfl) ?_
          refine WO_run (j := 4) (k := 4) (orcs := []) (kF := [0, 5, 6, 7, 8, 9, 21]) (kL := [6]) (fr' := [(0, aI a0), (5, aI i105), (6, .one (.ptr 6 0)), (7, aD (.slice (.pair tI (.pair tI tI))) a1), (8, aI (List.length a1 : Int)), (9, aI i105), (21, aB (v108.1 == (1 : Int)))]) (L' := [(6, .one (.pair tI (.pair tI tI)) v108)]) (obs := []) rfl (by kernel_rfl) allP0 ?_
          rcases Bool.eq_false_or_eq_true (v108.1 == (1 : Int)) with h120 | h120
          · replace h := ofT h120 h
            refine WO_run (j := 8) (k := 4) (orcs := [(8, .known true), (10, .known true), (12, .known true), (14, .known true)]) (kF := [0, 5, 6, 7, 8, 9, 21, 22, 25]) (kL := [6, 25]) (fr' := [(0, aI a0), (5, aI i105), (6, .one (.ptr 6 0)), (7, aD (.slice (.pair tI (.pair tI tI))) a1), (8, aI (List.length a1 : Int)), (9, aI i105), (21, aB (v108.1 == (1 : Int))), (22, aI a0), (25, .one (.slc 25))]) (L' := [(6, .one (.pair tI (.pair tI tI)) v108), (25, .seq tI [v108.2.1])]) (obs := [((v108.1 == (1 : Int)) = true), ((v108.1 == (1 : Int)) = true), ((v108.1 == (1 : Int)) = true), ((v108.1 == (1 : Int)) = true)]) rfl (by kernel_rfl) (allP2 h120 (allP2 h120 (allP2 h120 (allP1 h120)))) ?_
            obtain ⟨r121, h122, h⟩ := bind_of h
            refine WO_frz 25 (by kernel_rfl) ?_
            refine WO_call0 (us := [none, none]) (d := 26) (p := ((v108.1 == (1 : Int)) = true)) (j := 9) rfl ⟨by kernel_rfl, by kernel_rfl, by kernel_rfl⟩ h120 (ref_Inside_ok h122) (by kernel_rfl) ?_
            refine WO_run (j := 11) (k := 2) (orcs := [(18, .known true), (21, .val (.dat .bool true))]) (kF := [0, 5, 6, 7, 8, 9, 28]) (kL := [6]) (fr' := [(0, aI a0), (5, aI i105), (6, .one (.ptr 6 0)), (7, aD (.slice (.pair tI (.pair tI tI))) a1), (8, aI (List.length a1 : Int)), (9, aI i105), (28, aB (!r121))]) (L' := [(6, .one (.pair tI (.pair tI tI)) v108)]) (obs := [((v108.1 == (1 : Int)) = true), ((v108.1 == (1 : Int)) = true)]) rfl (by kernel_rfl) (allP2 h120 (allP1 h120)) ?_
            obtain rfl := Option.some.inj h
            refine WO_fin [0, 5, 6, 7, 8, 9, 28] [6] (fr' := [(0, aI a0), (5, aI i105), (6, .one (.ptr 6 0)), (7, aD (.slice (.pair tI (.pair tI tI))) a1), (8, aI (List.length a1 : Int)), (9, aI i105), (28, aB (!r121))]) (L' := [(6, .one (.pair tI (.pair tI tI)) v108)]) (by kernel_rfl) (by kernel_rfl) ?_
            exact exQ_mk (by kernel_rfl) (by kernel_rfl)
          · replace h := ofF h120 h
            refine WO_run (j := 11) (k := 7) (orcs := [(8, .known false), (10, .known false), (12, .known false), (14, .known false), (16, .known false), (18, .known false), (21, .val (.dat .bool false))]) (kF := [0, 5, 6, 7, 8, 9, 28]) (kL := [6]) (fr' := [(0, aI a0), (5, aI i105), (6, .one (.ptr 6 0)), (7, aD (.slice (.pair tI (.pair tI tI))) a1), (8, aI (List.length a1 : Int)), (9, aI i105), (28, aB false)]) (L' := [(6, .one (.pair tI (.pair tI tI)) v108)]) (obs := [((v108.1 == (1 : Int)) = false), ((v108.1 == (1 : Int)) = false), ((v108.1 == (1 : Int)) = false), ((v108.1 == (1 : Int)) = false), ((v108.1 == (1 : Int)) = false), ((v108.1 == (1 : Int)) = false), ((v108.1 == (1 : Int)) = false)]) rfl (by kernel_rfl) (allP2 h120 (allP2 h120 (allP2 h120 (allP2 h120 (allP2 h120 (allP2 h120 (allP1 h120))))))) ?_
            obtain rfl := Option.some.inj h
            refine WO_fin [0, 5, 6, 7, 8, 9, 28] [6] (fr' := [(0, aI a0), (5, aI i105), (6, .one (.ptr 6 0)), (7, aD (.slice (.pair tI (.pair tI tI))) a1), (8, aI (List.length a1 : Int)), (9, aI i105), (28, aB false)]) (L' := [(6, .one (.pair tI (.pair tI tI)) v108)]) (by kernel_rfl) (by kernel_rfl) ?_
            exact exQ_mk (by kernel_rfl) (by kernel_rfl)
        · intro e fr L hJ
          obtain ⟨rfl, rfl, rfl⟩ := hJ
          refine LT_keep [0, 5, 6, 7, 8, 9, 28] [6] (fr' := [(0, aI a0), (5, aI i105), (6, .one (.ptr 6 0)), (7, aD (.slice (.pair tI (.pair tI tI))) a1), (8, aI (List.length a1 : Int)), (9, aI i105), (28, aB v123)]) (L' := [(6, .one (.pair tI (.pair tI tI)) v108)]) (by kernel_rfl) ?_
          refine seqQ_norm ?_
          refine W_cond (o := .tmp 28) (b := v123) (by kernel_rfl) (by kernel_rfl) (fun h125 => ?_) (fun h125 => ?_)
          · replace h := ofT h125 h
            refine W_seq (by kernel_rfl) ?_
            refine W_run 1 [] [4] [] (fr' := [(4, aI (4 : Int))]) (L' := []) (obs := []) (by kernel_rfl) (by kernel_rfl) (by kernel_rfl) allP0 ?_
            refine seqQ_norm ?_
            obtain rfl := Option.some.inj h
            refine W_ret [4] [] (fr' := [(4, aI (4 : Int))]) (L' := []) (by kernel_rfl) (by kernel_rfl) ?_
            refine seqQ_ret ?_
            refine blockQ_ret ?_
            refine seqQ_ret ?_
            refine round_ret ?_
            refine escQ_ret ?_
            exact exQ_mk (by kernel_rfl) (by kernel_rfl)
          · replace h := ofF h125 h
            refine W_skip [0, 5, 6, 7, 8, 9] [6] (fr' := [(0, aI a0), (5, aI i105), (6, .one (.ptr 6 0)), (7, aD (.slice (.pair tI (.pair tI tI))) a1), (8, aI (List.length a1 : Int)), (9, aI i105)]) (L' := [(6, .one (.pair tI (.pair tI tI)) v108)]) (by kernel_rfl) (by kernel_rfl) ?_
            refine seqQ_norm ?_
            refine W_seq (by kernel_rfl) ?_
            obtain ⟨v156, h157, h⟩ := bind_of h
            refine W_cutK (Q' := (exQ .normal (ref_GatesCheck_s8 a0 a1 i105)) v156) ?_ ?_
            · replace h := h157
              refine W_region (by kernel_rfl) ?_
              refine WO_run (j := 4) (k := 4) (orcs := []) (kF := [0, 5, 6, 7, 8, 9, 32]) (kL := [6]) (fr' := [(0, aI a0), (5, aI i105), (6, .one (.ptr 6 0)), (7, aD (.slice (.pair tI (.pair tI tI))) a1), (8, aI (List.length a1 : Int)), (9, aI i105), (32, aB (v108.1 != (1 : Int)))]) (L' := [(6, .one (.pair tI (.pair tI tI)) v108)]) (obs := []) rfl (by kernel_rfl) allP0 ?_
              rcases Bool.eq_false_or_eq_true (v108.1 != (1 : Int)) with h146 | h146
              · replace h := ofT h146 h
                refine WO_run (j := 8) (k := 4) (orcs := [(8, .known true), (10, .known true), (12, .known true), (14, .known true)]) (kF := [0, 5, 6, 7, 8, 9, 32, 33, 36]) (kL := [6, 36]) (fr' := [(0, aI a0), (5, aI i105), (6, .one (.ptr 6 0)), (7, aD (.slice (.pair tI (.pair tI tI))) a1), (8, aI (List.length a1 : Int)), (9, aI i105), (32, aB (v108.1 != (1 : Int))), (33, aI i105), (36, .one (.slc 36))]) (L' := [(6, .one (.pair tI (.pair tI tI)) v108), (36, .seq tI [v108.2.1])]) (obs := [((v108.1 != (1 : Int)) = true), ((v108.1 != (1 : Int)) = true), ((v108.1 != (1 : Int)) = true), ((v108.1 != (1 : Int)) = true)]) rfl (by kernel_rfl) (allP2 h146 (allP2 h146 (allP2 h146 (allP1 h146)))) ?_
                obtain ⟨r147, h148, h⟩ := bind_of h
                refine WO_frz 36 (by kernel_rfl) ?_
                refine WO_call0 (us := [none, none]) (d := 37) (p := ((v108.1 != (1 : Int)) = true)) (j := 9) rfl ⟨by kernel_rfl, by kernel_rfl, by kernel_rfl⟩ h146 (ref_Inside_ok h148) (by kernel_rfl) ?_
                refine WO_run (j := 12) (k := 3) (orcs := [(18, .known true), (21, .val (.dat .bool true))]) (kF := [0, 5, 6, 7, 8, 9, 40]) (kL := [6]) (fr' := [(0, aI a0), (5, aI i105), (6, .one (.ptr 6 0)), (7, aD (.slice (.pair tI (.pair tI tI))) a1), (8, aI (List.length a1 : Int)), (9, aI i105), (40, aB (!r147))]) (L' := [(6, .one (.pair tI (.pair tI tI)) v108)]) (obs := [((v108.1 != (1 : Int)) = true), ((v108.1 != (1 : Int)) = true)]) rfl (by kernel_rfl) (allP2 h146 (allP1 h146)) ?_
                rcases Bool.eq_false_or_eq_true (!r147) with h149 | h149
                · replace h := ofT h149 h
                  refine WO_run (j := 24) (k := 12) (orcs := [(24, .known true), (26, .known true), (28, .known true), (30, .known true), (32, .known true), (34, .known true), (36, .known true), (38, .known true), (40, .known true), (42, .known true), (44, .known true), (47, .val (.dat .bool true))]) (kF := [0, 7, 8, 9, 52]) (kL := [6]) (fr' := [(0, aI a0), (7, aD (.slice (.pair tI (.pair tI tI))) a1), (8, aI (List.length a1 : Int)), (9, aI i105), (52, aB true)]) (L' := [(6, .one (.pair tI (.pair tI tI)) v108)]) (obs := [((!r147) = true), ((!r147) = true), ((!r147) = true), ((!r147) = true), ((!r147) = true), ((!r147) = true)]) rfl (by kernel_rfl) (allP2 h149 (allP2 h149 (allP2 h149 (allP2 h149 (allP2 h149 (allP1 h149)))))) ?_
                  obtain rfl := Option.some.inj h
                  refine WO_fin [0, 7, 8, 9, 52] [] (fr' := [(0, aI a0), (7, aD (.slice (.pair tI (.pair tI tI))) a1), (8, aI (List.length a1 : Int)), (9, aI i105), (52, aB true)]) (L' := []) (by kernel_rfl) (by kernel_rfl) ?_
                  exact exQ_mk (by kernel_rfl) (by kernel_rfl)
                · replace h := ofF h149 h
                  refine WO_run (j := 16) (k := 4) (orcs := [(24, .known false), (26, .known false), (28, .known false), (30, .known false)]) (kF := [0, 5, 6, 7, 8, 9, 40, 44]) (kL := [6]) (fr' := [(0, aI a0), (5, aI i105), (6, .one (.ptr 6 0)), (7, aD (.slice (.pair tI (.pair tI tI))) a1), (8, aI (List.length a1 : Int)), (9, aI i105), (40, aB (!r147)), (44, aB (decide (v108.1 ≥ (3 : Int))))]) (L' := [(6, .one (.pair tI (.pair tI tI)) v108)]) (obs := [((!r147) = false), ((!r147) = false), ((!r147) = false), ((!r147) = false)]) rfl (by kernel_rfl) (allP2 h149 (allP2 h149 (allP2 h149 (allP1 h149)))) ?_
                  rcases Bool.eq_false_or_eq_true (decide (v108.1 ≥ (3 : Int))) with h150 | h150
                  · replace h := ofT h150 h
                    refine WO_run (j := 20) (k := 4) (orcs := [(32, .known true), (34, .known true), (36, .known true), (38, .known true)]) (kF := [0, 7, 8, 9, 40, 44, 45, 48]) (kL := [6, 48]) (fr' := [(0, aI a0), (7, aD (.slice (.pair tI (.pair tI tI))) a1), (8, aI (List.length a1 : Int)), (9, aI i105), (40, aB (!r147)), (44, aB (decide (v108.1 ≥ (3 : Int)))), (45, aI i105), (48, .one (.slc 48))]) (L' := [(6, .one (.pair tI (.pair tI tI)) v108), (48, .seq tI [v108.2.2])]) (obs := [((decide (v108.1 ≥ (3 : Int))) = true), ((decide (v108.1 ≥ (3 : Int))) = true), ((decide (v108.1 ≥ (3 : Int))) = true), ((decide (v108.1 ≥ (3 : Int))) = true)]) rfl (by kernel_rfl) (allP2 h150 (allP2 h150 (allP2 h150 (allP1 h150)))) ?_
                    obtain ⟨r151, h152, h⟩ := bind_of h
                    refine WO_frz 48 (by kernel_rfl) ?_
                    refine WO_call0 (us := [none, none]) (d := 49) (p := ((decide (v108.1 ≥ (3 : Int))) = true)) (j := 21) rfl ⟨by kernel_rfl, by kernel_rfl, by kernel_rfl⟩ h150 (ref_Inside_ok h152) (by kernel_rfl) ?_
                    refine WO_run (j := 24) (k := 3) (orcs := [(42, .known true), (44, .known false), (45, .val (.dat .bool true)), (47, .val (.dat .bool false))]) (kF := [0, 7, 8, 9, 52]) (kL := [6]) (fr' := [(0, aI a0), (7, aD (.slice (.pair tI (.pair tI tI))) a1), (8, aI (List.length a1 : Int)), (9, aI i105), (52, aB (!r151))]) (L' := [(6, .one (.pair tI (.pair tI tI)) v108)]) (obs := [((decide (v108.1 ≥ (3 : Int))) = true), ((!r147) = false), ((decide (v108.1 ≥ (3 : Int))) = true), ((!r147) = false)]) rfl (by kernel_rfl) (allP2 h150 (allP2 h149 (allP2 h150 (allP1 h149)))) ?_
                    obtain rfl := Option.some.inj h
                    refine WO_fin [0, 7, 8, 9, 52] [] (fr' := [(0, aI a0), (7, aD (.slice (.pair tI (.pair tI tI))) a1), (8, aI (List.length a1 : Int)), (9, aI i105), (52, aB (!r151))]) (L' := []) (by kernel_rfl) (by kernel_rfl) ?_
                    exact exQ_mk (by kernel_rfl) (by kernel_rfl)
                  · replace h := ofF h150 h
                    refine WO_run (j := 24) (k := 8) (orcs := [(32, .known false), (34, .known false), (36, .known false), (38, .known false), (40, .known false), (42, .known false), (44, .known false), (45, .val (.dat .bool false)), (47, .val (.dat .bool false))]) (kF := [0, 7, 8, 9, 52]) (kL := [6]) (fr' := [(0, aI a0), (7, aD (.slice (.pair tI (.pair tI tI))) a1), (8, aI (List.length a1 : Int)), (9, aI i105), (52, aB false)]) (L' := [(6, .one (.pair tI (.pair tI tI)) v108)]) (obs := [((decide (v108.1 ≥ (3 : Int))) = false), ((decide (v108.1 ≥ (3 : Int))) = false), ((decide (v108.1 ≥ (3 : Int))) = false), ((decide (v108.1 ≥ (3 : Int))) = false), ((decide (v108.1 ≥ (3 : Int))) = false), ((decide (v108.1 ≥ (3 : Int))) = false), ((!r147) = false), ((decide (v108.1 ≥ (3 : Int))) = false), ((!r147) = false)]) rfl (by kernel_rfl) (allP2 h150 (allP2 h150 (allP2 h150 (allP2 h150 (allP2 h150 (allP2 h150 (allP2 h149 (allP2 h150 (allP1 h149))))))))) ?_
                    obtain rfl := Option.some.inj h
                    refine WO_fin [0, 7, 8, 9, 52] [] (fr' := [(0, aI a0), (7, aD (.slice (.pair tI (.pair tI tI))) a1), (8, aI (List.length a1 : Int)), (9, aI i105), (52, aB false)]) (L' := []) (by kernel_rfl) (by kernel_rfl) ?_
                    exact exQ_mk (by kernel_rfl) (by kernel_rfl)
              · replace h := ofF h146 h
                refine WO_run (j := 16) (k := 12) (orcs := [(8, .known false), (10, .known false), (12, .known false), (14, .known false), (16, .known false), (18, .known false), (21, .val (.dat .bool false)), (24, .known false), (26, .known false), (28, .known false), (30, .known false)]) (kF := [0, 5, 6, 7, 8, 9, 40, 44]) (kL := [6]) (fr' := [(0, aI a0), (5, aI i105), (6, .one (.ptr 6 0)), (7, aD (.slice (.pair tI (.pair tI tI))) a1), (8, aI (List.length a1 : Int)), (9, aI i105), (40, aB false), (44, aB (decide (v108.1 ≥ (3 : Int))))]) (L' := [(6, .one (.pair tI (.pair tI tI)) v108)]) (obs := [((v108.1 != (1 : Int)) = false), ((v108.1 != (1 : Int)) = false), ((v108.1 != (1 : Int)) = false), ((v108.1 != (1 : Int)) = false), ((v108.1 != (1 : Int)) = false), ((v108.1 != (1 : Int)) = false), ((v108.1 != (1 : Int)) = false), (false = false), (false = false), (false = false), (false = false)]) rfl (by kernel_rfl) (allP2 h146 (allP2 h146 (allP2 h146 (allP2 h146 (allP2 h146 (allP2 h146 (allP2 h146 (allP2 rfl (allP2 rfl (allP2 rfl (allP1 rfl))))))))))) ?_
                rcases Bool.eq_false_or_eq_true (decide (v108.1 ≥ (3 : Int))) with h153 | h153
                · replace h := ofT h153 h
                  refine WO_run (j := 20) (k := 4) (orcs := [(32, .known true), (34, .known true), (36, .known true), (38, .known true)]) (kF := [0, 7, 8, 9, 40, 44, 45, 48]) (kL := [6, 48]) (fr' := [(0, aI a0), (7, aD (.slice (.pair tI (.pair tI tI))) a1), (8, aI (List.length a1 : Int)), (9, aI i105), (40, aB false), (44, aB (decide (v108.1 ≥ (3 : Int)))), (45, aI i105), (48, .one (.slc 48))]) (L' := [(6, .one (.pair tI (.pair tI tI)) v108), (48, .seq tI [v108.2.2])]) (obs := [((decide (v108.1 ≥ (3 : Int))) = true), ((decide (v108.1 ≥ (3 : Int))) = true), ((decide (v108.1 ≥ (3 : Int))) = true), ((decide (v108.1 ≥ (3 : Int))) = true)]) rfl (by kernel_rfl) (allP2 h153 (allP2 h153 (allP2 h153 (allP1 h153)))) ?_
                  obtain ⟨r154, h155, h⟩ := bind_of h
                  refine WO_frz 48 (by kernel_rfl) ?_
                  refine WO_call0 (us := [none, none]) (d := 49) (p := ((decide (v108.1 ≥ (3 : Int))) = true)) (j := 21) rfl ⟨by kernel_rfl, by kernel_rfl, by kernel_rfl⟩ h153 (ref_Inside_ok h155) (by kernel_rfl) ?_
                  refine WO_run (j := 24) (k := 3) (orcs := [(42, .known true), (44, .known false), (45, .val (.dat .bool true)), (47, .val (.dat .bool false))]) (kF := [0, 7, 8, 9, 52]) (kL := [6]) (fr' := [(0, aI a0), (7, aD (.slice (.pair tI (.pair tI tI))) a1), (8, aI (List.length a1 : Int)), (9, aI i105), (52, aB (!r154))]) (L' := [(6, .one (.pair tI (.pair tI tI)) v108)]) (obs := [((decide (v108.1 ≥ (3 : Int))) = true), (false = false), ((decide (v108.1 ≥ (3 : Int))) = true), (false = false)]) rfl (by kernel_rfl) (allP2 h153 (allP2 rfl (allP2 h153 (allP1 rfl)))) ?_
                  obtain rfl := Option.some.inj h
                  refine WO_fin [0, 7, 8, 9, 52] [] (fr' := [(0, aI a0), (7, aD (.slice (.pair tI (.pair tI tI))) a1), (8, aI (List.length a1 : Int)), (9, aI i105), (52, aB (!r154))]) (L' := []) (by kernel_rfl) (by kernel_rfl) ?_
                  exact exQ_mk (by kernel_rfl) (by kernel_rfl)
                · replace h := ofF h153 h
                  refine WO_run (j := 24) (k := 8) (orcs := [(32, .known false), (34, .known false), (36, .known false), (38, .known false), (40, .known false), (42, .known false), (44, .known false), (45, .val (.dat .bool false)), (47, .val (.dat .bool false))]) (kF := [0, 7, 8, 9, 52]) (kL := [6]) (fr' := [(0, aI a0), (7, aD (.slice (.pair tI (.pair tI tI))) a1), (8, aI (List.length a1 : Int)), (9, aI i105), (52, aB false)]) (L' := [(6, .one (.pair tI (.pair tI tI)) v108)]) (obs := [((decide (v108.1 ≥ (3 : Int))) = false), ((decide (v108.1 ≥ (3 : Int))) = false), ((decide (v108.1 ≥ (3 : Int))) = false), ((decide (v108.1 ≥ (3 : Int))) = false), ((decide (v108.1 ≥ (3 : Int))) = false), ((decide (v108.1 ≥ (3 : Int))) = false), (false = false), ((decide (v108.1 ≥ (3 : Int))) = false), (false = false)]) rfl (by kernel_rfl) (allP2 h153 (allP2 h153 (allP2 h153 (allP2 h153 (allP2 h153 (allP2 h153 (allP2 rfl (allP2 h153 (allP1 rfl))))))))) ?_
                  obtain rfl := Option.some.inj h
                  refine WO_fin [0, 7, 8, 9, 52] [] (fr' := [(0, aI a0), (7, aD (.slice (.pair tI (.pair tI tI))) a1), (8, aI (List.length a1 : Int)), (9, aI i105), (52, aB false)]) (L' := []) (by kernel_rfl) (by kernel_rfl) ?_
                  exact exQ_mk (by kernel_rfl) (by kernel_rfl)
            · intro e fr L hJ
              obtain ⟨rfl, rfl, rfl⟩ := hJ
              refine LT_keep [0, 7, 8, 9, 52] [] (fr' := [(0, aI a0), (7, aD (.slice (.pair tI (.pair tI tI))) a1), (8, aI (List.length a1 : Int)), (9, aI i105), (52, aB v156)]) (L' := []) (by kernel_rfl) ?_
              refine seqQ_norm ?_
              refine W_cond (o := .tmp 52) (b := v156) (by kernel_rfl) (by kernel_rfl) (fun h158 => ?_) (fun h158 => ?_)
              · replace h := ofT h158 h
                refine W_seq (by kernel_rfl) ?_
                refine W_run 1 [] [4] [] (fr' := [(4, aI (2 : Int))]) (L' := []) (obs := []) (by kernel_rfl) (by kernel_rfl) (by kernel_rfl) allP0 ?_
                refine seqQ_norm ?_
                obtain rfl := Option.some.inj h
                refine W_ret [4] [] (fr' := [(4, aI (2 : Int))]) (L' := []) (by kernel_rfl) (by kernel_rfl) ?_
                refine blockQ_ret ?_
                refine seqQ_ret ?_
                refine round_ret ?_
                refine escQ_ret ?_
                exact exQ_mk (by kernel_rfl) (by kernel_rfl)
              · replace h := ofF h158 h
                refine W_skip [0, 7, 8, 9] [] (fr' := [(0, aI a0), (7, aD (.slice (.pair tI (.pair tI tI))) a1), (8, aI (List.length a1 : Int)), (9, aI i105)]) (L' := []) (by kernel_rfl) (by kernel_rfl) ?_
                refine blockQ_norm ?_
                refine seqQ_norm ?_
                obtain rfl := Option.some.inj h
                refine W_run 2 [] [0, 7, 8, 9] [] (fr' := [(0, aI a0), (7, aD (.slice (.pair tI (.pair tI tI))) a1), (8, aI (List.length a1 : Int)), (9, aI (w64 (i105 + (1 : Int))))]) (L' := []) (obs := []) (by kernel_rfl) (by kernel_rfl) (by kernel_rfl) allP0 ?_
                exact round_next' (by kernel_rfl) (by kernel_rfl)
    · obtain rfl := stepL_false h110 h
      refine W_exit (id := 0) [] [] (fr' := []) (L' := []) (by kernel_rfl) (by kernel_rfl) ?_
      refine seqQ_exit ?_
      refine round_exit ?_
      refine escQ_brk ?_
      exact exQ_mk (by kernel_rfl) (by kernel_rfl)
  · intro e fr L hJ
    rcases v160 with v165 | v166
    · obtain ⟨rfl, rfl, rfl⟩ := hJ
      obtain rfl := Option.some.inj h
      refine LT_keep [4] [] (fr' := [(4, aI v165)]) (L' := []) (by kernel_rfl) ?_
      refine blockQ_ret ?_
      refine seqQ_ret ?_
      exact retQ_mk (by kernel_rfl) (by kernel_rfl) (by kernel_rfl)
    · obtain ⟨rfl, rfl, rfl⟩ := hJ
      refine LT_keep [] [] (fr' := []) (L' := []) (by kernel_rfl) ?_
      refine blockQ_hit ?_
      refine seqQ_norm ?_
      refine W_seq (by kernel_rfl) ?_
      refine W_run 1 [] [4] [] (fr' := [(4, aI (0 : Int))]) (L' := []) (obs := []) (by kernel_rfl) (by kernel_rfl) (by kernel_rfl) allP0 ?_
      refine seqQ_norm ?_
      obtain rfl := Option.some.inj h
      refine W_ret [4] [] (fr' := [(4, aI (0 : Int))]) (L' := []) (by kernel_rfl) (by kernel_rfl) ?_
      exact retQ_mk (by kernel_rfl) (by kernel_rfl) (by kernel_rfl)

def ref_GateCheck_g1 (a0 : Int) (a1 : (List (Int × (Int × Int)))) : Option Bool :=
(ref_Within (0 : Int) a0 (5 : Int)).bind fun r11 =>
bif !r11 then
(some true)
else
((ref_Within (1 : Int) (List.length a1 : Int) (40 : Int)).bind fun r14 =>
some (!r14))
@[reducible] def ref_GateCheck_s2 (a0 : Int) (a1 : (List (Int × (Int × Int)))) (v : Bool) : Fr × LL := ([(0, aI a0), (1, aD (.slice (.pair tI (.pair tI tI))) a1), (13, aB v)], [])
def ref_GateCheck (a0 : Int) (a1 : (List (Int × (Int × Int)))) : Option Int :=
(ref_GateCheck_g1 a0 a1).bind fun v16 =>
bif v16 then
(some (1 : Int))
else
((ref_GatesCheck a0 a1).bind fun r19 =>
some r19)
theorem ref_GateCheck_ok {a0 : Int} {a1 : (List (Int × (Int × Int)))} {r : Int} (h : ref_GateCheck a0 a1 = some r) : FnC Try.prog 14 [aI a0, aD (.slice (.pair tI (.pair tI tI))) a1] [] (aI r) [] := by
  refine fnC_of_W (B := bodyOf Try.f14) (n := 17) Try.func14 (by kernel_rfl) (by kernel_rfl) (by kernel_rfl) (by kernel_rfl) (by kernel_rfl) ?_
  intro K
  refine W_seq (by kernel_rfl) ?_
  refine W_run 1 [] [0, 1] [] (fr' := [(0, aI a0), (1, aD (.slice (.pair tI (.pair tI tI))) a1)]) (L' := []) (obs := []) (by kernel_rfl) (by kernel_rfl) (by kernel_rfl) allP0 ?_
  refine seqQ_norm ?_
  refine W_seq (by kernel_rfl) ?_
  refine W_seq (by kernel_rfl) ?_
  obtain ⟨v16, h17, h⟩ := bind_of h
  refine W_cutK (Q' := (exQ .normal (ref_GateCheck_s2 a0 a1)) v16) ?_ ?_
  · replace h := h17
    refine W_region (by kernel_rfl) ?_
    refine WO_run (j := 1) (k := 1) (orcs := []) (kF := [0, 1, 5]) (kL := []) (fr' := [(0, aI a0), (1, aD (.slice (.pair tI (.pair tI tI))) a1), (5, aI a0)]) (L' := []) (obs := []) rfl (by kernel_rfl) allP0 ?_
    obtain ⟨r11, h12, h⟩ := bind_of h
    refine WO_call0 (us := [none, none, none]) (d := 6) (p := True) (j := 2) rfl ⟨by kernel_rfl, by kernel_rfl, by kernel_rfl⟩ trivial (ref_Within_ok h12) (by kernel_rfl) ?_
    refine WO_run (j := 4) (k := 2) (orcs := []) (kF := [0, 1, 8]) (kL := []) (fr' := [(0, aI a0), (1, aD (.slice (.pair tI (.pair tI tI))) a1), (8, aB (!r11))]) (L' := []) (obs := []) rfl (by kernel_rfl) allP0 ?_
    rcases Bool.eq_false_or_eq_true (!r11) with h13 | h13
    · replace h := ofT h13 h
      refine WO_run (j := 9) (k := 5) (orcs := [(8, .known true), (10, .known true), (12, .known true), (14, .known true), (17, .val (.dat .bool true))]) (kF := [0, 1, 13]) (kL := []) (fr' := [(0, aI a0), (1, aD (.slice (.pair tI (.pair tI tI))) a1), (13, aB true)]) (L' := []) (obs := [((!r11) = true), ((!r11) = true), ((!r11) = true), ((!r11) = true), ((!r11) = true)]) rfl (by kernel_rfl) (allP2 h13 (allP2 h13 (allP2 h13 (allP2 h13 (allP1 h13))))) ?_
      obtain rfl := Option.some.inj h
      refine WO_fin [0, 1, 13] [] (fr' := [(0, aI a0), (1, aD (.slice (.pair tI (.pair tI tI))) a1), (13, aB true)]) (L' := []) (by kernel_rfl) (by kernel_rfl) ?_
      exact exQ_mk (by kernel_rfl) (by kernel_rfl)
    · replace h := ofF h13 h
      refine WO_run (j := 6) (k := 2) (orcs := [(8, .known false), (10, .known false)]) (kF := [0, 1, 8, 10]) (kL := []) (fr' := [(0, aI a0), (1, aD (.slice (.pair tI (.pair tI tI))) a1), (8, aB (!r11)), (10, aI (List.length a1 : Int))]) (L' := []) (obs := [((!r11) = false), ((!r11) = false)]) rfl (by kernel_rfl) (allP2 h13 (allP1 h13)) ?_
      obtain ⟨r14, h15, h⟩ := bind_of h
      refine WO_call0 (us := [none, none, none]) (d := 11) (p := ((!r11) = false)) (j := 7) rfl ⟨by kernel_rfl, by kernel_rfl, by kernel_rfl⟩ h13 (ref_Within_ok h15) (by kernel_rfl) ?_
      refine WO_run (j := 9) (k := 2) (orcs := [(14, .known false), (17, .val (.dat .bool false))]) (kF := [0, 1, 13]) (kL := []) (fr' := [(0, aI a0), (1, aD (.slice (.pair tI (.pair tI tI))) a1), (13, aB (!r14))]) (L' := []) (obs := [((!r11) = false), ((!r11) = false)]) rfl (by kernel_rfl) (allP2 h13 (allP1 h13)) ?_
      obtain rfl := Option.some.inj h
      refine WO_fin [0, 1, 13] [] (fr' := [(0, aI a0), (1, aD (.slice (.pair tI (.pair tI tI))) a1), (13, aB (!r14))]) (L' := []) (by kernel_rfl) (by kernel_rfl) ?_
      exact exQ_mk (by kernel_rfl) (by kernel_rfl)
  · intro e fr L hJ
    obtain ⟨rfl, rfl, rfl⟩ := hJ
    refine LT_keep [0, 1, 13] [] (fr' := [(0, aI a0), (1, aD (.slice (.pair tI (.pair tI tI))) a1), (13, aB v16)]) (L' := []) (by kernel_rfl) ?_
    refine seqQ_norm ?_
    refine W_cond (o := .tmp 13) (b := v16) (by kernel_rfl) (by kernel_rfl) (fun h18 => ?_) (fun h18 => ?_)
    · replace h := ofT h18 h
      refine W_seq (by kernel_rfl) ?_
      refine W_run 1 [] [4] [] (fr' := [(4, aI (1 : Int))]) (L' := []) (obs := []) (by kernel_rfl) (by kernel_rfl) (by kernel_rfl) allP0 ?_
      refine seqQ_norm ?_
      obtain rfl := Option.some.inj h
      refine W_ret [4] [] (fr' := [(4, aI (1 : Int))]) (L' := []) (by kernel_rfl) (by kernel_rfl) ?_
      refine seqQ_ret ?_
      exact retQ_mk (by kernel_rfl) (by kernel_rfl) (by kernel_rfl)
    · replace h := ofF h18 h
      refine W_skip [0, 1] [] (fr' := [(0, aI a0), (1, aD (.slice (.pair tI (.pair tI tI))) a1)]) (L' := []) (by kernel_rfl) (by kernel_rfl) ?_
      refine seqQ_norm ?_
      refine W_seq (by kernel_rfl) ?_
      refine W_region (by kernel_rfl) ?_
      refine WO_run (j := 2) (k := 2) (orcs := []) (kF := [14, 15]) (kL := []) (fr' := [(14, aI a0), (15, aD (.slice (.pair tI (.pair tI tI))) a1)]) (L' := []) (obs := []) rfl (by kernel_rfl) allP0 ?_
      obtain ⟨r19, h20, h⟩ := bind_of h
      refine WO_call0 (us := [none, none]) (d := 16) (p := True) (j := 3) rfl ⟨by kernel_rfl, by kernel_rfl, by kernel_rfl⟩ trivial (ref_GatesCheck_ok h20) (by kernel_rfl) ?_
      refine WO_run (j := 4) (k := 1) (orcs := []) (kF := [4]) (kL := []) (fr' := [(4, aI r19)]) (L' := []) (obs := []) rfl (by kernel_rfl) allP0 ?_
      refine WO_fin [4] [] (fr' := [(4, aI r19)]) (L' := []) (by kernel_rfl) (by kernel_rfl) ?_
      refine seqQ_norm ?_
      obtain rfl := Option.some.inj h
      refine W_ret [4] [] (fr' := [(4, aI r19)]) (L' := []) (by kernel_rfl) (by kernel_rfl) ?_
      exact retQ_mk (by kernel_rfl) (by kernel_rfl) (by kernel_rfl)

@[reducible] def ref_Word_s4 (a0 : (List Bool)) (i30 : Int) (v : Int) : Fr × LL := ([(3, aI v), (6, aD (.slice .bool) a0), (7, aI (List.length a0 : Int)), (8, aI i30)], [])
def ref_Word_b5 (i30 : Int) (v33 : Bool) (x31 : Int) : Option (Flow Int Int) :=
(bif v33 then
((ck (0 ≤ IntKind.wrap .u64 (i30))).bind fun _ =>
some (w64 (x31 + (bShl .i64 (1 : Int) (IntKind.wrap .u64 (i30))))))
else
(some x31)).bind fun v42 =>
some (.next v42)
@[reducible] def ref_Word_s6 (a0 : (List Bool)) (v : Int × Int) : Fr × LL := ([(3, aI v.2), (6, aD (.slice .bool) a0), (7, aI (List.length a0 : Int)), (8, aI v.1)], [])
@[reducible] def ref_Word_s7 (v : Int) : Fr × LL := ([(3, aI v)], [])
def ref_Word (a0 : (List Bool)) : Option Int :=
(forL ref_Word_b5 (fun x31 => x31) a0 0 (0 : Int)).bind fun v45 =>
some v45
theorem ref_Word_ok {a0 : (List Bool)} {r : Int} (h : ref_Word a0 = some r) : FnC Try.prog 19 [aD (.slice .bool) a0] [] (aI r) [] := by
  refine fnC_of_W (B := bodyOf Try.f19) (n := 21) Try.func19 (by kernel_rfl) (by kernel_rfl) (by kernel_rfl) (by kernel_rfl) (by kernel_rfl) ?_
  intro K
  refine W_seq (by kernel_rfl) ?_
  refine W_run 1 [] [0] [] (fr' := [(0, aD (.slice .bool) a0)]) (L' := []) (obs := []) (by kernel_rfl) (by kernel_rfl) (by kernel_rfl) allP0 ?_
  refine seqQ_norm ?_
  refine W_seq (by kernel_rfl) ?_
  refine W_run 1 [] [0, 3] [] (fr' := [(0, aD (.slice .bool) a0), (3, aI (0 : Int))]) (L' := []) (obs := []) (by kernel_rfl) (by kernel_rfl) (by kernel_rfl) allP0 ?_
  refine seqQ_norm ?_
  refine W_seq (by kernel_rfl) ?_
  refine W_seq (by kernel_rfl) ?_
  refine W_run 3 [] [3, 6, 7, 8] [] (fr' := [(3, aI (0 : Int)), (6, aD (.slice .bool) a0), (7, aI (List.length a0 : Int)), (8, aI (0 : Int))]) (L' := []) (obs := []) (by kernel_rfl) (by kernel_rfl) (by kernel_rfl) allP0 ?_
  refine seqQ_norm ?_
  refine W_block (id := 0) (by kernel_rfl) ?_
  obtain ⟨v45, h46, h⟩ := bind_of h
  refine W_len (t := 6) (u := .bool) (xs := a0) (by kernel_rfl) (fun h49 => ?_)
  obtain ⟨h47, h48⟩ := forL_iter h49 h46
  refine W_weaken [3, 6, 7, 8] [] (fr' := ((ref_Word_s6 a0) ((0 : Int), (0 : Int))).1) (L' := ((ref_Word_s6 a0) ((0 : Int), (0 : Int))).2) (by kernel_rfl) ?_
  refine W_cutK (W_loop (S := (ref_Word_s6 a0)) (J := (exQ (.exit 0) ref_Word_s7)) (by kernel_rfl) ?_ h47 _ v45 h48) ?_
  · rintro ⟨i30, x31⟩ s h
    refine W_seq (by kernel_rfl) ?_
    refine W_run 1 [] [3, 6, 7, 8, 9] [] (fr' := [(3, aI x31), (6, aD (.slice .bool) a0), (7, aI (List.length a0 : Int)), (8, aI i30), (9, aB (decide (i30 < (List.length a0 : Int))))]) (L' := []) (obs := []) (by kernel_rfl) (by kernel_rfl) (by kernel_rfl) allP0 ?_
    refine seqQ_norm ?_
    refine W_seq (by kernel_rfl) ?_
    refine W_cond (o := .tmp 9) (b := decide (i30 < (List.length a0 : Int))) (by kernel_rfl) (by kernel_rfl) (fun h35 => ?_) (fun h35 => ?_)
    · replace h := stepL_true h35 h
      obtain ⟨v33, _, h34, h, rfl⟩ := h
      refine W_skip [3, 6, 7, 8] [] (fr' := [(3, aI x31), (6, aD (.slice .bool) a0), (7, aI (List.length a0 : Int)), (8, aI i30)]) (L' := []) (by kernel_rfl) (by kernel_rfl) ?_
      refine seqQ_norm ?_
      refine W_seq (by kernel_rfl) ?_
      obtain ⟨v42, h43, h⟩ := bind_of h
      refine W_cutK (Q' := (exQ .normal (ref_Word_s4 a0 i30)) v42) ?_ ?_
      · replace h := h43
        refine W_block (id := 1) (by kernel_rfl) ?_
        refine W_seq (by kernel_rfl) ?_
        refine W_run 5 [(3, .val (.dat .bool v33))] [3, 4, 5, 6, 7, 8] [] (fr' := [(3, aI x31), (4, aI i30), (5, aB v33), (6, aD (.slice .bool) a0), (7, aI (List.length a0 : Int)), (8, aI i30)]) (L' := []) (obs := [Idx a0 i30 v33]) (by kernel_rfl) (by kernel_rfl) (by kernel_rfl) (allP1 (Idx.of h34)) ?_
        refine seqQ_norm ?_
        refine W_seq (by kernel_rfl) ?_
        refine W_run 1 [] [3, 4, 6, 7, 8, 13] [] (fr' := [(3, aI x31), (4, aI i30), (6, aD (.slice .bool) a0), (7, aI (List.length a0 : Int)), (8, aI i30), (13, aB v33)]) (L' := []) (obs := []) (by kernel_rfl) (by kernel_rfl) (by kernel_rfl) allP0 ?_
        refine seqQ_norm ?_
        refine W_cond (o := .tmp 13) (b := v33) (by kernel_rfl) (by kernel_rfl) (fun h40 => ?_) (fun h40 => ?_)
        · replace h := ofT h40 h
          obtain ⟨_, h41, h⟩ := bind_of h
          replace h41 := ck_some h41
          obtain rfl := Option.some.inj h
          refine W_run 6 [] [3, 6, 7, 8] [] (fr' := [(3, aI (w64 (x31 + (bShl .i64 (1 : Int) (IntKind.wrap .u64 (i30)))))), (6, aD (.slice .bool) a0), (7, aI (List.length a0 : Int)), (8, aI i30)]) (L' := []) (obs := [(0 ≤ IntKind.wrap .u64 (i30))]) (by kernel_rfl) (by kernel_rfl) (by kernel_rfl) (allP1 h41) ?_
          refine blockQ_norm ?_
          exact exQ_mk (by kernel_rfl) (by kernel_rfl)
        · replace h := ofF h40 h
          obtain rfl := Option.some.inj h
          refine W_skip [3, 6, 7, 8] [] (fr' := [(3, aI x31), (6, aD (.slice .bool) a0), (7, aI (List.length a0 : Int)), (8, aI i30)]) (L' := []) (by kernel_rfl) (by kernel_rfl) ?_
          refine blockQ_norm ?_
          exact exQ_mk (by kernel_rfl) (by kernel_rfl)
      · intro e fr L hJ
        obtain ⟨rfl, rfl, rfl⟩ := hJ
        refine LT_keep [3, 6, 7, 8] [] (fr' := [(3, aI v42), (6, aD (.slice .bool) a0), (7, aI (List.length a0 : Int)), (8, aI i30)]) (L' := []) (by kernel_rfl) ?_
        refine seqQ_norm ?_
        obtain rfl := Option.some.inj h
        refine W_run 2 [] [3, 6, 7, 8] [] (fr' := [(3, aI v42), (6, aD (.slice .bool) a0), (7, aI (List.length a0 : Int)), (8, aI (w64 (i30 + (1 : Int))))]) (L' := []) (obs := []) (by kernel_rfl) (by kernel_rfl) (by kernel_rfl) allP0 ?_
        exact round_next' (by kernel_rfl) (by kernel_rfl)
    · obtain rfl := stepL_false h35 h
      refine W_exit (id := 0) [3] [] (fr' := [(3, aI x31)]) (L' := []) (by kernel_rfl) (by kernel_rfl) ?_
      refine seqQ_exit ?_
      refine round_exit ?_
      exact exQ_mk (by kernel_rfl) (by kernel_rfl)
  · intro e fr L hJ
    obtain ⟨rfl, rfl, rfl⟩ := hJ
    refine LT_keep [3] [] (fr' := [(3, aI v45)]) (L' := []) (by kernel_rfl) ?_
    refine blockQ_hit ?_
    refine seqQ_norm ?_
    refine W_seq (by kernel_rfl) ?_
    refine W_run 2 [] [2] [] (fr' := [(2, aI v45)]) (L' := []) (obs := []) (by kernel_rfl) (by kernel_rfl) (by kernel_rfl) allP0 ?_
    refine seqQ_norm ?_
    obtain rfl := Option.some.inj h
    refine W_ret [2] [] (fr' := [(2, aI v45)]) (L' := []) (by kernel_rfl) (by kernel_rfl) ?_
    exact retQ_mk (by kernel_rfl) (by kernel_rfl) (by kernel_rfl)

def ref_Bit (a0 : Int) (a1 : Int) : Option Bool :=
bif (decide (a1 ≥ (0 : Int))) && (decide (a1 < (63 : Int))) then
((ck (0 ≤ IntKind.wrap .u64 (a1))).bind fun _ =>
some ((bAnd .i64 a0 (bShl .i64 (1 : Int) (IntKind.wrap .u64 (a1)))) != (0 : Int)))
else
(some false)
theorem ref_Bit_ok {a0 : Int} {a1 : Int} {r : Bool} (h : ref_Bit a0 a1 = some r) : FnC Try.prog 37 [aI a0, aI a1] [] (aB r) [] := by
  refine fnC_of_W (B := bodyOf Try.f37) (n := 19) Try.func37 (by kernel_rfl) (by kernel_rfl) (by kernel_rfl) (by kernel_rfl) (by kernel_rfl) ?_
  intro K
  refine W_seq (by kernel_rfl) ?_
  refine W_run 1 [] [0, 1] [] (fr' := [(0, aI a0), (1, aI a1)]) (L' := []) (obs := []) (by kernel_rfl) (by kernel_rfl) (by kernel_rfl) allP0 ?_
  refine seqQ_norm ?_
  refine W_seq (by kernel_rfl) ?_
  refine W_region (by kernel_rfl) ?_
  refine WO_run (j := 7) (k := 7) (orcs := []) (kF := [0, 1, 11]) (kL := []) (fr' := [(0, aI a0), (1, aI a1), (11, aB ((decide (a1 ≥ (0 : Int))) && (decide (a1 < (63 : Int)))))]) (L' := []) (obs := []) rfl (by kernel_rfl) allP0 ?_
  rcases Bool.eq_false_or_eq_true ((decide (a1 ≥ (0 : Int))) && (decide (a1 < (63 : Int)))) with h1 | h1
  · replace h := ofT h1 h
    obtain ⟨_, h2, h⟩ := bind_of h
    replace h2 := ck_some h2
    refine WO_run (j := 15) (k := 8) (orcs := [(14, .known true), (16, .known true), (18, .known true), (20, .known true), (22, .known true), (24, .known true), (27, .val (.dat .bool true))]) (kF := [4]) (kL := []) (fr' := [(4, aB ((bAnd .i64 a0 (bShl .i64 (1 : Int) (IntKind.wrap .u64 (a1)))) != (0 : Int)))]) (L' := []) (obs := [(((decide (a1 ≥ (0 : Int))) && (decide (a1 < (63 : Int)))) = true), (((decide (a1 ≥ (0 : Int))) && (decide (a1 < (63 : Int)))) = true), (((decide (a1 ≥ (0 : Int))) && (decide (a1 < (63 : Int)))) = true), (((decide (a1 ≥ (0 : Int))) && (decide (a1 < (63 : Int)))) = true), (0 ≤ IntKind.wrap .u64 (a1)), (((decide (a1 ≥ (0 : Int))) && (decide (a1 < (63 : Int)))) = true), (((decide (a1 ≥ (0 : Int))) && (decide (a1 < (63 : Int)))) = true), (((decide (a1 ≥ (0 : Int))) && (decide (a1 < (63 : Int)))) = true)]) rfl (by kernel_rfl) (allP2 h1 (allP2 h1 (allP2 h1 (allP2 h1 (allP2 h2 (allP2 h1 (allP2 h1 (allP1 h1)))))))) ?_
    refine WO_fin [4] [] (fr' := [(4, aB ((bAnd .i64 a0 (bShl .i64 (1 : Int) (IntKind.wrap .u64 (a1)))) != (0 : Int)))]) (L' := []) (by kernel_rfl) (by kernel_rfl) ?_
    refine seqQ_norm ?_
    obtain rfl := Option.some.inj h
    refine W_ret [4] [] (fr' := [(4, aB ((bAnd .i64 a0 (bShl .i64 (1 : Int) (IntKind.wrap .u64 (a1)))) != (0 : Int)))]) (L' := []) (by kernel_rfl) (by kernel_rfl) ?_
    exact retQ_mk (by kernel_rfl) (by kernel_rfl) (by kernel_rfl)
  · replace h := ofF h1 h
    refine WO_run (j := 15) (k := 8) (orcs := [(14, .known false), (16, .known false), (18, .known false), (20, .known false), (22, .known false), (24, .known false), (27, .val (.dat .bool false))]) (kF := [4]) (kL := []) (fr' := [(4, aB false)]) (L' := []) (obs := [(((decide (a1 ≥ (0 : Int))) && (decide (a1 < (63 : Int)))) = false), (((decide (a1 ≥ (0 : Int))) && (decide (a1 < (63 : Int)))) = false), (((decide (a1 ≥ (0 : Int))) && (decide (a1 < (63 : Int)))) = false), (((decide (a1 ≥ (0 : Int))) && (decide (a1 < (63 : Int)))) = false), (((decide (a1 ≥ (0 : Int))) && (decide (a1 < (63 : Int)))) = false), (((decide (a1 ≥ (0 : Int))) && (decide (a1 < (63 : Int)))) = false), (((decide (a1 ≥ (0 : Int))) && (decide (a1 < (63 : Int)))) = false)]) rfl (by kernel_rfl) (allP2 h1 (allP2 h1 (allP2 h1 (allP2 h1 (allP2 h1 (allP2 h1 (allP1 h1))))))) ?_
    refine WO_fin [4] [] (fr' := [(4, aB false)]) (L' := []) (by kernel_rfl) (by kernel_rfl) ?_
    refine seqQ_norm ?_
    obtain rfl := Option.some.inj h
    refine W_ret [4] [] (fr' := [(4, aB false)]) (L' := []) (by kernel_rfl) (by kernel_rfl) ?_
    exact retQ_mk (by kernel_rfl) (by kernel_rfl) (by kernel_rfl)

def ref_Gates_g5 (a1 : Int) (i202 : Int) (x203 : (List Bool)) (v205 : (Int × (Int × Int))) : Option (List Bool) :=
bif v205.1 == (1 : Int) then
((ref_Bit a1 v205.2.1).bind fun r269 =>
(idx x203 i202).bind fun v271 =>
some (List.set x203 (Int.toNat i202) r269))
else
(bif v205.1 == (2 : Int) then
((idx x203 v205.2.1).bind fun v274 =>
(idx x203 i202).bind fun v276 =>
some (List.set x203 (Int.toNat i202) (!v274)))
else
(bif v205.1 == (3 : Int) then
((idx x203 v205.2.1).bind fun v279 =>
bif v279 then
((idx x203 v205.2.2).bind fun v282 =>
(idx x203 i202).bind fun v284 =>
some (List.set x203 (Int.toNat i202) v282))
else
((idx x203 i202).bind fun v286 =>
some (List.set x203 (Int.toNat i202) false)))
else
(bif v205.1 == (4 : Int) then
((idx x203 v205.2.1).bind fun v289 =>
bif v289 then
((idx x203 i202).bind fun v292 =>
some (List.set x203 (Int.toNat i202) true))
else
((idx x203 v205.2.2).bind fun v294 =>
(idx x203 i202).bind fun v296 =>
some (List.set x203 (Int.toNat i202) v294)))
else
(some x203))))
@[reducible] def ref_Gates_s6 (a0 : (List (Int × (Int × Int)))) (a1 : Int) (i202 : Int) (v : (List Bool)) : Fr × LL := ([(1, aI a1), (5, .one (.slc 10)), (11, aD (.slice (.pair tI (.pair tI tI))) a0), (12, aI (List.length a0 : Int)), (13, aI i202)], [(10, .seq .bool v)])
def ref_Gates_b7 (a1 : Int) (i202 : Int) (v205 : (Int × (Int × Int))) (x203 : (List Bool)) : Option (Flow (List Bool) (List Bool)) :=
(ref_Gates_g5 a1 i202 x203 v205).bind fun v298 =>
some (.next v298)
@[reducible] def ref_Gates_s8 (a0 : (List (Int × (Int × Int)))) (a1 : Int) (v : Int × (List Bool)) : Fr × LL := ([(1, aI a1), (5, .one (.slc 10)), (11, aD (.slice (.pair tI (.pair tI tI))) a0), (12, aI (List.length a0 : Int)), (13, aI v.1)], [(10, .seq .bool v.2)])
@[reducible] def ref_Gates_s9 (v : (List Bool)) : Fr × LL := ([(5, .one (.slc 10))], [(10, .seq .bool v)])
def ref_Gates (a0 : (List (Int × (Int × Int)))) (a1 : Int) : Option (List Bool) :=
(ck (0 ≤ (List.length a0 : Int) ∧ (List.length a0 : Int) = (List.length a0 : Int) ∧ (List.length a0 : Int) ≤ 4294967296)).bind fun _ =>
(forL (ref_Gates_b7 a1) (fun x203 => x203) a0 0 (List.replicate (Int.toNat (List.length a0 : Int)) false)).bind fun v301 =>
some v301
theorem ref_Gates_ok {a0 : (List (Int × (Int × Int)))} {a1 : Int} {r : (List Bool)} (h : ref_Gates a0 a1 = some r) : FnC Try.prog 18 [aD (.slice (.pair tI (.pair tI tI))) a0, aI a1] [] (aD (.slice .bool) r) [] := by
  refine fnC_of_W (B := bodyOf Try.f18) (n := 76) Try.func18 (by kernel_rfl) (by kernel_rfl) (by kernel_rfl) (by kernel_rfl) (by kernel_rfl) ?_
  intro K
  refine W_seq (by kernel_rfl) ?_
  refine W_run 1 [] [0, 1] [] (fr' := [(0, aD (.slice (.pair tI (.pair tI tI))) a0), (1, aI a1)]) (L' := []) (obs := []) (by kernel_rfl) (by kernel_rfl) (by kernel_rfl) allP0 ?_
  refine seqQ_norm ?_
  refine W_seq (by kernel_rfl) ?_
  obtain ⟨_, h1, h⟩ := bind_of h
  replace h1 := ck_some h1
  refine W_run 4 [] [0, 1, 5] [10] (fr' := [(0, aD (.slice (.pair tI (.pair tI tI))) a0), (1, aI a1), (5, .one (.slc 10))]) (L' := [(10, .seq .bool (List.replicate (Int.toNat (List.length a0 : Int)) false))]) (obs := [0 ≤ (List.length a0 : Int) ∧ (List.length a0 : Int) = (List.length a0 : Int) ∧ SmallLen (List.length a0 : Int)]) (by kernel_rfl) (by kernel_rfl) (by kernel_rfl) (allP1 h1) ?_
  refine seqQ_norm ?_
  refine W_seq (by kernel_rfl) ?_
  refine W_seq (by kernel_rfl) ?_
  refine W_run 3 [] [1, 5, 11, 12, 13] [10] (fr' := [(1, aI a1), (5, .one (.slc 10)), (11, aD (.slice (.pair tI (.pair tI tI))) a0), (12, aI (List.length a0 : Int)), (13, aI (0 : Int))]) (L' := [(10, .seq .bool (List.replicate (Int.toNat (List.length a0 : Int)) false))]) (obs := []) (by kernel_rfl) (by kernel_rfl) (by kernel_rfl) allP0 ?_
  refine seqQ_norm ?_
  refine W_block (id := 0) (by kernel_rfl) ?_
  obtain ⟨v301, h302, h⟩ := bind_of h
  refine W_len (t := 11) (u := (.pair tI (.pair tI tI))) (xs := a0) (by kernel_rfl) (fun h305 => ?_)
  obtain ⟨h303, h304⟩ := forL_iter h305 h302
  refine W_weaken [1, 5, 11, 12, 13] [10] (fr' := ((ref_Gates_s8 a0 a1) ((0 : Int), List.replicate (Int.toNat (List.length a0 : Int)) false)).1) (L' := ((ref_Gates_s8 a0 a1) ((0 : Int), List.replicate (Int.toNat (List.length a0 : Int)) false)).2) (by kernel_rfl) ?_
  refine W_cutK (W_loop (S := (ref_Gates_s8 a0 a1)) (J := (exQ (.exit 0) ref_Gates_s9)) (by kernel_rfl) ?_ h303 _ v301 h304) ?_
  · rintro ⟨i202, x203⟩ s h
    refine W_seq (by kernel_rfl) ?_
    refine W_run 1 [] [1, 5, 11, 12, 13, 14] [10] (fr' := [(1, aI a1), (5, .one (.slc 10)), (11, aD (.slice (.pair tI (.pair tI tI))) a0), (12, aI (List.length a0 : Int)), (13, aI i202), (14, aB (decide (i202 < (List.length a0 : Int))))]) (L' := [(10, .seq .bool x203)]) (obs := []) (by kernel_rfl) (by kernel_rfl) (by kernel_rfl) allP0 ?_
    refine seqQ_norm ?_
    refine W_seq (by kernel_rfl) ?_
    refine W_cond (o := .tmp 14) (b := decide (i202 < (List.length a0 : Int))) (by kernel_rfl) (by kernel_rfl) (fun h207 => ?_) (fun h207 => ?_)
    · replace h := stepL_true h207 h
      obtain ⟨v205, _, h206, h, rfl⟩ := h
      refine W_skip [1, 5, 11, 12, 13] [10] (fr' := [(1, aI a1), (5, .one (.slc 10)), (11, aD (.slice (.pair tI (.pair tI tI))) a0), (12, aI (List.length a0 : Int)), (13, aI i202)]) (L' := [(10, .seq .bool x203)]) (by kernel_rfl) (by kernel_rfl) ?_
      refine seqQ_norm ?_
      refine W_seq (by kernel_rfl) ?_
      obtain ⟨v298, h299, h⟩ := bind_of h
      refine W_cutK (Q' := (exQ .normal (ref_Gates_s6 a0 a1 i202)) v298) ?_ ?_
      · replace h := h299
        refine W_block (id := 1) (by kernel_rfl) ?_
        refine W_seq (by kernel_rfl) ?_
        refine W_run 6 [(3, .val (.dat (.pair tI (.pair tI tI)) v205)), (7, .typed)] [1, 5, 6, 7, 11, 12, 13] [10, 7] (fr' := [(1, aI a1), (5, .one (.slc 10)), (6, aI i202), (7, .one (.ptr 7 0)), (11, aD (.slice (.pair tI (.pair tI tI))) a0), (12, aI (List.length a0 : Int)), (13, aI i202)]) (L' := [(10, .seq .bool x203), (7, .one (.pair tI (.pair tI tI)) v205)]) (obs := [Idx a0 i202 v205, True]) (by kernel_rfl) (by kernel_rfl) (by kernel_rfl) (allP2 (Idx.of h206) (allP1 trivial)) ?_
        refine seqQ_norm ?_
        refine W_seq (by kernel_rfl) ?_
        refine W_run 2 [] [1, 5, 6, 7, 11, 12, 13, 19] [10, 7] (fr' := [(1, aI a1), (5, .one (.slc 10)), (6, aI i202), (7, .one (.ptr 7 0)), (11, aD (.slice (.pair tI (.pair tI tI))) a0), (12, aI (List.length a0 : Int)), (13, aI i202), (19, aI v205.1)]) (L' := [(10, .seq .bool x203), (7, .one (.pair tI (.pair tI tI)) v205)]) (obs := []) (by kernel_rfl) (by kernel_rfl) (by kernel_rfl) allP0 ?_
        refine seqQ_norm ?_
        refine W_block (id := 2) (by kernel_rfl) ?_
        refine W_seq (by kernel_rfl) ?_
        refine W_run 2 [] [1, 5, 6, 7, 11, 12, 13, 19, 20] [10, 7] (fr' := [(1, aI a1), (5, .one (.slc 10)), (6, aI i202), (7, .one (.ptr 7 0)), (11, aD (.slice (.pair tI (.pair tI tI))) a0), (12, aI (List.length a0 : Int)), (13, aI i202), (19, aI v205.1), (20, aB (v205.1 == (1 : Int)))]) (L' := [(10, .seq .bool x203), (7, .one (.pair tI (.pair tI tI)) v205)]) (obs := []) (by kernel_rfl) (by kernel_rfl) (by kernel_rfl) allP0 ?_
        refine seqQ_norm ?_
        refine W_cond (o := .tmp 20) (b := v205.1 == (1 : Int)) (by kernel_rfl) (by kernel_rfl) (fun h268 => ?_) (fun h268 => ?_)
        · replace h := ofT h268 h
          refine W_region (by kernel_rfl) ?_
          refine WO_run (j := 5) (k := 5) (orcs := []) (kF := [1, 5, 11, 12, 13, 22, 23, 24, 26]) (kL := [7, 10]) (fr' := [(1, aI a1), (5, .one (.slc 10)), (11, aD (.slice (.pair tI (.pair tI tI))) a0), (12, aI (List.length a0 : Int)), (13, aI i202), (22, .one (.slc 10)), (23, aI i202), (24, aI a1), (26, aI v205.2.1)]) (L' := [(7, .one (.pair tI (.pair tI tI)) v205), (10, .seq .bool x203)]) (obs := []) rfl (by kernel_rfl) allP0 ?_
          obtain ⟨r269, h270, h⟩ := bind_of h
          refine WO_call0 (us := [none, none]) (d := 27) (p := True) (j := 6) rfl ⟨by kernel_rfl, by kernel_rfl, by kernel_rfl⟩ trivial (ref_Bit_ok h270) (by kernel_rfl) ?_
          obtain ⟨v271, h272, h⟩ := bind_of h
          refine WO_run (j := 8) (k := 2) (orcs := []) (kF := [1, 5, 11, 12, 13]) (kL := [7, 10]) (fr' := [(1, aI a1), (5, .one (.slc 10)), (11, aD (.slice (.pair tI (.pair tI tI))) a0), (12, aI (List.length a0 : Int)), (13, aI i202)]) (L' := [(7, .one (.pair tI (.pair tI tI)) v205), (10, .seq .bool (List.set x203 (Int.toNat i202) r269))]) (obs := [InR i202 (List.length x203), InR i202 (List.length x203)]) rfl (by kernel_rfl) (allP2 (InR.of h272) (allP1 (InR.of h272))) ?_
          obtain rfl := Option.some.inj h
          refine WO_fin [1, 5, 11, 12, 13] [10] (fr' := [(1, aI a1), (5, .one (.slc 10)), (11, aD (.slice (.pair tI (.pair tI tI))) a0), (12, aI (List.length a0 : Int)), (13, aI i202)]) (L' := [(10, .seq .bool (List.set x203 (Int.toNat i202) r269))]) (by kernel_rfl) (by kernel_rfl) ?_
          refine blockQ_norm ?_
          refine blockQ_norm ?_
          exact exQ_mk (by kernel_rfl) (by kernel_rfl)
        · replace h := ofF h268 h
          refine W_seq (by kernel_rfl) ?_
          refine W_run 2 [] [1, 5, 6, 7, 11, 12, 13, 19, 29] [10, 7] (fr' := [(1, aI a1), (5, .one (.slc 10)), (6, aI i202), (7, .one (.ptr 7 0)), (11, aD (.slice (.pair tI (.pair tI tI))) a0), (12, aI (List.length a0 : Int)), (13, aI i202), (19, aI v205.1), (29, aB (v205.1 == (2 : Int)))]) (L' := [(10, .seq .bool x203), (7, .one (.pair tI (.pair tI tI)) v205)]) (obs := []) (by kernel_rfl) (by kernel_rfl) (by kernel_rfl) allP0 ?_
          refine seqQ_norm ?_
          refine W_cond (o := .tmp 29) (b := v205.1 == (2 : Int)) (by kernel_rfl) (by kernel_rfl) (fun h273 => ?_) (fun h273 => ?_)
          · replace h := ofT h273 h
            obtain ⟨v274, h275, h⟩ := bind_of h
            obtain ⟨v276, h277, h⟩ := bind_of h
            obtain rfl := Option.some.inj h
            refine W_run 10 [(13, .val (.dat .bool v274))] [1, 5, 11, 12, 13] [10] (fr' := [(1, aI a1), (5, .one (.slc 10)), (11, aD (.slice (.pair tI (.pair tI tI))) a0), (12, aI (List.length a0 : Int)), (13, aI i202)]) (L' := [(10, .seq .bool (List.set x203 (Int.toNat i202) (!v274)))]) (obs := [InR v205.2.1 (List.length x203), Idx x203 v205.2.1 v274, InR i202 (List.length x203), InR i202 (List.length x203)]) (by kernel_rfl) (by kernel_rfl) (by kernel_rfl) (allP2 (InR.of h275) (allP2 (Idx.of h275) (allP2 (InR.of h277) (allP1 (InR.of h277))))) ?_
            refine blockQ_norm ?_
            refine blockQ_norm ?_
            exact exQ_mk (by kernel_rfl) (by kernel_rfl)
          · replace h := ofF h273 h
            refine W_seq (by kernel_rfl) ?_
            refine W_run 2 [] [1, 5, 6, 7, 11, 12, 13, 19, 40] [10, 7] (fr' := [(1, aI a1), (5, .one (.slc 10)), (6, aI i202), (7, .one (.ptr 7 0)), (11, aD (.slice (.pair tI (.pair tI tI))) a0), (12, aI (List.length a0 : Int)), (13, aI i202), (19, aI v205.1), (40, aB (v205.1 == (3 : Int)))]) (L' := [(10, .seq .bool x203), (7, .one (.pair tI (.pair tI tI)) v205)]) (obs := []) (by kernel_rfl) (by kernel_rfl) (by kernel_rfl) allP0 ?_
            refine seqQ_norm ?_
            refine W_cond (o := .tmp 40) (b := v205.1 == (3 : Int)) (by kernel_rfl) (by kernel_rfl) (fun h278 => ?_) (fun h278 => ?_)
            · replace h := ofT h278 h
              obtain ⟨v279, h280, h⟩ := bind_of h
              refine W_region (by kernel_rfl) ?_
              refine WO_run (j := 8) (k := 8) (orcs := [(13, .val (.dat .bool v279))]) (kF := [1, 5, 7, 11, 12, 13, 42, 43, 49]) (kL := [7, 10]) (fr' := [(1, aI a1), (5, .one (.slc 10)), (7, .one (.ptr 7 0)), (11, aD (.slice (.pair tI (.pair tI tI))) a0), (12, aI (List.length a0 : Int)), (13, aI i202), (42, .one (.slc 10)), (43, aI i202), (49, aB v279)]) (L' := [(7, .one (.pair tI (.pair tI tI)) v205), (10, .seq .bool x203)]) (obs := [InR v205.2.1 (List.length x203), Idx x203 v205.2.1 v279]) rfl (by kernel_rfl) (allP2 (InR.of h280) (allP1 (Idx.of h280))) ?_
              rcases Bool.eq_false_or_eq_true (v279) with h281 | h281
              · replace h := ofT h281 h
                obtain ⟨v282, h283, h⟩ := bind_of h
                obtain ⟨v284, h285, h⟩ := bind_of h
                refine WO_run (j := 16) (k := 8) (orcs := [(16, .known true), (18, .known true), (20, .known true), (22, .known true), (24, .known true), (25, .val (.dat .bool v282)), (27, .val (.dat .bool true))]) (kF := [1, 5, 11, 12, 13]) (kL := [7, 10]) (fr' := [(1, aI a1), (5, .one (.slc 10)), (11, aD (.slice (.pair tI (.pair tI tI))) a0), (12, aI (List.length a0 : Int)), (13, aI i202)]) (L' := [(7, .one (.pair tI (.pair tI tI)) v205), (10, .seq .bool (List.set x203 (Int.toNat i202) v282))]) (obs := [(v279 = true), (v279 = true), (v279 = true), (v279 = true), InR v205.2.2 (List.length x203), (v279 = true), Idx x203 v205.2.2 v282, (v279 = true), InR i202 (List.length x203), InR i202 (List.length x203)]) rfl (by kernel_rfl) (allP2 h281 (allP2 h281 (allP2 h281 (allP2 h281 (allP2 (InR.of h283) (allP2 h281 (allP2 (Idx.of h283) (allP2 h281 (allP2 (InR.of h285) (allP1 (InR.of h285))))))))))) ?_
                obtain rfl := Option.some.inj h
                refine WO_fin [1, 5, 11, 12, 13] [10] (fr' := [(1, aI a1), (5, .one (.slc 10)), (11, aD (.slice (.pair tI (.pair tI tI))) a0), (12, aI (List.length a0 : Int)), (13, aI i202)]) (L' := [(10, .seq .bool (List.set x203 (Int.toNat i202) v282))]) (by kernel_rfl) (by kernel_rfl) ?_
                refine blockQ_norm ?_
                refine blockQ_norm ?_
                exact exQ_mk (by kernel_rfl) (by kernel_rfl)
              · replace h := ofF h281 h
                obtain ⟨v286, h287, h⟩ := bind_of h
                refine WO_run (j := 16) (k := 8) (orcs := [(16, .known false), (18, .known false), (20, .known false), (22, .known false), (24, .known false), (27, .val (.dat .bool false))]) (kF := [1, 5, 11, 12, 13]) (kL := [7, 10]) (fr' := [(1, aI a1), (5, .one (.slc 10)), (11, aD (.slice (.pair tI (.pair tI tI))) a0), (12, aI (List.length a0 : Int)), (13, aI i202)]) (L' := [(7, .one (.pair tI (.pair tI tI)) v205), (10, .seq .bool (List.set x203 (Int.toNat i202) false))]) (obs := [(v279 = false), (v279 = false), (v279 = false), (v279 = false), (v279 = false), (v279 = false), InR i202 (List.length x203), InR i202 (List.length x203)]) rfl (by kernel_rfl) (allP2 h281 (allP2 h281 (allP2 h281 (allP2 h281 (allP2 h281 (allP2 h281 (allP2 (InR.of h287) (allP1 (InR.of h287))))))))) ?_
                obtain rfl := Option.some.inj h
                refine WO_fin [1, 5, 11, 12, 13] [10] (fr' := [(1, aI a1), (5, .one (.slc 10)), (11, aD (.slice (.pair tI (.pair tI tI))) a0), (12, aI (List.length a0 : Int)), (13, aI i202)]) (L' := [(10, .seq .bool (List.set x203 (Int.toNat i202) false))]) (by kernel_rfl) (by kernel_rfl) ?_
                refine blockQ_norm ?_
                refine blockQ_norm ?_
                exact exQ_mk (by kernel_rfl) (by kernel_rfl)
            · replace h := ofF h278 h
              refine W_seq (by kernel_rfl) ?_
              refine W_run 2 [] [1, 5, 6, 7, 11, 12, 13, 57] [10, 7] (fr' := [(1, aI a1), (5, .one (.slc 10)), (6, aI i202), (7, .one (.ptr 7 0)), (11, aD (.slice (.pair tI (.pair tI tI))) a0), (12, aI (List.length a0 : Int)), (13, aI i202), (57, aB (v205.1 == (4 : Int)))]) (L' := [(10, .seq .bool x203), (7, .one (.pair tI (.pair tI tI)) v205)]) (obs := []) (by kernel_rfl) (by kernel_rfl) (by kernel_rfl) allP0 ?_
              refine seqQ_norm ?_
              refine W_cond (o := .tmp 57) (b := v205.1 == (4 : Int)) (by kernel_rfl) (by kernel_rfl) (fun h288 => ?_) (fun h288 => ?_)
              · replace h := ofT h288 h
                obtain ⟨v289, h290, h⟩ := bind_of h
                refine W_region (by kernel_rfl) ?_
                refine WO_run (j := 8) (k := 8) (orcs := [(13, .val (.dat .bool v289))]) (kF := [1, 5, 7, 11, 12, 13, 59, 60, 66]) (kL := [7, 10]) (fr' := [(1, aI a1), (5, .one (.slc 10)), (7, .one (.ptr 7 0)), (11, aD (.slice (.pair tI (.pair tI tI))) a0), (12, aI (List.length a0 : Int)), (13, aI i202), (59, .one (.slc 10)), (60, aI i202), (66, aB v289)]) (L' := [(7, .one (.pair tI (.pair tI tI)) v205), (10, .seq .bool x203)]) (obs := [InR v205.2.1 (List.length x203), Idx x203 v205.2.1 v289]) rfl (by kernel_rfl) (allP2 (InR.of h290) (allP1 (Idx.of h290))) ?_
                rcases Bool.eq_false_or_eq_true (v289) with h291 | h291
                · replace h := ofT h291 h
                  obtain ⟨v292, h293, h⟩ := bind_of h
                  refine WO_run (j := 16) (k := 8) (orcs := [(16, .known true), (18, .known true), (20, .known true), (22, .known true), (24, .known true), (27, .val (.dat .bool true))]) (kF := [1, 5, 11, 12, 13]) (kL := [7, 10]) (fr' := [(1, aI a1), (5, .one (.slc 10)), (11, aD (.slice (.pair tI (.pair tI tI))) a0), (12, aI (List.length a0 : Int)), (13, aI i202)]) (L' := [(7, .one (.pair tI (.pair tI tI)) v205), (10, .seq .bool (List.set x203 (Int.toNat i202) true))]) (obs := [(v289 = true), (v289 = true), (v289 = true), (v289 = true), (v289 = true), (v289 = true), InR i202 (List.length x203), InR i202 (List.length x203)]) rfl (by kernel_rfl) (allP2 h291 (allP2 h291 (allP2 h291 (allP2 h291 (allP2 h291 (allP2 h291 (allP2 (InR.of h293) (allP1 (InR.of h293))))))))) ?_
                  obtain rfl := Option.some.inj h
                  refine WO_fin [1, 5, 11, 12, 13] [10] (fr' := [(1, aI a1), (5, .one (.slc 10)), (11, aD (.slice (.pair tI (.pair tI tI))) a0), (12, aI (List.length a0 : Int)), (13, aI i202)]) (L' := [(10, .seq .bool (List.set x203 (Int.toNat i202) true))]) (by kernel_rfl) (by kernel_rfl) ?_
                  refine blockQ_norm ?_
                  refine blockQ_norm ?_
                  exact exQ_mk (by kernel_rfl) (by kernel_rfl)
                · replace h := ofF h291 h
                  obtain ⟨v294, h295, h⟩ := bind_of h
                  obtain ⟨v296, h297, h⟩ := bind_of h
                  refine WO_run (j := 16) (k := 8) (orcs := [(16, .known false), (18, .known false), (20, .known false), (22, .known false), (24, .known false), (25, .val (.dat .bool v294)), (27, .val (.dat .bool false))]) (kF := [1, 5, 11, 12, 13]) (kL := [7, 10]) (fr' := [(1, aI a1), (5, .one (.slc 10)), (11, aD (.slice (.pair tI (.pair tI tI))) a0), (12, aI (List.length a0 : Int)), (13, aI i202)]) (L' := [(7, .one (.pair tI (.pair tI tI)) v205), (10, .seq .bool (List.set x203 (Int.toNat i202) v294))]) (obs := [(v289 = false), (v289 = false), (v289 = false), (v289 = false), InR v205.2.2 (List.length x203), (v289 = false), Idx x203 v205.2.2 v294, (v289 = false), InR i202 (List.length x203), InR i202 (List.length x203)]) rfl (by kernel_rfl) (allP2 h291 (allP2 h291 (allP2 h291 (allP2 h291 (allP2 (InR.of h295) (allP2 h291 (allP2 (Idx.of h295) (allP2 h291 (allP2 (InR.of h297) (allP1 (InR.of h297))))))))))) ?_
                  obtain rfl := Option.some.inj h
                  refine WO_fin [1, 5, 11, 12, 13] [10] (fr' := [(1, aI a1), (5, .one (.slc 10)), (11, aD (.slice (.pair tI (.pair tI tI))) a0), (12, aI (List.length a0 : Int)), (13, aI i202)]) (L' := [(10, .seq .bool (List.set x203 (Int.toNat i202) v294))]) (by kernel_rfl) (by kernel_rfl) ?_
                  refine blockQ_norm ?_
                  refine blockQ_norm ?_
                  exact exQ_mk (by kernel_rfl) (by kernel_rfl)
              · replace h := ofF h288 h
                obtain rfl := Option.some.inj h
                refine W_skip [1, 5, 11, 12, 13] [10] (fr' := [(1, aI a1), (5, .one (.slc 10)), (11, aD (.slice (.pair tI (.pair tI tI))) a0), (12, aI (List.length a0 : Int)), (13, aI i202)]) (L' := [(10, .seq .bool x203)]) (by kernel_rfl) (by kernel_rfl) ?_
                refine blockQ_norm ?_
                refine blockQ_norm ?_
                exact exQ_mk (by kernel_rfl) (by kernel_rfl)
      · intro e fr L hJ
        obtain ⟨rfl, rfl, rfl⟩ := hJ
        refine LT_keep [1, 5, 11, 12, 13] [10] (fr' := [(1, aI a1), (5, .one (.slc 10)), (11, aD (.slice (.pair tI (.pair tI tI))) a0), (12, aI (List.length a0 : Int)), (13, aI i202)]) (L' := [(10, .seq .bool v298)]) (by kernel_rfl) ?_
        refine seqQ_norm ?_
        obtain rfl := Option.some.inj h
        refine W_run 2 [] [1, 5, 11, 12, 13] [10] (fr' := [(1, aI a1), (5, .one (.slc 10)), (11, aD (.slice (.pair tI (.pair tI tI))) a0), (12, aI (List.length a0 : Int)), (13, aI (w64 (i202 + (1 : Int))))]) (L' := [(10, .seq .bool v298)]) (obs := []) (by kernel_rfl) (by kernel_rfl) (by kernel_rfl) allP0 ?_
        exact round_next' (by kernel_rfl) (by kernel_rfl)
    · obtain rfl := stepL_false h207 h
      refine W_exit (id := 0) [5] [10] (fr' := [(5, .one (.slc 10))]) (L' := [(10, .seq .bool x203)]) (by kernel_rfl) (by kernel_rfl) ?_
      refine seqQ_exit ?_
      refine round_exit ?_
      exact exQ_mk (by kernel_rfl) (by kernel_rfl)
  · intro e fr L hJ
    obtain ⟨rfl, rfl, rfl⟩ := hJ
    refine LT_keep [5] [10] (fr' := [(5, .one (.slc 10))]) (L' := [(10, .seq .bool v301)]) (by kernel_rfl) ?_
    refine blockQ_hit ?_
    refine seqQ_norm ?_
    refine W_seq (by kernel_rfl) ?_
    refine W_run 2 [] [4] [10] (fr' := [(4, .one (.slc 10))]) (L' := [(10, .seq .bool v301)]) (obs := []) (by kernel_rfl) (by kernel_rfl) (by kernel_rfl) allP0 ?_
    refine seqQ_norm ?_
    obtain rfl := Option.some.inj h
    refine W_frz 10 (by kernel_rfl) ?_
    refine W_ret [4] [] (fr' := [(4, aD (.slice .bool) v301)]) (L' := []) (by kernel_rfl) (by kernel_rfl) ?_
    exact retQ_mk (by kernel_rfl) (by kernel_rfl) (by kernel_rfl)

def law_GateValues_g1 (a1 : (List (Int × (Int × Int)))) (a2 : (List Bool)) (r1 : (Bool × Int)) : Option Bool :=
bif r1.2 == (0 : Int) then
((ref_Word a2).bind fun r26 =>
(ref_Gates a1 r26).bind fun r28 =>
(idx r28 (w64 ((List.length a1 : Int) - (1 : Int)))).bind fun v30 =>
some (r1.1 == v30))
else
(some false)
@[reducible] def law_GateValues_s2 (v : Bool) : Fr × LL := ([(6, aB v)], [])
@[reducible] def law_GateValues_s3 (a1 : (List (Int × (Int × Int)))) (a2 : (List Bool)) (r1 : (Bool × Int)) (v : Int) : Fr × LL := ([(1, aD (.slice (.pair tI (.pair tI tI))) a1), (2, aD (.slice .bool) a2), (7, aB r1.1), (8, aI r1.2), (9, aI v)], [])
def law_GateValues (a0 : Int) (a1 : (List (Int × (Int × Int)))) (a2 : (List Bool)) : Option Bool :=
(gate_Value a0 a1 a2).bind fun r1 =>
(ref_GateCheck a0 a1).bind fun r3 =>
(bif (r3 == (0 : Int)) && ((List.length a2 : Int) != a0) then
(some (3 : Int))
else
(some r3)).bind fun v8 =>
bif v8 != (0 : Int) then
(some ((r1.2 == v8) && (!r1.1)))
else
((law_GateValues_g1 a1 a2 r1).bind fun v32 =>
some v32)
theorem law_GateValues_ok {a0 : Int} {a1 : (List (Int × (Int × Int)))} {a2 : (List Bool)} {r : Bool} (h : law_GateValues a0 a1 a2 = some r) : FnC Try.prog 5 [aI a0, aD (.slice (.pair tI (.pair tI tI))) a1, aD (.slice .bool) a2] [] (aB r) [] := by
  refine fnC_of_W (B := bodyOf Try.f5) (n := 52) Try.func5 (by kernel_rfl) (by kernel_rfl) (by kernel_rfl) (by kernel_rfl) (by kernel_rfl) ?_
  intro K
  refine W_seq (by kernel_rfl) ?_
  refine W_run 1 [] [0, 1, 2] [] (fr' := [(0, aI a0), (1, aD (.slice (.pair tI (.pair tI tI))) a1), (2, aD (.slice .bool) a2)]) (L' := []) (obs := []) (by kernel_rfl) (by kernel_rfl) (by kernel_rfl) allP0 ?_
  refine seqQ_norm ?_
  refine W_seq (by kernel_rfl) ?_
  refine W_region (by kernel_rfl) ?_
  refine WO_run (j := 3) (k := 3) (orcs := []) (kF := [0, 1, 2, 11, 12, 13]) (kL := []) (fr' := [(0, aI a0), (1, aD (.slice (.pair tI (.pair tI tI))) a1), (2, aD (.slice .bool) a2), (11, aI a0), (12, aD (.slice (.pair tI (.pair tI tI))) a1), (13, aD (.slice .bool) a2)]) (L' := []) (obs := []) rfl (by kernel_rfl) allP0 ?_
  obtain ⟨r1, h2, h⟩ := bind_of h
  refine WO_call0 (us := [none, none, none]) (d := 14) (p := True) (j := 4) rfl ⟨by kernel_rfl, by kernel_rfl, by kernel_rfl⟩ trivial (gate_Value_ok h2) (by kernel_rfl) ?_
  refine WO_run (j := 9) (k := 5) (orcs := []) (kF := [0, 1, 2, 7, 8]) (kL := []) (fr' := [(0, aI a0), (1, aD (.slice (.pair tI (.pair tI tI))) a1), (2, aD (.slice .bool) a2), (7, aB r1.1), (8, aI r1.2)]) (L' := []) (obs := []) rfl (by kernel_rfl) allP0 ?_
  refine WO_fin [0, 1, 2, 7, 8] [] (fr' := [(0, aI a0), (1, aD (.slice (.pair tI (.pair tI tI))) a1), (2, aD (.slice .bool) a2), (7, aB r1.1), (8, aI r1.2)]) (L' := []) (by kernel_rfl) (by kernel_rfl) ?_
  refine seqQ_norm ?_
  refine W_seq (by kernel_rfl) ?_
  refine W_region (by kernel_rfl) ?_
  refine WO_run (j := 2) (k := 2) (orcs := []) (kF := [0, 1, 2, 7, 8, 17, 18]) (kL := []) (fr' := [(0, aI a0), (1, aD (.slice (.pair tI (.pair tI tI))) a1), (2, aD (.slice .bool) a2), (7, aB r1.1), (8, aI r1.2), (17, aI a0), (18, aD (.slice (.pair tI (.pair tI tI))) a1)]) (L' := []) (obs := []) rfl (by kernel_rfl) allP0 ?_
  obtain ⟨r3, h4, h⟩ := bind_of h
  refine WO_call0 (us := [none, none]) (d := 19) (p := True) (j := 3) rfl ⟨by kernel_rfl, by kernel_rfl, by kernel_rfl⟩ trivial (ref_GateCheck_ok h4) (by kernel_rfl) ?_
  refine WO_run (j := 4) (k := 1) (orcs := []) (kF := [0, 1, 2, 7, 8, 9]) (kL := []) (fr' := [(0, aI a0), (1, aD (.slice (.pair tI (.pair tI tI))) a1), (2, aD (.slice .bool) a2), (7, aB r1.1), (8, aI r1.2), (9, aI r3)]) (L' := []) (obs := []) rfl (by kernel_rfl) allP0 ?_
  refine WO_fin [0, 1, 2, 7, 8, 9] [] (fr' := [(0, aI a0), (1, aD (.slice (.pair tI (.pair tI tI))) a1), (2, aD (.slice .bool) a2), (7, aB r1.1), (8, aI r1.2), (9, aI r3)]) (L' := []) (by kernel_rfl) (by kernel_rfl) ?_
  refine seqQ_norm ?_
  refine W_seq (by kernel_rfl) ?_
  obtain ⟨v8, h9, h⟩ := bind_of h
  refine W_cutK (Q' := (exQ .normal (law_GateValues_s3 a1 a2 r1)) v8) ?_ ?_
  · replace h := h9
    refine W_seq (by kernel_rfl) ?_
    refine W_run 8 [] [1, 2, 7, 8, 9, 27] [] (fr' := [(1, aD (.slice (.pair tI (.pair tI tI))) a1), (2, aD (.slice .bool) a2), (7, aB r1.1), (8, aI r1.2), (9, aI r3), (27, aB ((r3 == (0 : Int)) && ((List.length a2 : Int) != a0)))]) (L' := []) (obs := []) (by kernel_rfl) (by kernel_rfl) (by kernel_rfl) allP0 ?_
    refine seqQ_norm ?_
    refine W_cond (o := .tmp 27) (b := (r3 == (0 : Int)) && ((List.length a2 : Int) != a0)) (by kernel_rfl) (by kernel_rfl) (fun h7 => ?_) (fun h7 => ?_)
    · replace h := ofT h7 h
      obtain rfl := Option.some.inj h
      refine W_run 1 [] [1, 2, 7, 8, 9] [] (fr' := [(1, aD (.slice (.pair tI (.pair tI tI))) a1), (2, aD (.slice .bool) a2), (7, aB r1.1), (8, aI r1.2), (9, aI (3 : Int))]) (L' := []) (obs := []) (by kernel_rfl) (by kernel_rfl) (by kernel_rfl) allP0 ?_
      exact exQ_mk (by kernel_rfl) (by kernel_rfl)
    · replace h := ofF h7 h
      obtain rfl := Option.some.inj h
      refine W_skip [1, 2, 7, 8, 9] [] (fr' := [(1, aD (.slice (.pair tI (.pair tI tI))) a1), (2, aD (.slice .bool) a2), (7, aB r1.1), (8, aI r1.2), (9, aI r3)]) (L' := []) (by kernel_rfl) (by kernel_rfl) ?_
      exact exQ_mk (by kernel_rfl) (by kernel_rfl)
  · intro e fr L hJ
    obtain ⟨rfl, rfl, rfl⟩ := hJ
    refine LT_keep [1, 2, 7, 8, 9] [] (fr' := [(1, aD (.slice (.pair tI (.pair tI tI))) a1), (2, aD (.slice .bool) a2), (7, aB r1.1), (8, aI r1.2), (9, aI v8)]) (L' := []) (by kernel_rfl) ?_
    refine seqQ_norm ?_
    refine W_seq (by kernel_rfl) ?_
    refine W_seq (by kernel_rfl) ?_
    refine W_run 2 [] [1, 2, 7, 8, 9, 29] [] (fr' := [(1, aD (.slice (.pair tI (.pair tI tI))) a1), (2, aD (.slice .bool) a2), (7, aB r1.1), (8, aI r1.2), (9, aI v8), (29, aB (v8 != (0 : Int)))]) (L' := []) (obs := []) (by kernel_rfl) (by kernel_rfl) (by kernel_rfl) allP0 ?_
    refine seqQ_norm ?_
    refine W_cond (o := .tmp 29) (b := v8 != (0 : Int)) (by kernel_rfl) (by kernel_rfl) (fun h10 => ?_) (fun h10 => ?_)
    · replace h := ofT h10 h
      refine W_seq (by kernel_rfl) ?_
      refine W_run 8 [] [6] [] (fr' := [(6, aB ((r1.2 == v8) && (!r1.1)))]) (L' := []) (obs := []) (by kernel_rfl) (by kernel_rfl) (by kernel_rfl) allP0 ?_
      refine seqQ_norm ?_
      obtain rfl := Option.some.inj h
      refine W_ret [6] [] (fr' := [(6, aB ((r1.2 == v8) && (!r1.1)))]) (L' := []) (by kernel_rfl) (by kernel_rfl) ?_
      refine seqQ_ret ?_
      exact retQ_mk (by kernel_rfl) (by kernel_rfl) (by kernel_rfl)
    · replace h := ofF h10 h
      refine W_skip [1, 2, 7, 8] [] (fr' := [(1, aD (.slice (.pair tI (.pair tI tI))) a1), (2, aD (.slice .bool) a2), (7, aB r1.1), (8, aI r1.2)]) (L' := []) (by kernel_rfl) (by kernel_rfl) ?_
      refine seqQ_norm ?_
      refine W_seq (by kernel_rfl) ?_
      obtain ⟨v32, h33, h⟩ := bind_of h
      refine W_cutK (Q' := (exQ .normal law_GateValues_s2) v32) ?_ ?_
      · replace h := h33
        refine W_region (by kernel_rfl) ?_
        refine WO_run (j := 3) (k := 3) (orcs := []) (kF := [1, 2, 7, 39]) (kL := []) (fr' := [(1, aD (.slice (.pair tI (.pair tI tI))) a1), (2, aD (.slice .bool) a2), (7, aB r1.1), (39, aB (r1.2 == (0 : Int)))]) (L' := []) (obs := []) rfl (by kernel_rfl) allP0 ?_
        rcases Bool.eq_false_or_eq_true (r1.2 == (0 : Int)) with h25 | h25
        · replace h := ofT h25 h
          refine WO_run (j := 6) (k := 3) (orcs := [(6, .known true), (8, .known true), (10, .known true)]) (kF := [1, 39, 40, 41, 42]) (kL := []) (fr' := [(1, aD (.slice (.pair tI (.pair tI tI))) a1), (39, aB (r1.2 == (0 : Int))), (40, aB r1.1), (41, aD (.slice (.pair tI (.pair tI tI))) a1), (42, aD (.slice .bool) a2)]) (L' := []) (obs := [((r1.2 == (0 : Int)) = true), ((r1.2 == (0 : Int)) = true), ((r1.2 == (0 : Int)) = true)]) rfl (by kernel_rfl) (allP2 h25 (allP2 h25 (allP1 h25))) ?_
          obtain ⟨r26, h27, h⟩ := bind_of h
          refine WO_call0 (us := [none]) (d := 43) (p := ((r1.2 == (0 : Int)) = true)) (j := 7) rfl ⟨by kernel_rfl, by kernel_rfl, by kernel_rfl⟩ h25 (ref_Word_ok h27) (by kernel_rfl) ?_
          obtain ⟨r28, h29, h⟩ := bind_of h
          refine WO_call0 (us := [none, none]) (d := 44) (p := ((r1.2 == (0 : Int)) = true)) (j := 8) rfl ⟨by kernel_rfl, by kernel_rfl, by kernel_rfl⟩ h25 (ref_Gates_ok h29) (by kernel_rfl) ?_
          obtain ⟨v30, h31, h⟩ := bind_of h
          refine WO_run (j := 16) (k := 8) (orcs := [(16, .known true), (18, .known true), (20, .known true), (22, .known true), (23, .val (.dat .bool v30)), (24, .known true), (26, .known true), (29, .val (.dat .bool true))]) (kF := [6]) (kL := []) (fr' := [(6, aB (r1.1 == v30))]) (L' := []) (obs := [((r1.2 == (0 : Int)) = true), ((r1.2 == (0 : Int)) = true), ((r1.2 == (0 : Int)) = true), ((r1.2 == (0 : Int)) = true), Idx r28 (w64 ((List.length a1 : Int) - (1 : Int))) v30, ((r1.2 == (0 : Int)) = true), ((r1.2 == (0 : Int)) = true), ((r1.2 == (0 : Int)) = true)]) rfl (by kernel_rfl) (allP2 h25 (allP2 h25 (allP2 h25 (allP2 h25 (allP2 (Idx.of h31) (allP2 h25 (allP2 h25 (allP1 h25)))))))) ?_
          obtain rfl := Option.some.inj h
          refine WO_fin [6] [] (fr' := [(6, aB (r1.1 == v30))]) (L' := []) (by kernel_rfl) (by kernel_rfl) ?_
          exact exQ_mk (by kernel_rfl) (by kernel_rfl)
        · replace h := ofF h25 h
          refine WO_run (j := 16) (k := 13) (orcs := [(6, .known false), (8, .known false), (10, .known false), (12, .known false), (14, .known false), (16, .known false), (18, .known false), (20, .known false), (22, .known false), (24, .known false), (26, .known false), (29, .val (.dat .bool false))]) (kF := [6]) (kL := []) (fr' := [(6, aB false)]) (L' := []) (obs := [((r1.2 == (0 : Int)) = false), ((r1.2 == (0 : Int)) = false), ((r1.2 == (0 : Int)) = false), ((r1.2 == (0 : Int)) = false), ((r1.2 == (0 : Int)) = false), ((r1.2 == (0 : Int)) = false), ((r1.2 == (0 : Int)) = false), ((r1.2 == (0 : Int)) = false), ((r1.2 == (0 : Int)) = false), ((r1.2 == (0 : Int)) = false), ((r1.2 == (0 : Int)) = false), ((r1.2 == (0 : Int)) = false)]) rfl (by kernel_rfl) (allP2 h25 (allP2 h25 (allP2 h25 (allP2 h25 (allP2 h25 (allP2 h25 (allP2 h25 (allP2 h25 (allP2 h25 (allP2 h25 (allP2 h25 (allP1 h25)))))))))))) ?_
          obtain rfl := Option.some.inj h
          refine WO_fin [6] [] (fr' := [(6, aB false)]) (L' := []) (by kernel_rfl) (by kernel_rfl) ?_
          exact exQ_mk (by kernel_rfl) (by kernel_rfl)
      · intro e fr L hJ
        obtain ⟨rfl, rfl, rfl⟩ := hJ
        refine LT_keep [6] [] (fr' := [(6, aB v32)]) (L' := []) (by kernel_rfl) ?_
        refine seqQ_norm ?_
        obtain rfl := Option.some.inj h
        refine W_ret [6] [] (fr' := [(6, aB v32)]) (L' := []) (by kernel_rfl) (by kernel_rfl) ?_
        exact retQ_mk (by kernel_rfl) (by kernel_rfl) (by kernel_rfl)
end Go.Proofs.Ytmemlgpcmefpfaa.gateValues
