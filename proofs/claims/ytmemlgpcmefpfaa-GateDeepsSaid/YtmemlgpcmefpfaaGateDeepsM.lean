/- What the functions that GateDeeps calls compute, as models, and that they compute it: written by a program of mine. -/
import Derived.Test.YtmemlgpcmefpfaaProg
import Derived.Test.YtmemlgpcmefpfaaSl3
set_option linter.all false
set_option maxRecDepth 100000
namespace Go.Proofs.Ytmemlgpcmefpfaa.gateDeeps
open Go Go.Sl
def gate_Wrong_1 (a0 : Int) (c0 : Int) : Option Bool :=
some ((decide (a0 ≥ (0 : Int))) && (decide (a0 < c0)))
theorem gate_Wrong_1_ok {a0 : Int} {c0 : Int} {r : Bool} (h : gate_Wrong_1 a0 c0 = some r) : FnC Try.prog 45 [aI a0, .one (.ptr 1000 0)] [(1000, .cells [.dat tI c0])] (aB r) [(1000, .cells [.dat tI c0])] := by
  refine fnC_of_W (B := bodyOf Try.f45) (n := 11) Try.func45 (by kernel_rfl) (by kernel_rfl) (by kernel_rfl) (by kernel_rfl) (by kernel_rfl) ?_
  intro K
  refine W_seq (by kernel_rfl) ?_
  refine W_run 1 [] [0, 1] [1000] (fr' := [(0, aI a0), (1, .one (.ptr 1000 0))]) (L' := [(1000, .cells [.dat tI c0])]) (obs := []) (by kernel_rfl) (by kernel_rfl) (by kernel_rfl) allP0 ?_
  refine seqQ_norm ?_
  refine W_seq (by kernel_rfl) ?_
  refine W_run 8 [] [3] [1000] (fr' := [(3, aB ((decide (a0 ≥ (0 : Int))) && (decide (a0 < c0))))]) (L' := [(1000, .cells [.dat tI c0])]) (obs := []) (by kernel_rfl) (by kernel_rfl) (by kernel_rfl) allP0 ?_
  refine seqQ_norm ?_
  obtain rfl := Option.some.inj h
  refine W_ret [3] [1000] (fr' := [(3, aB ((decide (a0 ≥ (0 : Int))) && (decide (a0 < c0))))]) (L' := [(1000, .cells [.dat tI c0])]) (by kernel_rfl) (by kernel_rfl) ?_
  exact retQ_mk (by kernel_rfl) (by kernel_rfl) (by kernel_rfl)

@[reducible] def gate_Wrong_s38 (a0 : Int) (a1 : (List (Int × (Int × Int)))) (i265 : Int) (v268 : (Int × (Int × Int))) (v : Bool) : Fr × LL := ([(0, aI a0), (6, .one (.ptr 6 0)), (7, .one (.fn 45 [(5, 0)])), (8, aD (.slice (.pair tI (.pair tI tI))) a1), (9, aI (List.length a1 : Int)), (10, aI i265), (40, aB v)], [(6, .one (.pair tI (.pair tI tI)) v268), (5, .cells [.dat tI i265])])
def gate_Wrong_g39 (i265 : Int) (v268 : (Int × (Int × Int))) : Option Bool :=
(bif decide (v268.1 > (1 : Int)) then
((gate_Wrong_1 v268.2.1 i265).bind fun r386 =>
some (!r386))
else
(some false)).bind fun v388 =>
bif v388 then
(some v388)
else
(bif decide (v268.1 > (2 : Int)) then
((gate_Wrong_1 v268.2.2 i265).bind fun r392 =>
some (!r392))
else
(some false))
@[reducible] def gate_Wrong_s40 (a0 : Int) (a1 : (List (Int × (Int × Int)))) (i265 : Int) (v : Bool) : Fr × LL := ([(0, aI a0), (8, aD (.slice (.pair tI (.pair tI tI))) a1), (9, aI (List.length a1 : Int)), (10, aI i265), (40, aB v)], [])
@[reducible] def gate_Wrong_s41 (a0 : Int) (a1 : (List (Int × (Int × Int)))) (i265 : Int) (v268 : (Int × (Int × Int))) (v : Bool) : Fr × LL := ([(0, aI a0), (6, .one (.ptr 6 0)), (7, .one (.fn 45 [(5, 0)])), (8, aD (.slice (.pair tI (.pair tI tI))) a1), (9, aI (List.length a1 : Int)), (10, aI i265), (25, aB v)], [(6, .one (.pair tI (.pair tI tI)) v268), (5, .cells [.dat tI i265])])
@[reducible] def gate_Wrong_s42 (a0 : Int) (a1 : (List (Int × (Int × Int)))) (i265 : Int) (v268 : (Int × (Int × Int))) (v : Bool) : Fr × LL := ([(0, aI a0), (6, .one (.ptr 6 0)), (7, .one (.fn 45 [(5, 0)])), (8, aD (.slice (.pair tI (.pair tI tI))) a1), (9, aI (List.length a1 : Int)), (10, aI i265), (16, aB v)], [(6, .one (.pair tI (.pair tI tI)) v268), (5, .cells [.dat tI i265])])
def gate_Wrong_b43 (a0 : Int) (i265 : Int) (v268 : (Int × (Int × Int))) (x266 : Unit) : Option (Flow Unit (Esc Int Unit)) :=
(bif decide (v268.1 < (1 : Int)) then
(some true)
else
(some (decide (v268.1 > (4 : Int))))).bind fun v337 =>
bif v337 then
(some (.done (.ret (6 : Int))))
else
((bif v268.1 == (1 : Int) then
(bif decide (v268.2.1 < (0 : Int)) then
(some true)
else
(some (decide (v268.2.1 ≥ a0))))
else
(some false)).bind fun v346 =>
bif v346 then
(some (.done (.ret (4 : Int))))
else
((gate_Wrong_g39 i265 v268).bind fun v394 =>
bif v394 then
(some (.done (.ret (2 : Int))))
else
(some (.next ()))))
@[reducible] def gate_Wrong_s44 (a0 : Int) (a1 : (List (Int × (Int × Int)))) (v : Int × Unit) : Fr × LL := ([(0, aI a0), (8, aD (.slice (.pair tI (.pair tI tI))) a1), (9, aI (List.length a1 : Int)), (10, aI v.1)], [])
@[reducible] def gate_Wrong_s45 (v : Int) : Fr × LL := ([(4, aI v)], [])
@[reducible] def gate_Wrong_s46 (v : Unit) : Fr × LL := ([], [])
def gate_Wrong (a0 : Int) (a1 : (List (Int × (Int × Int)))) : Option Int :=
(forL (gate_Wrong_b43 a0) (fun x266 => (.brk ())) a1 0 ()).bind fun v398 =>
match v398 with
| .ret v403 =>
(some v403)
| .brk v404 =>
(some (0 : Int))
theorem gate_Wrong_ok {a0 : Int} {a1 : (List (Int × (Int × Int)))} {r : Int} (h : gate_Wrong a0 a1 = some r) : FnC Try.prog 35 [aI a0, aD (.slice (.pair tI (.pair tI tI))) a1] [] (aI r) [] := by
  refine fnC_of_W (B := bodyOf Try.f35) (n := 62) Try.func35 (by kernel_rfl) (by kernel_rfl) (by kernel_rfl) (by kernel_rfl) (by kernel_rfl) ?_
  intro K
  refine W_seq (by kernel_rfl) ?_
  refine W_run 1 [] [0, 1] [] (fr' := [(0, aI a0), (1, aD (.slice (.pair tI (.pair tI tI))) a1)]) (L' := []) (obs := []) (by kernel_rfl) (by kernel_rfl) (by kernel_rfl) allP0 ?_
  refine seqQ_norm ?_
  refine W_seq (by kernel_rfl) ?_
  refine W_seq (by kernel_rfl) ?_
  refine W_run 3 [] [0, 8, 9, 10] [] (fr' := [(0, aI a0), (8, aD (.slice (.pair tI (.pair tI tI))) a1), (9, aI (List.length a1 : Int)), (10, aI (0 : Int))]) (L' := []) (obs := []) (by kernel_rfl) (by kernel_rfl) (by kernel_rfl) allP0 ?_
  refine seqQ_norm ?_
  refine W_block (id := 0) (by kernel_rfl) ?_
  obtain ⟨v398, h399, h⟩ := bind_of h
  refine W_len (t := 8) (u := (.pair tI (.pair tI tI))) (xs := a1) (by kernel_rfl) (fun h402 => ?_)
  obtain ⟨h400, h401⟩ := forL_iter h402 h399
  refine W_weaken [0, 8, 9, 10] [] (fr' := ((gate_Wrong_s44 a0 a1) ((0 : Int), ())).1) (L' := ((gate_Wrong_s44 a0 a1) ((0 : Int), ())).2) (by kernel_rfl) ?_
  refine W_cutK (W_loop (S := (gate_Wrong_s44 a0 a1)) (J := (escQ (exQ .ret gate_Wrong_s45) (exQ (.exit 0) gate_Wrong_s46))) (by kernel_rfl) ?_ h400 _ v398 h401) ?_
  · rintro ⟨i265, x266⟩ s h
    refine W_seq (by kernel_rfl) ?_
    refine W_run 1 [] [0, 8, 9, 10, 11] [] (fr' := [(0, aI a0), (8, aD (.slice (.pair tI (.pair tI tI))) a1), (9, aI (List.length a1 : Int)), (10, aI i265), (11, aB (decide (i265 < (List.length a1 : Int))))]) (L' := []) (obs := []) (by kernel_rfl) (by kernel_rfl) (by kernel_rfl) allP0 ?_
    refine seqQ_norm ?_
    refine W_seq (by kernel_rfl) ?_
    refine W_cond (o := .tmp 11) (b := decide (i265 < (List.length a1 : Int))) (by kernel_rfl) (by kernel_rfl) (fun h270 => ?_) (fun h270 => ?_)
    · replace h := stepL_true h270 h
      obtain ⟨v268, _, h269, h, rfl⟩ := h
      refine W_skip [0, 8, 9, 10] [] (fr' := [(0, aI a0), (8, aD (.slice (.pair tI (.pair tI tI))) a1), (9, aI (List.length a1 : Int)), (10, aI i265)]) (L' := []) (by kernel_rfl) (by kernel_rfl) ?_
      refine seqQ_norm ?_
      refine W_seq (by kernel_rfl) ?_
      refine W_block (id := 1) (by kernel_rfl) ?_
      refine W_seq (by kernel_rfl) ?_
      refine W_run 7 [(3, .val (.dat (.pair tI (.pair tI tI)) v268)), (9, .typed)] [0, 5, 6, 8, 9, 10] [5, 6] (fr' := [(0, aI a0), (5, .one (.ptr 5 0)), (6, .one (.ptr 6 0)), (8, aD (.slice (.pair tI (.pair tI tI))) a1), (9, aI (List.length a1 : Int)), (10, aI i265)]) (L' := [(5, .cells [.dat tI i265]), (6, .one (.pair tI (.pair tI tI)) v268)]) (obs := [Idx a1 i265 v268, True, True]) (by kernel_rfl) (by kernel_rfl) (by kernel_rfl) (allP2 (Idx.of h269) (allP2 trivial (allP1 trivial))) ?_
      refine seqQ_norm ?_
      refine W_seq (by kernel_rfl) ?_
      refine W_run 2 [] [0, 6, 7, 8, 9, 10] [6, 5] (fr' := [(0, aI a0), (6, .one (.ptr 6 0)), (7, .one (.fn 45 [(5, 0)])), (8, aD (.slice (.pair tI (.pair tI tI))) a1), (9, aI (List.length a1 : Int)), (10, aI i265)]) (L' := [(6, .one (.pair tI (.pair tI tI)) v268), (5, .cells [.dat tI i265])]) (obs := []) (by kernel_rfl) (by kernel_rfl) (by kernel_rfl) allP0 ?_
      refine seqQ_norm ?_
      refine W_block (id := 2) (by kernel_rfl) ?_
      refine W_seq (by kernel_rfl) ?_
      obtain ⟨v337, h338, h⟩ := bind_of h
      refine W_cutK (Q' := (exQ .normal (gate_Wrong_s42 a0 a1 i265 v268)) v337) ?_ ?_
      · replace h := h338
        refine W_region (by kernel_rfl) ?_
        refine WO_run (j := 4) (k := 4) (orcs := []) (kF := [0, 6, 7, 8, 9, 10, 20]) (kL := [5, 6]) (fr' := [(0, aI a0), (6, .one (.ptr 6 0)), (7, .one (.fn 45 [(5, 0)])), (8, aD (.slice (.pair tI (.pair tI tI))) a1), (9, aI (List.length a1 : Int)), (10, aI i265), (20, aB (decide (v268.1 < (1 : Int))))]) (L' := [(5, .cells [.dat tI i265]), (6, .one (.pair tI (.pair tI tI)) v268)]) (obs := []) rfl (by kernel_rfl) allP0 ?_
        rcases Bool.eq_false_or_eq_true (decide (v268.1 < (1 : Int))) with h336 | h336
        · replace h := ofT h336 h
          refine WO_run (j := 9) (k := 5) (orcs := [(8, .known true), (10, .known true), (12, .known true), (15, .val (.dat .bool true))]) (kF := [0, 6, 7, 8, 9, 10, 16]) (kL := [5, 6]) (fr' := [(0, aI a0), (6, .one (.ptr 6 0)), (7, .one (.fn 45 [(5, 0)])), (8, aD (.slice (.pair tI (.pair tI tI))) a1), (9, aI (List.length a1 : Int)), (10, aI i265), (16, aB true)]) (L' := [(5, .cells [.dat tI i265]), (6, .one (.pair tI (.pair tI tI)) v268)]) (obs := [((decide (v268.1 < (1 : Int))) = true), ((decide (v268.1 < (1 : Int))) = true), ((decide (v268.1 < (1 : Int))) = true), ((decide (v268.1 < (1 : Int))) = true)]) rfl (by kernel_rfl) (allP2 h336 (allP2 h336 (allP2 h336 (allP1 h336)))) ?_
          obtain rfl := Option.some.inj h
          refine WO_fin [0, 6, 7, 8, 9, 10, 16] [6, 5] (fr' := [(0, aI a0), (6, .one (.ptr 6 0)), (7, .one (.fn 45 [(5, 0)])), (8, aD (.slice (.pair tI (.pair tI tI))) a1), (9, aI (List.length a1 : Int)), (10, aI i265), (16, aB true)]) (L' := [(6, .one (.pair tI (.pair tI tI)) v268), (5, .cells [.dat tI i265])]) (by kernel_rfl) (by kernel_rfl) ?_
          exact exQ_mk (by kernel_rfl) (by kernel_rfl)
        · replace h := ofF h336 h
          refine WO_run (j := 9) (k := 5) (orcs := [(8, .known false), (10, .known false), (12, .known false), (15, .val (.dat .bool false))]) (kF := [0, 6, 7, 8, 9, 10, 16]) (kL := [5, 6]) (fr' := [(0, aI a0), (6, .one (.ptr 6 0)), (7, .one (.fn 45 [(5, 0)])), (8, aD (.slice (.pair tI (.pair tI tI))) a1), (9, aI (List.length a1 : Int)), (10, aI i265), (16, aB (decide (v268.1 > (4 : Int))))]) (L' := [(5, .cells [.dat tI i265]), (6, .one (.pair tI (.pair tI tI)) v268)]) (obs := [((decide (v268.1 < (1 : Int))) = false), ((decide (v268.1 < (1 : Int))) = false), ((decide (v268.1 < (1 : Int))) = false), ((decide (v268.1 < (1 : Int))) = false)]) rfl (by kernel_rfl) (allP2 h336 (allP2 h336 (allP2 h336 (allP1 h336)))) ?_
          obtain rfl := Option.some.inj h
          refine WO_fin [0, 6, 7, 8, 9, 10, 16] [6, 5] (fr' := [(0, aI a0), (6, .one (.ptr 6 0)), (7, .one (.fn 45 [(5, 0)])), (8, aD (.slice (.pair tI (.pair tI tI))) a1), (9, aI (List.length a1 : Int)), (10, aI i265), (16, aB (decide (v268.1 > (4 : Int))))]) (L' := [(6, .one (.pair tI (.pair tI tI)) v268), (5, .cells [.dat tI i265])]) (by kernel_rfl) (by kernel_rfl) ?_
          exact exQ_mk (by kernel_rfl) (by kernel_rfl)
      · intro e fr L hJ
        obtain ⟨rfl, rfl, rfl⟩ := hJ
        refine LT_keep [0, 6, 7, 8, 9, 10, 16] [6, 5] (fr' := [(0, aI a0), (6, .one (.ptr 6 0)), (7, .one (.fn 45 [(5, 0)])), (8, aD (.slice (.pair tI (.pair tI tI))) a1), (9, aI (List.length a1 : Int)), (10, aI i265), (16, aB v337)]) (L' := [(6, .one (.pair tI (.pair tI tI)) v268), (5, .cells [.dat tI i265])]) (by kernel_rfl) ?_
        refine seqQ_norm ?_
        refine W_cond (o := .tmp 16) (b := v337) (by kernel_rfl) (by kernel_rfl) (fun h339 => ?_) (fun h339 => ?_)
        · replace h := ofT h339 h
          refine W_seq (by kernel_rfl) ?_
          refine W_run 1 [] [4] [] (fr' := [(4, aI (6 : Int))]) (L' := []) (obs := []) (by kernel_rfl) (by kernel_rfl) (by kernel_rfl) allP0 ?_
          refine seqQ_norm ?_
          obtain rfl := Option.some.inj h
          refine W_ret [4] [] (fr' := [(4, aI (6 : Int))]) (L' := []) (by kernel_rfl) (by kernel_rfl) ?_
          refine blockQ_ret ?_
          refine blockQ_ret ?_
          refine seqQ_ret ?_
          refine round_ret ?_
          refine escQ_ret ?_
          exact exQ_mk (by kernel_rfl) (by kernel_rfl)
        · replace h := ofF h339 h
          refine W_seq (by kernel_rfl) ?_
          obtain ⟨v346, h347, h⟩ := bind_of h
          refine W_cutK (Q' := (exQ .normal (gate_Wrong_s41 a0 a1 i265 v268)) v346) ?_ ?_
          · replace h := h347
            refine W_region (by kernel_rfl) ?_
            refine WO_run (j := 4) (k := 4) (orcs := []) (kF := [0, 6, 7, 8, 9, 10, 29]) (kL := [5, 6]) (fr' := [(0, aI a0), (6, .one (.ptr 6 0)), (7, .one (.fn 45 [(5, 0)])), (8, aD (.slice (.pair tI (.pair tI tI))) a1), (9, aI (List.length a1 : Int)), (10, aI i265), (29, aB (v268.1 == (1 : Int)))]) (L' := [(5, .cells [.dat tI i265]), (6, .one (.pair tI (.pair tI tI)) v268)]) (obs := []) rfl (by kernel_rfl) allP0 ?_
            rcases Bool.eq_false_or_eq_true (v268.1 == (1 : Int)) with h344 | h344
            · replace h := ofT h344 h
              refine WO_run (j := 8) (k := 4) (orcs := [(8, .known true), (10, .known true), (12, .known true), (14, .known true)]) (kF := [0, 6, 7, 8, 9, 10, 29, 33]) (kL := [5, 6]) (fr' := [(0, aI a0), (6, .one (.ptr 6 0)), (7, .one (.fn 45 [(5, 0)])), (8, aD (.slice (.pair tI (.pair tI tI))) a1), (9, aI (List.length a1 : Int)), (10, aI i265), (29, aB (v268.1 == (1 : Int))), (33, aB (decide (v268.2.1 < (0 : Int))))]) (L' := [(5, .cells [.dat tI i265]), (6, .one (.pair tI (.pair tI tI)) v268)]) (obs := [((v268.1 == (1 : Int)) = true), ((v268.1 == (1 : Int)) = true), ((v268.1 == (1 : Int)) = true), ((v268.1 == (1 : Int)) = true)]) rfl (by kernel_rfl) (allP2 h344 (allP2 h344 (allP2 h344 (allP1 h344)))) ?_
              rcases Bool.eq_false_or_eq_true (decide (v268.2.1 < (0 : Int))) with h345 | h345
              · replace h := ofT h345 h
                refine WO_run (j := 15) (k := 7) (orcs := [(16, .known true), (18, .known true), (20, .known true), (22, .known true), (24, .known true), (25, .val (.dat .bool true)), (27, .val (.dat .bool true))]) (kF := [0, 6, 7, 8, 9, 10, 25]) (kL := [5, 6]) (fr' := [(0, aI a0), (6, .one (.ptr 6 0)), (7, .one (.fn 45 [(5, 0)])), (8, aD (.slice (.pair tI (.pair tI tI))) a1), (9, aI (List.length a1 : Int)), (10, aI i265), (25, aB true)]) (L' := [(5, .cells [.dat tI i265]), (6, .one (.pair tI (.pair tI tI)) v268)]) (obs := [((decide (v268.2.1 < (0 : Int))) = true), ((decide (v268.2.1 < (0 : Int))) = true), ((decide (v268.2.1 < (0 : Int))) = true), ((decide (v268.2.1 < (0 : Int))) = true), ((v268.1 == (1 : Int)) = true), ((decide (v268.2.1 < (0 : Int))) = true), ((v268.1 == (1 : Int)) = true)]) rfl (by kernel_rfl) (allP2 h345 (allP2 h345 (allP2 h345 (allP2 h345 (allP2 h344 (allP2 h345 (allP1 h344))))))) ?_
                obtain rfl := Option.some.inj h
                refine WO_fin [0, 6, 7, 8, 9, 10, 25] [6, 5] (fr' := [(0, aI a0), (6, .one (.ptr 6 0)), (7, .one (.fn 45 [(5, 0)])), (8, aD (.slice (.pair tI (.pair tI tI))) a1), (9, aI (List.length a1 : Int)), (10, aI i265), (25, aB true)]) (L' := [(6, .one (.pair tI (.pair tI tI)) v268), (5, .cells [.dat tI i265])]) (by kernel_rfl) (by kernel_rfl) ?_
                exact exQ_mk (by kernel_rfl) (by kernel_rfl)
              · replace h := ofF h345 h
                refine WO_run (j := 15) (k := 7) (orcs := [(16, .known false), (18, .known false), (20, .known false), (22, .known false), (24, .known true), (25, .val (.dat .bool false)), (27, .val (.dat .bool true))]) (kF := [0, 6, 7, 8, 9, 10, 25]) (kL := [5, 6]) (fr' := [(0, aI a0), (6, .one (.ptr 6 0)), (7, .one (.fn 45 [(5, 0)])), (8, aD (.slice (.pair tI (.pair tI tI))) a1), (9, aI (List.length a1 : Int)), (10, aI i265), (25, aB (decide (v268.2.1 ≥ a0)))]) (L' := [(5, .cells [.dat tI i265]), (6, .one (.pair tI (.pair tI tI)) v268)]) (obs := [((decide (v268.2.1 < (0 : Int))) = false), ((decide (v268.2.1 < (0 : Int))) = false), ((decide (v268.2.1 < (0 : Int))) = false), ((decide (v268.2.1 < (0 : Int))) = false), ((v268.1 == (1 : Int)) = true), ((decide (v268.2.1 < (0 : Int))) = false), ((v268.1 == (1 : Int)) = true)]) rfl (by kernel_rfl) (allP2 h345 (allP2 h345 (allP2 h345 (allP2 h345 (allP2 h344 (allP2 h345 (allP1 h344))))))) ?_
                obtain rfl := Option.some.inj h
                refine WO_fin [0, 6, 7, 8, 9, 10, 25] [6, 5] (fr' := [(0, aI a0), (6, .one (.ptr 6 0)), (7, .one (.fn 45 [(5, 0)])), (8, aD (.slice (.pair tI (.pair tI tI))) a1), (9, aI (List.length a1 : Int)), (10, aI i265), (25, aB (decide (v268.2.1 ≥ a0)))]) (L' := [(6, .one (.pair tI (.pair tI tI)) v268), (5, .cells [.dat tI i265])]) (by kernel_rfl) (by kernel_rfl) ?_
                exact exQ_mk (by kernel_rfl) (by kernel_rfl)
            · replace h := ofF h344 h
              refine WO_run (j := 15) (k := 11) (orcs := [(8, .known false), (10, .known false), (12, .known false), (14, .known false), (16, .known true), (18, .known true), (20, .known true), (22, .known true), (24, .known false), (27, .val (.dat .bool false))]) (kF := [0, 6, 7, 8, 9, 10, 25]) (kL := [5, 6]) (fr' := [(0, aI a0), (6, .one (.ptr 6 0)), (7, .one (.fn 45 [(5, 0)])), (8, aD (.slice (.pair tI (.pair tI tI))) a1), (9, aI (List.length a1 : Int)), (10, aI i265), (25, aB false)]) (L' := [(5, .cells [.dat tI i265]), (6, .one (.pair tI (.pair tI tI)) v268)]) (obs := [((v268.1 == (1 : Int)) = false), ((v268.1 == (1 : Int)) = false), ((v268.1 == (1 : Int)) = false), ((v268.1 == (1 : Int)) = false), ((v268.1 == (1 : Int)) = false), ((v268.1 == (1 : Int)) = false)]) rfl (by kernel_rfl) (allP2 h344 (allP2 h344 (allP2 h344 (allP2 h344 (allP2 h344 (allP1 h344)))))) ?_
              obtain rfl := Option.some.inj h
              refine WO_fin [0, 6, 7, 8, 9, 10, 25] [6, 5] (fr' := [(0, aI a0), (6, .one (.ptr 6 0)), (7, .one (.fn 45 [(5, 0)])), (8, aD (.slice (.pair tI (.pair tI tI))) a1), (9, aI (List.length a1 : Int)), (10, aI i265), (25, aB false)]) (L' := [(6, .one (.pair tI (.pair tI tI)) v268), (5, .cells [.dat tI i265])]) (by kernel_rfl) (by kernel_rfl) ?_
              exact exQ_mk (by kernel_rfl) (by kernel_rfl)
          · intro e fr L hJ
            obtain ⟨rfl, rfl, rfl⟩ := hJ
            refine LT_keep [0, 6, 7, 8, 9, 10, 25] [6, 5] (fr' := [(0, aI a0), (6, .one (.ptr 6 0)), (7, .one (.fn 45 [(5, 0)])), (8, aD (.slice (.pair tI (.pair tI tI))) a1), (9, aI (List.length a1 : Int)), (10, aI i265), (25, aB v346)]) (L' := [(6, .one (.pair tI (.pair tI tI)) v268), (5, .cells [.dat tI i265])]) (by kernel_rfl) ?_
            refine seqQ_norm ?_
            refine W_cond (o := .tmp 25) (b := v346) (by kernel_rfl) (by kernel_rfl) (fun h348 => ?_) (fun h348 => ?_)
            · replace h := ofT h348 h
              refine W_seq (by kernel_rfl) ?_
              refine W_run 1 [] [4] [] (fr' := [(4, aI (4 : Int))]) (L' := []) (obs := []) (by kernel_rfl) (by kernel_rfl) (by kernel_rfl) allP0 ?_
              refine seqQ_norm ?_
              obtain rfl := Option.some.inj h
              refine W_ret [4] [] (fr' := [(4, aI (4 : Int))]) (L' := []) (by kernel_rfl) (by kernel_rfl) ?_
              refine blockQ_ret ?_
              refine blockQ_ret ?_
              refine seqQ_ret ?_
              refine round_ret ?_
              refine escQ_ret ?_
              exact exQ_mk (by kernel_rfl) (by kernel_rfl)
            · replace h := ofF h348 h
              refine W_seq (by kernel_rfl) ?_
              obtain ⟨v394, h395, h⟩ := bind_of h
              refine W_cutK (Q' := (exQ .normal (gate_Wrong_s40 a0 a1 i265)) v394) ?_ ?_
              · replace h := h395
                refine W_seq (by kernel_rfl) ?_
                obtain ⟨v388, h389, h⟩ := bind_of h
                refine W_cutK (Q' := (exQ .normal (gate_Wrong_s38 a0 a1 i265 v268)) v388) ?_ ?_
                · replace h := h389
                  refine W_region (by kernel_rfl) ?_
                  refine WO_run (j := 4) (k := 4) (orcs := []) (kF := [0, 6, 7, 8, 9, 10, 44]) (kL := [5, 6]) (fr' := [(0, aI a0), (6, .one (.ptr 6 0)), (7, .one (.fn 45 [(5, 0)])), (8, aD (.slice (.pair tI (.pair tI tI))) a1), (9, aI (List.length a1 : Int)), (10, aI i265), (44, aB (decide (v268.1 > (1 : Int))))]) (L' := [(5, .cells [.dat tI i265]), (6, .one (.pair tI (.pair tI tI)) v268)]) (obs := []) rfl (by kernel_rfl) allP0 ?_
                  rcases Bool.eq_false_or_eq_true (decide (v268.1 > (1 : Int))) with h385 | h385
                  · replace h := ofT h385 h
                    refine WO_run (j := 7) (k := 3) (orcs := [(8, .known true), (10, .known true), (12, .known true)]) (kF := [0, 6, 7, 8, 9, 10, 44, 45, 47]) (kL := [5, 6]) (fr' := [(0, aI a0), (6, .one (.ptr 6 0)), (7, .one (.fn 45 [(5, 0)])), (8, aD (.slice (.pair tI (.pair tI tI))) a1), (9, aI (List.length a1 : Int)), (10, aI i265), (44, aB (decide (v268.1 > (1 : Int)))), (45, .one (.fn 45 [(5, 0)])), (47, aI v268.2.1)]) (L' := [(5, .cells [.dat tI i265]), (6, .one (.pair tI (.pair tI tI)) v268)]) (obs := [((decide (v268.1 > (1 : Int))) = true), ((decide (v268.1 > (1 : Int))) = true), ((decide (v268.1 > (1 : Int))) = true)]) rfl (by kernel_rfl) (allP2 h385 (allP2 h385 (allP1 h385))) ?_
                    obtain ⟨r386, h387, h⟩ := bind_of h
                    refine WO_lend [(1000, 5)] (us := [none, none]) (d := 48) (p := ((decide (v268.1 > (1 : Int))) = true)) (j := 8) rfl ⟨by kernel_rfl, by kernel_rfl, by kernel_rfl⟩ h385 (gate_Wrong_1_ok h387) (by kernel_rfl) (by kernel_rfl) ?_
                    refine WO_run (j := 11) (k := 3) (orcs := [(16, .known true), (19, .val (.dat .bool true))]) (kF := [0, 6, 7, 8, 9, 10, 40]) (kL := [5, 6]) (fr' := [(0, aI a0), (6, .one (.ptr 6 0)), (7, .one (.fn 45 [(5, 0)])), (8, aD (.slice (.pair tI (.pair tI tI))) a1), (9, aI (List.length a1 : Int)), (10, aI i265), (40, aB (!r386))]) (L' := [(5, .cells [.dat tI i265]), (6, .one (.pair tI (.pair tI tI)) v268)]) (obs := [((decide (v268.1 > (1 : Int))) = true), ((decide (v268.1 > (1 : Int))) = true)]) rfl (by kernel_rfl) (allP2 h385 (allP1 h385)) ?_
                    obtain rfl := Option.some.inj h
                    refine WO_fin [0, 6, 7, 8, 9, 10, 40] [6, 5] (fr' := [(0, aI a0), (6, .one (.ptr 6 0)), (7, .one (.fn 45 [(5, 0)])), (8, aD (.slice (.pair tI (.pair tI tI))) a1), (9, aI (List.length a1 : Int)), (10, aI i265), (40, aB (!r386))]) (L' := [(6, .one (.pair tI (.pair tI tI)) v268), (5, .cells [.dat tI i265])]) (by kernel_rfl) (by kernel_rfl) ?_
                    exact exQ_mk (by kernel_rfl) (by kernel_rfl)
                  · replace h := ofF h385 h
                    refine WO_run (j := 11) (k := 7) (orcs := [(8, .known false), (10, .known false), (12, .known false), (14, .known false), (16, .known false), (19, .val (.dat .bool false))]) (kF := [0, 6, 7, 8, 9, 10, 40]) (kL := [5, 6]) (fr' := [(0, aI a0), (6, .one (.ptr 6 0)), (7, .one (.fn 45 [(5, 0)])), (8, aD (.slice (.pair tI (.pair tI tI))) a1), (9, aI (List.length a1 : Int)), (10, aI i265), (40, aB false)]) (L' := [(5, .cells [.dat tI i265]), (6, .one (.pair tI (.pair tI tI)) v268)]) (obs := [((decide (v268.1 > (1 : Int))) = false), ((decide (v268.1 > (1 : Int))) = false), ((decide (v268.1 > (1 : Int))) = false), ((decide (v268.1 > (1 : Int))) = false), ((decide (v268.1 > (1 : Int))) = false), ((decide (v268.1 > (1 : Int))) = false)]) rfl (by kernel_rfl) (allP2 h385 (allP2 h385 (allP2 h385 (allP2 h385 (allP2 h385 (allP1 h385)))))) ?_
                    obtain rfl := Option.some.inj h
                    refine WO_fin [0, 6, 7, 8, 9, 10, 40] [6, 5] (fr' := [(0, aI a0), (6, .one (.ptr 6 0)), (7, .one (.fn 45 [(5, 0)])), (8, aD (.slice (.pair tI (.pair tI tI))) a1), (9, aI (List.length a1 : Int)), (10, aI i265), (40, aB false)]) (L' := [(6, .one (.pair tI (.pair tI tI)) v268), (5, .cells [.dat tI i265])]) (by kernel_rfl) (by kernel_rfl) ?_
                    exact exQ_mk (by kernel_rfl) (by kernel_rfl)
                · intro e fr L hJ
                  obtain ⟨rfl, rfl, rfl⟩ := hJ
                  refine LT_keep [0, 6, 7, 8, 9, 10, 40] [6, 5] (fr' := [(0, aI a0), (6, .one (.ptr 6 0)), (7, .one (.fn 45 [(5, 0)])), (8, aD (.slice (.pair tI (.pair tI tI))) a1), (9, aI (List.length a1 : Int)), (10, aI i265), (40, aB v388)]) (L' := [(6, .one (.pair tI (.pair tI tI)) v268), (5, .cells [.dat tI i265])]) (by kernel_rfl) ?_
                  refine seqQ_norm ?_
                  refine W_cond (o := .tmp 40) (b := v388) (by kernel_rfl) (by kernel_rfl) (fun h390 => ?_) (fun h390 => ?_)
                  · replace h := ofT h390 h
                    obtain rfl := Option.some.inj h
                    refine W_skip [0, 8, 9, 10, 40] [] (fr' := [(0, aI a0), (8, aD (.slice (.pair tI (.pair tI tI))) a1), (9, aI (List.length a1 : Int)), (10, aI i265), (40, aB v388)]) (L' := []) (by kernel_rfl) (by kernel_rfl) ?_
                    exact exQ_mk (by kernel_rfl) (by kernel_rfl)
                  · replace h := ofF h390 h
                    refine W_region (by kernel_rfl) ?_
                    refine WO_run (j := 4) (k := 4) (orcs := []) (kF := [0, 6, 7, 8, 9, 10, 40, 54]) (kL := [5, 6]) (fr' := [(0, aI a0), (6, .one (.ptr 6 0)), (7, .one (.fn 45 [(5, 0)])), (8, aD (.slice (.pair tI (.pair tI tI))) a1), (9, aI (List.length a1 : Int)), (10, aI i265), (40, aB v388), (54, aB (decide (v268.1 > (2 : Int))))]) (L' := [(5, .cells [.dat tI i265]), (6, .one (.pair tI (.pair tI tI)) v268)]) (obs := []) rfl (by kernel_rfl) allP0 ?_
                    rcases Bool.eq_false_or_eq_true (decide (v268.1 > (2 : Int))) with h391 | h391
                    · replace h := ofT h391 h
                      refine WO_run (j := 7) (k := 3) (orcs := [(8, .known true), (10, .known true), (12, .known true)]) (kF := [0, 8, 9, 10, 40, 54, 55, 57]) (kL := [5, 6]) (fr' := [(0, aI a0), (8, aD (.slice (.pair tI (.pair tI tI))) a1), (9, aI (List.length a1 : Int)), (10, aI i265), (40, aB v388), (54, aB (decide (v268.1 > (2 : Int)))), (55, .one (.fn 45 [(5, 0)])), (57, aI v268.2.2)]) (L' := [(5, .cells [.dat tI i265]), (6, .one (.pair tI (.pair tI tI)) v268)]) (obs := [((decide (v268.1 > (2 : Int))) = true), ((decide (v268.1 > (2 : Int))) = true), ((decide (v268.1 > (2 : Int))) = true)]) rfl (by kernel_rfl) (allP2 h391 (allP2 h391 (allP1 h391))) ?_
                      obtain ⟨r392, h393, h⟩ := bind_of h
                      refine WO_lend [(1000, 5)] (us := [none, none]) (d := 58) (p := ((decide (v268.1 > (2 : Int))) = true)) (j := 8) rfl ⟨by kernel_rfl, by kernel_rfl, by kernel_rfl⟩ h391 (gate_Wrong_1_ok h393) (by kernel_rfl) (by kernel_rfl) ?_
                      refine WO_run (j := 11) (k := 3) (orcs := [(16, .known true), (19, .val (.dat .bool true))]) (kF := [0, 8, 9, 10, 40]) (kL := [5, 6]) (fr' := [(0, aI a0), (8, aD (.slice (.pair tI (.pair tI tI))) a1), (9, aI (List.length a1 : Int)), (10, aI i265), (40, aB (!r392))]) (L' := [(5, .cells [.dat tI i265]), (6, .one (.pair tI (.pair tI tI)) v268)]) (obs := [((decide (v268.1 > (2 : Int))) = true), ((decide (v268.1 > (2 : Int))) = true)]) rfl (by kernel_rfl) (allP2 h391 (allP1 h391)) ?_
                      obtain rfl := Option.some.inj h
                      refine WO_fin [0, 8, 9, 10, 40] [] (fr' := [(0, aI a0), (8, aD (.slice (.pair tI (.pair tI tI))) a1), (9, aI (List.length a1 : Int)), (10, aI i265), (40, aB (!r392))]) (L' := []) (by kernel_rfl) (by kernel_rfl) ?_
                      exact exQ_mk (by kernel_rfl) (by kernel_rfl)
                    · replace h := ofF h391 h
                      refine WO_run (j := 11) (k := 7) (orcs := [(8, .known false), (10, .known false), (12, .known false), (14, .known false), (16, .known false), (19, .val (.dat .bool false))]) (kF := [0, 8, 9, 10, 40]) (kL := [5, 6]) (fr' := [(0, aI a0), (8, aD (.slice (.pair tI (.pair tI tI))) a1), (9, aI (List.length a1 : Int)), (10, aI i265), (40, aB false)]) (L' := [(5, .cells [.dat tI i265]), (6, .one (.pair tI (.pair tI tI)) v268)]) (obs := [((decide (v268.1 > (2 : Int))) = false), ((decide (v268.1 > (2 : Int))) = false), ((decide (v268.1 > (2 : Int))) = false), ((decide (v268.1 > (2 : Int))) = false), ((decide (v268.1 > (2 : Int))) = false), ((decide (v268.1 > (2 : Int))) = false)]) rfl (by kernel_rfl) (allP2 h391 (allP2 h391 (allP2 h391 (allP2 h391 (allP2 h391 (allP1 h391)))))) ?_
                      obtain rfl := Option.some.inj h
                      refine WO_fin [0, 8, 9, 10, 40] [] (fr' := [(0, aI a0), (8, aD (.slice (.pair tI (.pair tI tI))) a1), (9, aI (List.length a1 : Int)), (10, aI i265), (40, aB false)]) (L' := []) (by kernel_rfl) (by kernel_rfl) ?_
                      exact exQ_mk (by kernel_rfl) (by kernel_rfl)
              · intro e fr L hJ
                obtain ⟨rfl, rfl, rfl⟩ := hJ
                refine LT_keep [0, 8, 9, 10, 40] [] (fr' := [(0, aI a0), (8, aD (.slice (.pair tI (.pair tI tI))) a1), (9, aI (List.length a1 : Int)), (10, aI i265), (40, aB v394)]) (L' := []) (by kernel_rfl) ?_
                refine seqQ_norm ?_
                refine W_cond (o := .tmp 40) (b := v394) (by kernel_rfl) (by kernel_rfl) (fun h396 => ?_) (fun h396 => ?_)
                · replace h := ofT h396 h
                  refine W_seq (by kernel_rfl) ?_
                  refine W_run 1 [] [4] [] (fr' := [(4, aI (2 : Int))]) (L' := []) (obs := []) (by kernel_rfl) (by kernel_rfl) (by kernel_rfl) allP0 ?_
                  refine seqQ_norm ?_
                  obtain rfl := Option.some.inj h
                  refine W_ret [4] [] (fr' := [(4, aI (2 : Int))]) (L' := []) (by kernel_rfl) (by kernel_rfl) ?_
                  refine blockQ_ret ?_
                  refine blockQ_ret ?_
                  refine seqQ_ret ?_
                  refine round_ret ?_
                  refine escQ_ret ?_
                  exact exQ_mk (by kernel_rfl) (by kernel_rfl)
                · replace h := ofF h396 h
                  refine W_skip [0, 8, 9, 10] [] (fr' := [(0, aI a0), (8, aD (.slice (.pair tI (.pair tI tI))) a1), (9, aI (List.length a1 : Int)), (10, aI i265)]) (L' := []) (by kernel_rfl) (by kernel_rfl) ?_
                  refine blockQ_norm ?_
                  refine blockQ_norm ?_
                  refine seqQ_norm ?_
                  obtain rfl := Option.some.inj h
                  refine W_run 2 [] [0, 8, 9, 10] [] (fr' := [(0, aI a0), (8, aD (.slice (.pair tI (.pair tI tI))) a1), (9, aI (List.length a1 : Int)), (10, aI (w64 (i265 + (1 : Int))))]) (L' := []) (obs := []) (by kernel_rfl) (by kernel_rfl) (by kernel_rfl) allP0 ?_
                  exact round_next' (by kernel_rfl) (by kernel_rfl)
    · obtain rfl := stepL_false h270 h
      refine W_exit (id := 0) [] [] (fr' := []) (L' := []) (by kernel_rfl) (by kernel_rfl) ?_
      refine seqQ_exit ?_
      refine round_exit ?_
      refine escQ_brk ?_
      exact exQ_mk (by kernel_rfl) (by kernel_rfl)
  · intro e fr L hJ
    rcases v398 with v403 | v404
    · obtain ⟨rfl, rfl, rfl⟩ := hJ
      obtain rfl := Option.some.inj h
      refine LT_keep [4] [] (fr' := [(4, aI v403)]) (L' := []) (by kernel_rfl) ?_
      refine blockQ_ret ?_
      refine seqQ_ret ?_
      exact retQ_mk (by kernel_rfl) (by kernel_rfl) (by kernel_rfl)
    · obtain ⟨rfl, rfl, rfl⟩ := hJ
      refine LT_keep [] [] (fr' := []) (L' := []) (by kernel_rfl) ?_
      refine blockQ_hit ?_
      refine seqQ_norm ?_
      refine W_seq (by kernel_rfl) ?_
      refine W_run 1 [] [4] [] (fr' := [(4, aI (0 : Int))]) (L' := []) (obs := []) (by kernel_rfl) (by kernel_rfl) (by kernel_rfl) allP0 ?_
      refine seqQ_norm ?_
      obtain rfl := Option.some.inj h
      refine W_ret [4] [] (fr' := [(4, aI (0 : Int))]) (L' := []) (by kernel_rfl) (by kernel_rfl) ?_
      exact retQ_mk (by kernel_rfl) (by kernel_rfl) (by kernel_rfl)

def gate_Check (a0 : Int) (a1 : (List (Int × (Int × Int)))) : Option Int :=
bif (((decide (a0 < (0 : Int))) || (decide (a0 > (5 : Int)))) || (decide ((List.length a1 : Int) < (1 : Int)))) || (decide ((List.length a1 : Int) > (40 : Int))) then
(some (1 : Int))
else
((gate_Wrong a0 a1).bind fun r2 =>
some r2)
theorem gate_Check_ok {a0 : Int} {a1 : (List (Int × (Int × Int)))} {r : Int} (h : gate_Check a0 a1 = some r) : FnC Try.prog 13 [aI a0, aD (.slice (.pair tI (.pair tI tI))) a1] [] (aI r) [] := by
  refine fnC_of_W (B := bodyOf Try.f13) (n := 24) Try.func13 (by kernel_rfl) (by kernel_rfl) (by kernel_rfl) (by kernel_rfl) (by kernel_rfl) ?_
  intro K
  refine W_seq (by kernel_rfl) ?_
  refine W_run 1 [] [0, 1] [] (fr' := [(0, aI a0), (1, aD (.slice (.pair tI (.pair tI tI))) a1)]) (L' := []) (obs := []) (by kernel_rfl) (by kernel_rfl) (by kernel_rfl) allP0 ?_
  refine seqQ_norm ?_
  refine W_seq (by kernel_rfl) ?_
  refine W_seq (by kernel_rfl) ?_
  refine W_run 16 [] [0, 1, 20] [] (fr' := [(0, aI a0), (1, aD (.slice (.pair tI (.pair tI tI))) a1), (20, aB ((((decide (a0 < (0 : Int))) || (decide (a0 > (5 : Int)))) || (decide ((List.length a1 : Int) < (1 : Int)))) || (decide ((List.length a1 : Int) > (40 : Int)))))]) (L' := []) (obs := []) (by kernel_rfl) (by kernel_rfl) (by kernel_rfl) allP0 ?_
  refine seqQ_norm ?_
  refine W_cond (o := .tmp 20) (b := (((decide (a0 < (0 : Int))) || (decide (a0 > (5 : Int)))) || (decide ((List.length a1 : Int) < (1 : Int)))) || (decide ((List.length a1 : Int) > (40 : Int)))) (by kernel_rfl) (by kernel_rfl) (fun h1 => ?_) (fun h1 => ?_)
  · replace h := ofT h1 h
    refine W_seq (by kernel_rfl) ?_
    refine W_run 1 [] [4] [] (fr' := [(4, aI (1 : Int))]) (L' := []) (obs := []) (by kernel_rfl) (by kernel_rfl) (by kernel_rfl) allP0 ?_
    refine seqQ_norm ?_
    obtain rfl := Option.some.inj h
    refine W_ret [4] [] (fr' := [(4, aI (1 : Int))]) (L' := []) (by kernel_rfl) (by kernel_rfl) ?_
    refine seqQ_ret ?_
    exact retQ_mk (by kernel_rfl) (by kernel_rfl) (by kernel_rfl)
  · replace h := ofF h1 h
    refine W_skip [0, 1] [] (fr' := [(0, aI a0), (1, aD (.slice (.pair tI (.pair tI tI))) a1)]) (L' := []) (by kernel_rfl) (by kernel_rfl) ?_
    refine seqQ_norm ?_
    refine W_seq (by kernel_rfl) ?_
    refine W_region (by kernel_rfl) ?_
    refine WO_run (j := 2) (k := 2) (orcs := []) (kF := [21, 22]) (kL := []) (fr' := [(21, aI a0), (22, aD (.slice (.pair tI (.pair tI tI))) a1)]) (L' := []) (obs := []) rfl (by kernel_rfl) allP0 ?_
    obtain ⟨r2, h3, h⟩ := bind_of h
    refine WO_call0 (us := [none, none]) (d := 23) (p := True) (j := 3) rfl ⟨by kernel_rfl, by kernel_rfl, by kernel_rfl⟩ trivial (gate_Wrong_ok h3) (by kernel_rfl) ?_
    refine WO_run (j := 4) (k := 1) (orcs := []) (kF := [4]) (kL := []) (fr' := [(4, aI r2)]) (L' := []) (obs := []) rfl (by kernel_rfl) allP0 ?_
    refine WO_fin [4] [] (fr' := [(4, aI r2)]) (L' := []) (by kernel_rfl) (by kernel_rfl) ?_
    refine seqQ_norm ?_
    obtain rfl := Option.some.inj h
    refine W_ret [4] [] (fr' := [(4, aI r2)]) (L' := []) (by kernel_rfl) (by kernel_rfl) ?_
    exact retQ_mk (by kernel_rfl) (by kernel_rfl) (by kernel_rfl)

@[reducible] def gate_Deep_s7 (a1 : (List (Int × (Int × Int)))) (i70 : Int) (x71 : (List Int)) (v : Int) : Fr × LL := ([(1, aD (.slice (.pair tI (.pair tI tI))) a1), (7, .one (.slc 46)), (10, aI v), (17, aD (.slice (.pair tI (.pair tI tI))) a1), (18, aI (List.length a1 : Int)), (19, aI i70)], [(46, .seq tI x71)])
@[reducible] def gate_Deep_s8 (a1 : (List (Int × (Int × Int)))) (i70 : Int) (x71 : (List Int)) (v73 : (Int × (Int × Int))) (v : Int) : Fr × LL := ([(1, aD (.slice (.pair tI (.pair tI tI))) a1), (7, .one (.slc 46)), (9, .one (.ptr 9 0)), (10, aI v), (17, aD (.slice (.pair tI (.pair tI tI))) a1), (18, aI (List.length a1 : Int)), (19, aI i70)], [(46, .seq tI x71), (9, .one (.pair tI (.pair tI tI)) v73)])
def gate_Deep_b9 (i70 : Int) (v73 : (Int × (Int × Int))) (x71 : (List Int)) : Option (Flow (List Int) (List Int)) :=
(bif decide (v73.1 > (1 : Int)) then
((idx x71 v73.2.1).bind fun v106 =>
some (w64 (v106 + (1 : Int))))
else
(some (0 : Int))).bind fun v108 =>
(bif decide (v73.1 > (2 : Int)) then
((idx x71 v73.2.2).bind fun v117 =>
some (imax v108 (w64 (v117 + (1 : Int)))))
else
(some v108)).bind fun v119 =>
(ck ((List.length x71 : Int) + 1 ≤ 4294967296)).bind fun _ =>
some (.next (x71 ++ [v119]))
@[reducible] def gate_Deep_s10 (a1 : (List (Int × (Int × Int)))) (v : Int × (List Int)) : Fr × LL := ([(1, aD (.slice (.pair tI (.pair tI tI))) a1), (7, .one (.slc 46)), (17, aD (.slice (.pair tI (.pair tI tI))) a1), (18, aI (List.length a1 : Int)), (19, aI v.1)], [(46, .seq tI v.2)])
@[reducible] def gate_Deep_s11 (a1 : (List (Int × (Int × Int)))) (v : (List Int)) : Fr × LL := ([(1, aD (.slice (.pair tI (.pair tI tI))) a1), (7, .one (.slc 46))], [(46, .seq tI v)])
def gate_Deep (a0 : Int) (a1 : (List (Int × (Int × Int)))) : Option (Int × Int) :=
(gate_Check a0 a1).bind fun r1 =>
bif r1 != (0 : Int) then
(some ((0 : Int), r1))
else
((forL gate_Deep_b9 (fun x71 => x71) a1 0 []).bind fun v123 =>
(idx v123 (w64 ((List.length a1 : Int) - (1 : Int)))).bind fun v128 =>
some (v128, (0 : Int)))
theorem gate_Deep_ok {a0 : Int} {a1 : (List (Int × (Int × Int)))} {r : (Int × Int)} (h : gate_Deep a0 a1 = some r) : FnC Try.prog 15 [aI a0, aD (.slice (.pair tI (.pair tI tI))) a1] [] (.tup [.dat tI r.1, .dat tI r.2]) [] := by
  refine fnC_of_W (B := bodyOf Try.f15) (n := 54) Try.func15 (by kernel_rfl) (by kernel_rfl) (by kernel_rfl) (by kernel_rfl) (by kernel_rfl) ?_
  intro K
  refine W_seq (by kernel_rfl) ?_
  refine W_run 2 [] [0, 1] [] (fr' := [(0, aI a0), (1, aD (.slice (.pair tI (.pair tI tI))) a1)]) (L' := []) (obs := []) (by kernel_rfl) (by kernel_rfl) (by kernel_rfl) allP0 ?_
  refine seqQ_norm ?_
  refine W_seq (by kernel_rfl) ?_
  refine W_seq (by kernel_rfl) ?_
  refine W_region (by kernel_rfl) ?_
  refine WO_run (j := 2) (k := 2) (orcs := []) (kF := [1, 11, 12]) (kL := []) (fr' := [(1, aD (.slice (.pair tI (.pair tI tI))) a1), (11, aI a0), (12, aD (.slice (.pair tI (.pair tI tI))) a1)]) (L' := []) (obs := []) rfl (by kernel_rfl) allP0 ?_
  obtain ⟨r1, h2, h⟩ := bind_of h
  refine WO_call0 (us := [none, none]) (d := 13) (p := True) (j := 3) rfl ⟨by kernel_rfl, by kernel_rfl, by kernel_rfl⟩ trivial (gate_Check_ok h2) (by kernel_rfl) ?_
  refine WO_run (j := 4) (k := 1) (orcs := []) (kF := [1, 6]) (kL := []) (fr' := [(1, aD (.slice (.pair tI (.pair tI tI))) a1), (6, aI r1)]) (L' := []) (obs := []) rfl (by kernel_rfl) allP0 ?_
  refine WO_fin [1, 6] [] (fr' := [(1, aD (.slice (.pair tI (.pair tI tI))) a1), (6, aI r1)]) (L' := []) (by kernel_rfl) (by kernel_rfl) ?_
  refine seqQ_norm ?_
  refine W_seq (by kernel_rfl) ?_
  refine W_run 2 [] [1, 6, 15] [] (fr' := [(1, aD (.slice (.pair tI (.pair tI tI))) a1), (6, aI r1), (15, aB (r1 != (0 : Int)))]) (L' := []) (obs := []) (by kernel_rfl) (by kernel_rfl) (by kernel_rfl) allP0 ?_
  refine seqQ_norm ?_
  refine W_cond (o := .tmp 15) (b := r1 != (0 : Int)) (by kernel_rfl) (by kernel_rfl) (fun h3 => ?_) (fun h3 => ?_)
  · replace h := ofT h3 h
    refine W_seq (by kernel_rfl) ?_
    refine W_run 3 [] [4, 5] [] (fr' := [(4, aI (0 : Int)), (5, aI r1)]) (L' := []) (obs := []) (by kernel_rfl) (by kernel_rfl) (by kernel_rfl) allP0 ?_
    refine seqQ_norm ?_
    obtain rfl := Option.some.inj h
    refine W_ret [4, 5] [] (fr' := [(4, aI (0 : Int)), (5, aI r1)]) (L' := []) (by kernel_rfl) (by kernel_rfl) ?_
    refine seqQ_ret ?_
    exact retQ_mk (by kernel_rfl) (by kernel_rfl) (by kernel_rfl)
  · replace h := ofF h3 h
    refine W_skip [1] [] (fr' := [(1, aD (.slice (.pair tI (.pair tI tI))) a1)]) (L' := []) (by kernel_rfl) (by kernel_rfl) ?_
    refine seqQ_norm ?_
    refine W_seq (by kernel_rfl) ?_
    refine W_run 1 [] [1, 7] [] (fr' := [(1, aD (.slice (.pair tI (.pair tI tI))) a1), (7, .one (.nilS))]) (L' := []) (obs := []) (by kernel_rfl) (by kernel_rfl) (by kernel_rfl) allP0 ?_
    refine seqQ_norm ?_
    refine W_seq (by kernel_rfl) ?_
    refine W_seq (by kernel_rfl) ?_
    refine W_run 3 [] [1, 7, 17, 18, 19] [] (fr' := [(1, aD (.slice (.pair tI (.pair tI tI))) a1), (7, .one (.nilS)), (17, aD (.slice (.pair tI (.pair tI tI))) a1), (18, aI (List.length a1 : Int)), (19, aI (0 : Int))]) (L' := []) (obs := []) (by kernel_rfl) (by kernel_rfl) (by kernel_rfl) allP0 ?_
    refine seqQ_norm ?_
    refine W_block (id := 0) (by kernel_rfl) ?_
    obtain ⟨v123, h124, h⟩ := bind_of h
    refine W_len (t := 17) (u := (.pair tI (.pair tI tI))) (xs := a1) (by kernel_rfl) (fun h127 => ?_)
    obtain ⟨h125, h126⟩ := forL_iter h127 h124
    refine W_mine 7 46 tI (by kernel_rfl) ?_
    refine W_weaken [1, 7, 17, 18, 19] [46] (fr' := ((gate_Deep_s10 a1) ((0 : Int), [])).1) (L' := ((gate_Deep_s10 a1) ((0 : Int), [])).2) (by kernel_rfl) ?_
    refine W_cutK (W_loop (S := (gate_Deep_s10 a1)) (J := (exQ (.exit 0) (gate_Deep_s11 a1))) (by kernel_rfl) ?_ h125 _ v123 h126) ?_
    · rintro ⟨i70, x71⟩ s h
      refine W_seq (by kernel_rfl) ?_
      refine W_run 1 [] [1, 7, 17, 18, 19, 20] [46] (fr' := [(1, aD (.slice (.pair tI (.pair tI tI))) a1), (7, .one (.slc 46)), (17, aD (.slice (.pair tI (.pair tI tI))) a1), (18, aI (List.length a1 : Int)), (19, aI i70), (20, aB (decide (i70 < (List.length a1 : Int))))]) (L' := [(46, .seq tI x71)]) (obs := []) (by kernel_rfl) (by kernel_rfl) (by kernel_rfl) allP0 ?_
      refine seqQ_norm ?_
      refine W_seq (by kernel_rfl) ?_
      refine W_cond (o := .tmp 20) (b := decide (i70 < (List.length a1 : Int))) (by kernel_rfl) (by kernel_rfl) (fun h75 => ?_) (fun h75 => ?_)
      · replace h := stepL_true h75 h
        obtain ⟨v73, _, h74, h, rfl⟩ := h
        refine W_skip [1, 7, 17, 18, 19] [46] (fr' := [(1, aD (.slice (.pair tI (.pair tI tI))) a1), (7, .one (.slc 46)), (17, aD (.slice (.pair tI (.pair tI tI))) a1), (18, aI (List.length a1 : Int)), (19, aI i70)]) (L' := [(46, .seq tI x71)]) (by kernel_rfl) (by kernel_rfl) ?_
        refine seqQ_norm ?_
        refine W_seq (by kernel_rfl) ?_
        refine W_block (id := 1) (by kernel_rfl) ?_
        refine W_seq (by kernel_rfl) ?_
        refine W_run 4 [(1, .val (.dat (.pair tI (.pair tI tI)) v73)), (5, .typed)] [1, 7, 9, 17, 18, 19] [46, 9] (fr' := [(1, aD (.slice (.pair tI (.pair tI tI))) a1), (7, .one (.slc 46)), (9, .one (.ptr 9 0)), (17, aD (.slice (.pair tI (.pair tI tI))) a1), (18, aI (List.length a1 : Int)), (19, aI i70)]) (L' := [(46, .seq tI x71), (9, .one (.pair tI (.pair tI tI)) v73)]) (obs := [Idx a1 i70 v73, True]) (by kernel_rfl) (by kernel_rfl) (by kernel_rfl) (allP2 (Idx.of h74) (allP1 trivial)) ?_
        refine seqQ_norm ?_
        refine W_seq (by kernel_rfl) ?_
        refine W_run 1 [] [1, 7, 9, 10, 17, 18, 19] [46, 9] (fr' := [(1, aD (.slice (.pair tI (.pair tI tI))) a1), (7, .one (.slc 46)), (9, .one (.ptr 9 0)), (10, aI (0 : Int)), (17, aD (.slice (.pair tI (.pair tI tI))) a1), (18, aI (List.length a1 : Int)), (19, aI i70)]) (L' := [(46, .seq tI x71), (9, .one (.pair tI (.pair tI tI)) v73)]) (obs := []) (by kernel_rfl) (by kernel_rfl) (by kernel_rfl) allP0 ?_
        refine seqQ_norm ?_
        refine W_seq (by kernel_rfl) ?_
        obtain ⟨v108, h109, h⟩ := bind_of h
        refine W_cutK (Q' := (exQ .normal (gate_Deep_s8 a1 i70 x71 v73)) v108) ?_ ?_
        · replace h := h109
          refine W_seq (by kernel_rfl) ?_
          refine W_run 3 [] [1, 7, 9, 10, 17, 18, 19, 25] [46, 9] (fr' := [(1, aD (.slice (.pair tI (.pair tI tI))) a1), (7, .one (.slc 46)), (9, .one (.ptr 9 0)), (10, aI (0 : Int)), (17, aD (.slice (.pair tI (.pair tI tI))) a1), (18, aI (List.length a1 : Int)), (19, aI i70), (25, aB (decide (v73.1 > (1 : Int))))]) (L' := [(46, .seq tI x71), (9, .one (.pair tI (.pair tI tI)) v73)]) (obs := []) (by kernel_rfl) (by kernel_rfl) (by kernel_rfl) allP0 ?_
          refine seqQ_norm ?_
          refine W_cond (o := .tmp 25) (b := decide (v73.1 > (1 : Int))) (by kernel_rfl) (by kernel_rfl) (fun h105 => ?_) (fun h105 => ?_)
          · replace h := ofT h105 h
            obtain ⟨v106, h107, h⟩ := bind_of h
            obtain rfl := Option.some.inj h
            refine W_run 7 [(9, .val (.dat tI v106))] [1, 7, 9, 10, 17, 18, 19] [46, 9] (fr' := [(1, aD (.slice (.pair tI (.pair tI tI))) a1), (7, .one (.slc 46)), (9, .one (.ptr 9 0)), (10, aI (w64 (v106 + (1 : Int)))), (17, aD (.slice (.pair tI (.pair tI tI))) a1), (18, aI (List.length a1 : Int)), (19, aI i70)]) (L' := [(46, .seq tI x71), (9, .one (.pair tI (.pair tI tI)) v73)]) (obs := [InR v73.2.1 (List.length x71), Idx x71 v73.2.1 v106]) (by kernel_rfl) (by kernel_rfl) (by kernel_rfl) (allP2 (InR.of h107) (allP1 (Idx.of h107))) ?_
            exact exQ_mk (by kernel_rfl) (by kernel_rfl)
          · replace h := ofF h105 h
            obtain rfl := Option.some.inj h
            refine W_skip [1, 7, 9, 10, 17, 18, 19] [46, 9] (fr' := [(1, aD (.slice (.pair tI (.pair tI tI))) a1), (7, .one (.slc 46)), (9, .one (.ptr 9 0)), (10, aI (0 : Int)), (17, aD (.slice (.pair tI (.pair tI tI))) a1), (18, aI (List.length a1 : Int)), (19, aI i70)]) (L' := [(46, .seq tI x71), (9, .one (.pair tI (.pair tI tI)) v73)]) (by kernel_rfl) (by kernel_rfl) ?_
            exact exQ_mk (by kernel_rfl) (by kernel_rfl)
        · intro e fr L hJ
          obtain ⟨rfl, rfl, rfl⟩ := hJ
          refine LT_keep [1, 7, 9, 10, 17, 18, 19] [46, 9] (fr' := [(1, aD (.slice (.pair tI (.pair tI tI))) a1), (7, .one (.slc 46)), (9, .one (.ptr 9 0)), (10, aI v108), (17, aD (.slice (.pair tI (.pair tI tI))) a1), (18, aI (List.length a1 : Int)), (19, aI i70)]) (L' := [(46, .seq tI x71), (9, .one (.pair tI (.pair tI tI)) v73)]) (by kernel_rfl) ?_
          refine seqQ_norm ?_
          refine W_seq (by kernel_rfl) ?_
          obtain ⟨v119, h120, h⟩ := bind_of h
          refine W_cutK (Q' := (exQ .normal (gate_Deep_s7 a1 i70 x71)) v119) ?_ ?_
          · replace h := h120
            refine W_seq (by kernel_rfl) ?_
            refine W_run 3 [] [1, 7, 9, 10, 17, 18, 19, 34] [46, 9] (fr' := [(1, aD (.slice (.pair tI (.pair tI tI))) a1), (7, .one (.slc 46)), (9, .one (.ptr 9 0)), (10, aI v108), (17, aD (.slice (.pair tI (.pair tI tI))) a1), (18, aI (List.length a1 : Int)), (19, aI i70), (34, aB (decide (v73.1 > (2 : Int))))]) (L' := [(46, .seq tI x71), (9, .one (.pair tI (.pair tI tI)) v73)]) (obs := []) (by kernel_rfl) (by kernel_rfl) (by kernel_rfl) allP0 ?_
            refine seqQ_norm ?_
            refine W_cond (o := .tmp 34) (b := decide (v73.1 > (2 : Int))) (by kernel_rfl) (by kernel_rfl) (fun h116 => ?_) (fun h116 => ?_)
            · replace h := ofT h116 h
              obtain ⟨v117, h118, h⟩ := bind_of h
              obtain rfl := Option.some.inj h
              refine W_run 9 [(11, .val (.dat tI v117))] [1, 7, 10, 17, 18, 19] [46] (fr' := [(1, aD (.slice (.pair tI (.pair tI tI))) a1), (7, .one (.slc 46)), (10, aI (imax v108 (w64 (v117 + (1 : Int))))), (17, aD (.slice (.pair tI (.pair tI tI))) a1), (18, aI (List.length a1 : Int)), (19, aI i70)]) (L' := [(46, .seq tI x71)]) (obs := [InR v73.2.2 (List.length x71), Idx x71 v73.2.2 v117]) (by kernel_rfl) (by kernel_rfl) (by kernel_rfl) (allP2 (InR.of h118) (allP1 (Idx.of h118))) ?_
              exact exQ_mk (by kernel_rfl) (by kernel_rfl)
            · replace h := ofF h116 h
              obtain rfl := Option.some.inj h
              refine W_skip [1, 7, 10, 17, 18, 19] [46] (fr' := [(1, aD (.slice (.pair tI (.pair tI tI))) a1), (7, .one (.slc 46)), (10, aI v108), (17, aD (.slice (.pair tI (.pair tI tI))) a1), (18, aI (List.length a1 : Int)), (19, aI i70)]) (L' := [(46, .seq tI x71)]) (by kernel_rfl) (by kernel_rfl) ?_
              exact exQ_mk (by kernel_rfl) (by kernel_rfl)
          · intro e fr L hJ
            obtain ⟨rfl, rfl, rfl⟩ := hJ
            refine LT_keep [1, 7, 10, 17, 18, 19] [46] (fr' := [(1, aD (.slice (.pair tI (.pair tI tI))) a1), (7, .one (.slc 46)), (10, aI v119), (17, aD (.slice (.pair tI (.pair tI tI))) a1), (18, aI (List.length a1 : Int)), (19, aI i70)]) (L' := [(46, .seq tI x71)]) (by kernel_rfl) ?_
            refine seqQ_norm ?_
            obtain ⟨_, h121, h⟩ := bind_of h
            replace h121 := ck_some h121
            refine W_run 5 [] [1, 7, 17, 18, 19] [46] (fr' := [(1, aD (.slice (.pair tI (.pair tI tI))) a1), (7, .one (.slc 46)), (17, aD (.slice (.pair tI (.pair tI tI))) a1), (18, aI (List.length a1 : Int)), (19, aI i70)]) (L' := [(46, .seq tI (x71 ++ [v119]))]) (obs := [SmallLen (List.length x71 + List.length [v119])]) (by kernel_rfl) (by kernel_rfl) (by kernel_rfl) (allP1 h121) ?_
            refine blockQ_norm ?_
            refine seqQ_norm ?_
            obtain rfl := Option.some.inj h
            refine W_run 2 [] [1, 7, 17, 18, 19] [46] (fr' := [(1, aD (.slice (.pair tI (.pair tI tI))) a1), (7, .one (.slc 46)), (17, aD (.slice (.pair tI (.pair tI tI))) a1), (18, aI (List.length a1 : Int)), (19, aI (w64 (i70 + (1 : Int))))]) (L' := [(46, .seq tI (x71 ++ [v119]))]) (obs := []) (by kernel_rfl) (by kernel_rfl) (by kernel_rfl) allP0 ?_
            exact round_next' (by kernel_rfl) (by kernel_rfl)
      · obtain rfl := stepL_false h75 h
        refine W_exit (id := 0) [1, 7] [46] (fr' := [(1, aD (.slice (.pair tI (.pair tI tI))) a1), (7, .one (.slc 46))]) (L' := [(46, .seq tI x71)]) (by kernel_rfl) (by kernel_rfl) ?_
        refine seqQ_exit ?_
        refine round_exit ?_
        exact exQ_mk (by kernel_rfl) (by kernel_rfl)
    · intro e fr L hJ
      obtain ⟨rfl, rfl, rfl⟩ := hJ
      refine LT_keep [1, 7] [46] (fr' := [(1, aD (.slice (.pair tI (.pair tI tI))) a1), (7, .one (.slc 46))]) (L' := [(46, .seq tI v123)]) (by kernel_rfl) ?_
      refine blockQ_hit ?_
      refine seqQ_norm ?_
      refine W_seq (by kernel_rfl) ?_
      obtain ⟨v128, h129, h⟩ := bind_of h
      refine W_run 8 [(11, .val (.dat tI v128))] [4, 5] [] (fr' := [(4, aI v128), (5, aI (0 : Int))]) (L' := []) (obs := [InR (w64 ((List.length a1 : Int) - (1 : Int))) (List.length v123), Idx v123 (w64 ((List.length a1 : Int) - (1 : Int))) v128]) (by kernel_rfl) (by kernel_rfl) (by kernel_rfl) (allP2 (InR.of h129) (allP1 (Idx.of h129))) ?_
      refine seqQ_norm ?_
      obtain rfl := Option.some.inj h
      refine W_ret [4, 5] [] (fr' := [(4, aI v128), (5, aI (0 : Int))]) (L' := []) (by kernel_rfl) (by kernel_rfl) ?_
      exact retQ_mk (by kernel_rfl) (by kernel_rfl) (by kernel_rfl)

def ref_Within (a0 : Int) (a1 : Int) (a2 : Int) : Option Bool :=
some ((decide (a0 ≤ a1)) && (decide (a1 ≤ a2)))
theorem ref_Within_ok {a0 : Int} {a1 : Int} {a2 : Int} {r : Bool} (h : ref_Within a0 a1 a2 = some r) : FnC Try.prog 23 [aI a0, aI a1, aI a2] [] (aB r) [] := by
  refine fnC_of_W (B := bodyOf Try.f23) (n := 15) Try.func23 (by kernel_rfl) (by kernel_rfl) (by kernel_rfl) (by kernel_rfl) (by kernel_rfl) ?_
  intro K
  refine W_seq (by kernel_rfl) ?_
  refine W_run 1 [] [0, 1, 2] [] (fr' := [(0, aI a0), (1, aI a1), (2, aI a2)]) (L' := []) (obs := []) (by kernel_rfl) (by kernel_rfl) (by kernel_rfl) allP0 ?_
  refine seqQ_norm ?_
  refine W_seq (by kernel_rfl) ?_
  refine W_run 9 [] [6] [] (fr' := [(6, aB ((decide (a0 ≤ a1)) && (decide (a1 ≤ a2))))]) (L' := []) (obs := []) (by kernel_rfl) (by kernel_rfl) (by kernel_rfl) allP0 ?_
  refine seqQ_norm ?_
  obtain rfl := Option.some.inj h
  refine W_ret [6] [] (fr' := [(6, aB ((decide (a0 ≤ a1)) && (decide (a1 ≤ a2))))]) (L' := []) (by kernel_rfl) (by kernel_rfl) ?_
  exact retQ_mk (by kernel_rfl) (by kernel_rfl) (by kernel_rfl)

def ref_Inside_b1 (a0 : Int) (i11 : Int) (v14 : Int) (x12 : Unit) : Option (Flow Unit (Esc Bool Unit)) :=
bif (decide (v14 < (0 : Int))) || (decide (v14 ≥ a0)) then
(some (.done (.ret false)))
else
(some (.next ()))
@[reducible] def ref_Inside_s2 (a0 : Int) (a1 : (List Int)) (v : Int × Unit) : Fr × LL := ([(0, aI a0), (7, aD (.slice tI) a1), (8, aI (List.length a1 : Int)), (9, aI v.1)], [])
@[reducible] def ref_Inside_s3 (v : Bool) : Fr × LL := ([(4, aB v)], [])
@[reducible] def ref_Inside_s4 (v : Unit) : Fr × LL := ([], [])
def ref_Inside (a0 : Int) (a1 : (List Int)) : Option Bool :=
(forL (ref_Inside_b1 a0) (fun x12 => (.brk ())) a1 0 ()).bind fun v19 =>
match v19 with
| .ret v24 =>
(some v24)
| .brk v25 =>
(some true)
theorem ref_Inside_ok {a0 : Int} {a1 : (List Int)} {r : Bool} (h : ref_Inside a0 a1 = some r) : FnC Try.prog 40 [aI a0, aD (.slice tI) a1] [] (aB r) [] := by
  refine fnC_of_W (B := bodyOf Try.f40) (n := 21) Try.func40 (by kernel_rfl) (by kernel_rfl) (by kernel_rfl) (by kernel_rfl) (by kernel_rfl) ?_
  intro K
  refine W_seq (by kernel_rfl) ?_
  refine W_run 1 [] [0, 1] [] (fr' := [(0, aI a0), (1, aD (.slice tI) a1)]) (L' := []) (obs := []) (by kernel_rfl) (by kernel_rfl) (by kernel_rfl) allP0 ?_
  refine seqQ_norm ?_
  refine W_seq (by kernel_rfl) ?_
  refine W_seq (by kernel_rfl) ?_
  refine W_run 3 [] [0, 7, 8, 9] [] (fr' := [(0, aI a0), (7, aD (.slice tI) a1), (8, aI (List.length a1 : Int)), (9, aI (0 : Int))]) (L' := []) (obs := []) (by kernel_rfl) (by kernel_rfl) (by kernel_rfl) allP0 ?_
  refine seqQ_norm ?_
  refine W_block (id := 0) (by kernel_rfl) ?_
  obtain ⟨v19, h20, h⟩ := bind_of h
  refine W_len (t := 7) (u := tI) (xs := a1) (by kernel_rfl) (fun h23 => ?_)
  obtain ⟨h21, h22⟩ := forL_iter h23 h20
  refine W_weaken [0, 7, 8, 9] [] (fr' := ((ref_Inside_s2 a0 a1) ((0 : Int), ())).1) (L' := ((ref_Inside_s2 a0 a1) ((0 : Int), ())).2) (by kernel_rfl) ?_
  refine W_cutK (W_loop (S := (ref_Inside_s2 a0 a1)) (J := (escQ (exQ .ret ref_Inside_s3) (exQ (.exit 0) ref_Inside_s4))) (by kernel_rfl) ?_ h21 _ v19 h22) ?_
  · rintro ⟨i11, x12⟩ s h
    refine W_seq (by kernel_rfl) ?_
    refine W_run 1 [] [0, 7, 8, 9, 10] [] (fr' := [(0, aI a0), (7, aD (.slice tI) a1), (8, aI (List.length a1 : Int)), (9, aI i11), (10, aB (decide (i11 < (List.length a1 : Int))))]) (L' := []) (obs := []) (by kernel_rfl) (by kernel_rfl) (by kernel_rfl) allP0 ?_
    refine seqQ_norm ?_
    refine W_seq (by kernel_rfl) ?_
    refine W_cond (o := .tmp 10) (b := decide (i11 < (List.length a1 : Int))) (by kernel_rfl) (by kernel_rfl) (fun h16 => ?_) (fun h16 => ?_)
    · replace h := stepL_true h16 h
      obtain ⟨v14, _, h15, h, rfl⟩ := h
      refine W_skip [0, 7, 8, 9] [] (fr' := [(0, aI a0), (7, aD (.slice tI) a1), (8, aI (List.length a1 : Int)), (9, aI i11)]) (L' := []) (by kernel_rfl) (by kernel_rfl) ?_
      refine seqQ_norm ?_
      refine W_seq (by kernel_rfl) ?_
      refine W_block (id := 1) (by kernel_rfl) ?_
      refine W_seq (by kernel_rfl) ?_
      refine W_run 3 [(1, .val (.dat tI v14))] [0, 6, 7, 8, 9] [] (fr' := [(0, aI a0), (6, aI v14), (7, aD (.slice tI) a1), (8, aI (List.length a1 : Int)), (9, aI i11)]) (L' := []) (obs := [Idx a1 i11 v14]) (by kernel_rfl) (by kernel_rfl) (by kernel_rfl) (allP1 (Idx.of h15)) ?_
      refine seqQ_norm ?_
      refine W_seq (by kernel_rfl) ?_
      refine W_run 7 [] [0, 7, 8, 9, 19] [] (fr' := [(0, aI a0), (7, aD (.slice tI) a1), (8, aI (List.length a1 : Int)), (9, aI i11), (19, aB ((decide (v14 < (0 : Int))) || (decide (v14 ≥ a0))))]) (L' := []) (obs := []) (by kernel_rfl) (by kernel_rfl) (by kernel_rfl) allP0 ?_
      refine seqQ_norm ?_
      refine W_cond (o := .tmp 19) (b := (decide (v14 < (0 : Int))) || (decide (v14 ≥ a0))) (by kernel_rfl) (by kernel_rfl) (fun h17 => ?_) (fun h17 => ?_)
      · replace h := ofT h17 h
        refine W_seq (by kernel_rfl) ?_
        refine W_run 1 [] [4] [] (fr' := [(4, aB false)]) (L' := []) (obs := []) (by kernel_rfl) (by kernel_rfl) (by kernel_rfl) allP0 ?_
        refine seqQ_norm ?_
        obtain rfl := Option.some.inj h
        refine W_ret [4] [] (fr' := [(4, aB false)]) (L' := []) (by kernel_rfl) (by kernel_rfl) ?_
        refine blockQ_ret ?_
        refine seqQ_ret ?_
        refine round_ret ?_
        refine escQ_ret ?_
        exact exQ_mk (by kernel_rfl) (by kernel_rfl)
      · replace h := ofF h17 h
        refine W_skip [0, 7, 8, 9] [] (fr' := [(0, aI a0), (7, aD (.slice tI) a1), (8, aI (List.length a1 : Int)), (9, aI i11)]) (L' := []) (by kernel_rfl) (by kernel_rfl) ?_
        refine blockQ_norm ?_
        refine seqQ_norm ?_
        obtain rfl := Option.some.inj h
        refine W_run 2 [] [0, 7, 8, 9] [] (fr' := [(0, aI a0), (7, aD (.slice tI) a1), (8, aI (List.length a1 : Int)), (9, aI (w64 (i11 + (1 : Int))))]) (L' := []) (obs := []) (by kernel_rfl) (by kernel_rfl) (by kernel_rfl) allP0 ?_
        exact round_next' (by kernel_rfl) (by kernel_rfl)
    · obtain rfl := stepL_false h16 h
      refine W_exit (id := 0) [] [] (fr' := []) (L' := []) (by kernel_rfl) (by kernel_rfl) ?_
      refine seqQ_exit ?_
      refine round_exit ?_
      refine escQ_brk ?_
      exact exQ_mk (by kernel_rfl) (by kernel_rfl)
  · intro e fr L hJ
    rcases v19 with v24 | v25
    · obtain ⟨rfl, rfl, rfl⟩ := hJ
      obtain rfl := Option.some.inj h
      refine LT_keep [4] [] (fr' := [(4, aB v24)]) (L' := []) (by kernel_rfl) ?_
      refine blockQ_ret ?_
      refine seqQ_ret ?_
      exact retQ_mk (by kernel_rfl) (by kernel_rfl) (by kernel_rfl)
    · obtain ⟨rfl, rfl, rfl⟩ := hJ
      refine LT_keep [] [] (fr' := []) (L' := []) (by kernel_rfl) ?_
      refine blockQ_hit ?_
      refine seqQ_norm ?_
      refine W_seq (by kernel_rfl) ?_
      refine W_run 1 [] [4] [] (fr' := [(4, aB true)]) (L' := []) (obs := []) (by kernel_rfl) (by kernel_rfl) (by kernel_rfl) allP0 ?_
      refine seqQ_norm ?_
      obtain rfl := Option.some.inj h
      refine W_ret [4] [] (fr' := [(4, aB true)]) (L' := []) (by kernel_rfl) (by kernel_rfl) ?_
      exact retQ_mk (by kernel_rfl) (by kernel_rfl) (by kernel_rfl)

def ref_GatesCheck_g7 (i105 : Int) (v108 : (Int × (Int × Int))) : Option Bool :=
bif v108.1 != (1 : Int) then
((ref_Inside i105 [v108.2.1]).bind fun r147 =>
bif !r147 then
(some true)
else
(bif decide (v108.1 ≥ (3 : Int)) then
((ref_Inside i105 [v108.2.2]).bind fun r151 =>
some (!r151))
else
(some false)))
else
(bif decide (v108.1 ≥ (3 : Int)) then
((ref_Inside i105 [v108.2.2]).bind fun r154 =>
some (!r154))
else
(some false))
@[reducible] def ref_GatesCheck_s8 (a0 : Int) (a1 : (List (Int × (Int × Int)))) (i105 : Int) (v : Bool) : Fr × LL := ([(0, aI a0), (7, aD (.slice (.pair tI (.pair tI tI))) a1), (8, aI (List.length a1 : Int)), (9, aI i105), (52, aB v)], [])
@[reducible] def ref_GatesCheck_s9 (a0 : Int) (a1 : (List (Int × (Int × Int)))) (i105 : Int) (v108 : (Int × (Int × Int))) (v : Bool) : Fr × LL := ([(0, aI a0), (5, aI i105), (6, .one (.ptr 6 0)), (7, aD (.slice (.pair tI (.pair tI tI))) a1), (8, aI (List.length a1 : Int)), (9, aI i105), (28, aB v)], [(6, .one (.pair tI (.pair tI tI)) v108)])
def ref_GatesCheck_b10 (a0 : Int) (i105 : Int) (v108 : (Int × (Int × Int))) (x106 : Unit) : Option (Flow Unit (Esc Int Unit)) :=
(ref_Within (1 : Int) v108.1 (4 : Int)).bind fun r111 =>
bif !r111 then
(some (.done (.ret (6 : Int))))
else
((bif v108.1 == (1 : Int) then
((ref_Inside a0 [v108.2.1]).bind fun r121 =>
some (!r121))
else
(some false)).bind fun v123 =>
bif v123 then
(some (.done (.ret (4 : Int))))
else
((ref_GatesCheck_g7 i105 v108).bind fun v156 =>
bif v156 then
(some (.done (.ret (2 : Int))))
else
(some (.next ()))))
@[reducible] def ref_GatesCheck_s11 (a0 : Int) (a1 : (List (Int × (Int × Int)))) (v : Int × Unit) : Fr × LL := ([(0, aI a0), (7, aD (.slice (.pair tI (.pair tI tI))) a1), (8, aI (List.length a1 : Int)), (9, aI v.1)], [])
@[reducible] def ref_GatesCheck_s12 (v : Int) : Fr × LL := ([(4, aI v)], [])
@[reducible] def ref_GatesCheck_s13 (v : Unit) : Fr × LL := ([], [])
def ref_GatesCheck (a0 : Int) (a1 : (List (Int × (Int × Int)))) : Option Int :=
(forL (ref_GatesCheck_b10 a0) (fun x106 => (.brk ())) a1 0 ()).bind fun v160 =>
match v160 with
| .ret v165 =>
(some v165)
| .brk v166 =>
(some (0 : Int))
theorem ref_GatesCheck_ok {a0 : Int} {a1 : (List (Int × (Int × Int)))} {r : Int} (h : ref_GatesCheck a0 a1 = some r) : FnC Try.prog 21 [aI a0, aD (.slice (.pair tI (.pair tI tI))) a1] [] (aI r) [] := by
  refine fnC_of_W (B := bodyOf Try.f21) (n := 54) Try.func21 (by kernel_rfl) (by kernel_rfl) (by kernel_rfl) (by kernel_rfl) (by kernel_rfl) ?_
  intro K
  refine W_seq (by kernel_rfl) ?_
  refine W_run 1 [] [0, 1] [] (fr' := [(0, aI a0), (1, aD (.slice (.pair tI (.pair tI tI))) a1)]) (L' := []) (obs := []) (by kernel_rfl) (by kernel_rfl) (by kernel_rfl) allP0 ?_
  refine seqQ_norm ?_
  refine W_seq (by kernel_rfl) ?_
  refine W_seq (by kernel_rfl) ?_
  refine W_run 3 [] [0, 7, 8, 9] [] (fr' := [(0, aI a0), (7, aD (.slice (.pair tI (.pair tI tI))) a1), (8, aI (List.length a1 : Int)), (9, aI (0 : Int))]) (L' := []) (obs := []) (by kernel_rfl) (by kernel_rfl) (by kernel_rfl) allP0 ?_
  refine seqQ_norm ?_
  refine W_block (id := 0) (by kernel_rfl) ?_
  obtain ⟨v160, h161, h⟩ := bind_of h
  refine W_len (t := 7) (u := (.pair tI (.pair tI tI))) (xs := a1) (by kernel_rfl) (fun h164 => ?_)
  obtain ⟨h162, h163⟩ := forL_iter h164 h161
  refine W_weaken [0, 7, 8, 9] [] (fr' := ((ref_GatesCheck_s11 a0 a1) ((0 : Int), ())).1) (L' := ((ref_GatesCheck_s11 a0 a1) ((0 : Int), ())).2) (by kernel_rfl) ?_
  refine W_cutK (W_loop (S := (ref_GatesCheck_s11 a0 a1)) (J := (escQ (exQ .ret ref_GatesCheck_s12) (exQ (.exit 0) ref_GatesCheck_s13))) (by kernel_rfl) ?_ h162 _ v160 h163) ?_
  · rintro ⟨i105, x106⟩ s h
    refine W_seq (by kernel_rfl) ?_
    refine W_run 1 [] [0, 7, 8, 9, 10] [] (fr' := [(0, aI a0), (7, aD (.slice (.pair tI (.pair tI tI))) a1), (8, aI (List.length a1 : Int)), (9, aI i105), (10, aB (decide (i105 < (List.length a1 : Int))))]) (L' := []) (obs := []) (by kernel_rfl) (by kernel_rfl) (by kernel_rfl) allP0 ?_
    refine seqQ_norm ?_
    refine W_seq (by kernel_rfl) ?_
    refine W_cond (o := .tmp 10) (b := decide (i105 < (List.length a1 : Int))) (by kernel_rfl) (by kernel_rfl) (fun h110 => ?_) (fun h110 => ?_)
    · replace h := stepL_true h110 h
      obtain ⟨v108, _, h109, h, rfl⟩ := h
      refine W_skip [0, 7, 8, 9] [] (fr' := [(0, aI a0), (7, aD (.slice (.pair tI (.pair tI tI))) a1), (8, aI (List.length a1 : Int)), (9, aI i105)]) (L' := []) (by kernel_rfl) (by kernel_rfl) ?_
      refine seqQ_norm ?_
      refine W_seq (by kernel_rfl) ?_
      refine W_block (id := 1) (by kernel_rfl) ?_
      refine W_seq (by kernel_rfl) ?_
      refine W_run 6 [(3, .val (.dat (.pair tI (.pair tI tI)) v108)), (7, .typed)] [0, 5, 6, 7, 8, 9] [6] (fr' := [(0, aI a0), (5, aI i105), (6, .one (.ptr 6 0)), (7, aD (.slice (.pair tI (.pair tI tI))) a1), (8, aI (List.length a1 : Int)), (9, aI i105)]) (L' := [(6, .one (.pair tI (.pair tI tI)) v108)]) (obs := [Idx a1 i105 v108, True]) (by kernel_rfl) (by kernel_rfl) (by kernel_rfl) (allP2 (Idx.of h109) (allP1 trivial)) ?_
      refine seqQ_norm ?_
      refine W_seq (by kernel_rfl) ?_
      refine W_seq (by kernel_rfl) ?_
      refine W_region (by kernel_rfl) ?_
      refine WO_run (j := 2) (k := 2) (orcs := []) (kF := [0, 5, 6, 7, 8, 9, 15]) (kL := [6]) (fr' := [(0, aI a0), (5, aI i105), (6, .one (.ptr 6 0)), (7, aD (.slice (.pair tI (.pair tI tI))) a1), (8, aI (List.length a1 : Int)), (9, aI i105), (15, aI v108.1)]) (L' := [(6, .one (.pair tI (.pair tI tI)) v108)]) (obs := []) rfl (by kernel_rfl) allP0 ?_
      obtain ⟨r111, h112, h⟩ := bind_of h
      refine WO_call0 (us := [none, none, none]) (d := 16) (p := True) (j := 3) rfl ⟨by kernel_rfl, by kernel_rfl, by kernel_rfl⟩ trivial (ref_Within_ok h112) (by kernel_rfl) ?_
      refine WO_run (j := 4) (k := 1) (orcs := []) (kF := [0, 5, 6, 7, 8, 9, 17]) (kL := [6]) (fr' := [(0, aI a0), (5, aI i105), (6, .one (.ptr 6 0)), (7, aD (.slice (.pair tI (.pair tI tI))) a1), (8, aI (List.length a1 : Int)), (9, aI i105), (17, aB (!r111))]) (L' := [(6, .one (.pair tI (.pair tI tI)) v108)]) (obs := []) rfl (by kernel_rfl) allP0 ?_
      refine WO_fin [0, 5, 6, 7, 8, 9, 17] [6] (fr' := [(0, aI a0), (5, aI i105), (6, .one (.ptr 6 0)), (7, aD (.slice (.pair tI (.pair tI tI))) a1), (8, aI (List.length a1 : Int)), (9, aI i105), (17, aB (!r111))]) (L' := [(6, .one (.pair tI (.pair tI tI)) v108)]) (by kernel_rfl) (by kernel_rfl) ?_
      refine seqQ_norm ?_
      refine W_cond (o := .tmp 17) (b := !r111) (by kernel_rfl) (by kernel_rfl) (fun h113 => ?_) (fun h113 => ?_)
      · replace h := ofT h113 h
        refine W_seq (by kernel_rfl) ?_
        refine W_run 1 [] [4] [] (fr' := [(4, aI (6 : Int))]) (L' := []) (obs := []) (by kernel_rfl) (by kernel_rfl) (by kernel_rfl) allP0 ?_
        refine seqQ_norm ?_
        obtain rfl := Option.some.inj h
        refine W_ret [4] [] (fr' := [(4, aI (6 : Int))]) (L' := []) (by kernel_rfl) (by kernel_rfl) ?_
        refine seqQ_ret ?_
        refine blockQ_ret ?_
        refine seqQ_ret ?_
        refine round_ret ?_
        refine escQ_ret ?_
        exact exQ_mk (by kernel_rfl) (by kernel_rfl)
      · replace h := ofF h113 h
        refine W_skip [0, 5, 6, 7, 8, 9] [6] (fr' := [(0, aI a0), (5, aI i105), (6, .one (.ptr 6 0)), (7, aD (.slice (.pair tI (.pair tI tI))) a1), (8, aI (List.length a1 : Int)), (9, aI i105)]) (L' := [(6, .one (.pair tI (.pair tI tI)) v108)]) (by kernel_rfl) (by kernel_rfl) ?_
        refine seqQ_norm ?_
        refine W_seq (by kernel_rfl) ?_
        refine W_seq (by kernel_rfl) ?_
        obtain ⟨v123, h124, h⟩ := bind_of h
        refine W_cutK (Q' := (exQ .normal (ref_GatesCheck_s9 a0 a1 i105 v108)) v123) ?_ ?_
        · replace h := h124
          refine W_region (by kernel_rfl) ?_
          refine WO_run (j := 4) (k := 4) (orcs := []) (kF := [0, 5, 6, 7, 8, 9, 21]) (kL := [6]) (fr' := [(0, aI a0), (5, aI i105), (6, .one (.ptr 6 0)), (7, aD (.slice (.pair tI (.pair tI tI))) a1), (8, aI (List.length a1 : Int)), (9, aI i105), (21, aB (v108.1 == (1 : Int)))]) (L' := [(6, .one (.pair tI (.pair tI tI)) v108)]) (obs := []) rfl (by kernel_rfl) allP0 ?_
          rcases Bool.eq_false_or_eq_true (v108.1 == (1 : Int)) with h120 | h120
          · replace h := ofT h120 h
            refine WO_run (j := 8) (k := 4) (orcs := [(8, .known true), (10, .known true), (12, .known true), (14, .known true)]) (kF := [0, 5, 6, 7, 8, 9, 21, 22, 25]) (kL := [6, 25]) (fr' := [(0, aI a0), (5, aI i105), (6, .one (.ptr 6 0)), (7, aD (.slice (.pair tI (.pair tI tI))) a1), (8, aI (List.length a1 : Int)), (9, aI i105), (21, aB (v108.1 == (1 : Int))), (22, aI a0), (25, .one (.slc 25))]) (L' := [(6, .one (.pair tI (.pair tI tI)) v108), (25, .seq tI [v108.2.1])]) (obs := [((v108.1 == (1 : Int)) = true), ((v108.1 == (1 : Int)) = true), ((v108.1 == (1 : Int)) = true), ((v108.1 == (1 : Int)) = true)]) rfl (by kernel_rfl) (allP2 h120 (allP2 h120 (allP2 h120 (allP1 h120)))) ?_
            obtain ⟨r121, h122, h⟩ := bind_of h
            refine WO_frz 25 (by kernel_rfl) ?_
            refine WO_call0 (us := [none, none]) (d := 26) (p := ((v108.1 == (1 : Int)) = true)) (j := 9) rfl ⟨by kernel_rfl, by kernel_rfl, by kernel_rfl⟩ h120 (ref_Inside_ok h122) (by kernel_rfl) ?_
            refine WO_run (j := 11) (k := 2) (orcs := [(18, .known true), (21, .val (.dat .bool true))]) (kF := [0, 5, 6, 7, 8, 9, 28]) (kL := [6]) (fr' := [(0, aI a0), (5, aI i105), (6, .one (.ptr 6 0)), (7, aD (.slice (.pair tI (.pair tI tI))) a1), (8, aI (List.length a1 : Int)), (9, aI i105), (28, aB (!r121))]) (L' := [(6, .one (.pair tI (.pair tI tI)) v108)]) (obs := [((v108.1 == (1 : Int)) = true), ((v108.1 == (1 : Int)) = true)]) rfl (by kernel_rfl) (allP2 h120 (allP1 h120)) ?_
            obtain rfl := Option.some.inj h
            refine WO_fin [0, 5, 6, 7, 8, 9, 28] [6] (fr' := [(0, aI a0), (5, aI i105), (6, .one (.ptr 6 0)), (7, aD (.slice (.pair tI (.pair tI tI))) a1), (8, aI (List.length a1 : Int)), (9, aI i105), (28, aB (!r121))]) (L' := [(6, .one (.pair tI (.pair tI tI)) v108)]) (by kernel_rfl) (by kernel_rfl) ?_
            exact exQ_mk (by kernel_rfl) (by kernel_rfl)
          · replace h := ofF h120 h
            refine WO_run (j := 11) (k := 7) (orcs := [(8, .known false), (10, .known false), (12, .known false), (14, .known false), (16, .known false), (18, .known false), (21, .val (.dat .bool false))]) (kF := [0, 5, 6, 7, 8, 9, 28]) (kL := [6]) (fr' := [(0, aI a0), (5, aI i105), (6, .one (.ptr 6 0)), (7, aD (.slice (.pair tI (.pair tI tI))) a1), (8, aI (List.length a1 : Int)), (9, aI i105), (28, aB false)]) (L' := [(6, .one (.pair tI (.pair tI tI)) v108)]) (obs := [((v108.1 == (1 : Int)) = false), ((v108.1 == (1 : Int)) = false), ((v108.1 == (1 : Int)) = false), ((v108.1 == (1 : Int)) = false), ((v108.1 == (1 : Int)) = false), ((v108.1 == (1 : Int)) = false), ((v108.1 == (1 : Int)) = false)]) rfl (by kernel_rfl) (allP2 h120 (allP2 h120 (allP2 h120 (allP2 h120 (allP2 h120 (allP2 h120 (allP1 h120))))))) ?_
            obtain rfl := Option.some.inj h
            refine WO_fin [0, 5, 6, 7, 8, 9, 28] [6] (fr' := [(0, aI a0), (5, aI i105), (6, .one (.ptr 6 0)), (7, aD (.slice (.pair tI (.pair tI tI))) a1), (8, aI (List.length a1 : Int)), (9, aI i105), (28, aB false)]) (L' := [(6, .one (.pair tI (.pair tI tI)) v108)]) (by kernel_rfl) (by kernel_rfl) ?_
            exact exQ_mk (by kernel_rfl) (by kernel_rfl)
        · intro e fr L hJ
          obtain ⟨rfl, rfl, rfl⟩ := hJ
          refine LT_keep [0, 5, 6, 7, 8, 9, 28] [6] (fr' := [(0, aI a0), (5, aI i105), (6, .one (.ptr 6 0)), (7, aD (.slice (.pair tI (.pair tI tI))) a1), (8, aI (List.length a1 : Int)), (9, aI i105), (28, aB v123)]) (L' := [(6, .one (.pair tI (.pair tI tI)) v108)]) (by kernel_rfl) ?_
          refine seqQ_norm ?_
          refine W_cond (o := .tmp 28) (b := v123) (by kernel_rfl) (by kernel_rfl) (fun h125 => ?_) (fun h125 => ?_)
          · replace h := ofT h125 h
            refine W_seq (by kernel_rfl) ?_
            refine W_run 1 [] [4] [] (fr' := [(4, aI (4 : Int))]) (L' := []) (obs := []) (by kernel_rfl) (by kernel_rfl) (by kernel_rfl) allP0 ?_
            refine seqQ_norm ?_
            obtain rfl := Option.some.inj h
            refine W_ret [4] [] (fr' := [(4, aI (4 : Int))]) (L' := []) (by kernel_rfl) (by kernel_rfl) ?_
            refine seqQ_ret ?_
            refine blockQ_ret ?_
            refine seqQ_ret ?_
            refine round_ret ?_
            refine escQ_ret ?_
            exact exQ_mk (by kernel_rfl) (by kernel_rfl)
          · replace h := ofF h125 h
            refine W_skip [0, 5, 6, 7, 8, 9] [6] (fr' := [(0, aI a0), (5, aI i105), (6, .one (.ptr 6 0)), (7, aD (.slice (.pair tI (.pair tI tI))) a1), (8, aI (List.length a1 : Int)), (9, aI i105)]) (L' := [(6, .one (.pair tI (.pair tI tI)) v108)]) (by kernel_rfl) (by kernel_rfl) ?_
            refine seqQ_norm ?_
            refine W_seq (by kernel_rfl) ?_
            obtain ⟨v156, h157, h⟩ := bind_of h
            refine W_cutK (Q' := (exQ .normal (ref_GatesCheck_s8 a0 a1 i105)) v156) ?_ ?_
            · replace h := h157
              refine W_region (by kernel_rfl) ?_
              refine WO_run (j := 4) (k := 4) (orcs := []) (kF := [0, 5, 6, 7, 8, 9, 32]) (kL := [6]) (fr' := [(0, aI a0), (5, aI i105), (6, .one (.ptr 6 0)), (7, aD (.slice (.pair tI (.pair tI tI))) a1), (8, aI (List.length a1 : Int)), (9, aI i105), (32, aB (v108.1 != (1 : Int)))]) (L' := [(6, .one (.pair tI (.pair tI tI)) v108)]) (obs := []) rfl (by kernel_rfl) allP0 ?_
              rcases Bool.eq_false_or_eq_true (v108.1 != (1 : Int)) with h146 | h146
              · replace h := ofT h146 h
                refine WO_run (j := 8) (k := 4) (orcs := [(8, .known true), (10, .known true), (12, .known true), (14, .known true)]) (kF := [0, 5, 6, 7, 8, 9, 32, 33, 36]) (kL := [6, 36]) (fr' := [(0, aI a0), (5, aI i105), (6, .one (.ptr 6 0)), (7, aD (.slice (.pair tI (.pair tI tI))) a1), (8, aI (List.length a1 : Int)), (9, aI i105), (32, aB (v108.1 != (1 : Int))), (33, aI i105), (36, .one (.slc 36))]) (L' := [(6, .one (.pair tI (.pair tI tI)) v108), (36, .seq tI [v108.2.1])]) (obs := [((v108.1 != (1 : Int)) = true), ((v108.1 != (1 : Int)) = true), ((v108.1 != (1 : Int)) = true), ((v108.1 != (1 : Int)) = true)]) rfl (by kernel_rfl) (allP2 h146 (allP2 h146 (allP2 h146 (allP1 h146)))) ?_
                obtain ⟨r147, h148, h⟩ := bind_of h
                refine WO_frz 36 (by kernel_rfl) ?_
                refine WO_call0 (us := [none, none]) (d := 37) (p := ((v108.1 != (1 : Int)) = true)) (j := 9) rfl ⟨by kernel_rfl, by kernel_rfl, by kernel_rfl⟩ h146 (ref_Inside_ok h148) (by kernel_rfl) ?_
                refine WO_run (j := 12) (k := 3) (orcs := [(18, .known true), (21, .val (.dat .bool true))]) (kF := [0, 5, 6, 7, 8, 9, 40]) (kL := [6]) (fr' := [(0, aI a0), (5, aI i105), (6, .one (.ptr 6 0)), (7, aD (.slice (.pair tI (.pair tI tI))) a1), (8, aI (List.length a1 : Int)), (9, aI i105), (40, aB (!r147))]) (L' := [(6, .one (.pair tI (.pair tI tI)) v108)]) (obs := [((v108.1 != (1 : Int)) = true), ((v108.1 != (1 : Int)) = true)]) rfl (by kernel_rfl) (allP2 h146 (allP1 h146)) ?_
                rcases Bool.eq_false_or_eq_true (!r147) with h149 | h149
                · replace h := ofT h149 h
                  refine WO_run (j := 24) (k := 12) (orcs := [(24, .known true), (26, .known true), (28, .known true), (30, .known true), (32, .known true), (34, .known true), (36, .known true), (38, .known true), (40, .known true), (42, .known true), (44, .known true), (47, .val (.dat .bool true))]) (kF := [0, 7, 8, 9, 52]) (kL := [6]) (fr' := [(0, aI a0), (7, aD (.slice (.pair tI (.pair tI tI))) a1), (8, aI (List.length a1 : Int)), (9, aI i105), (52, aB true)]) (L' := [(6, .one (.pair tI (.pair tI tI)) v108)]) (obs := [((!r147) = true), ((!r147) = true), ((!r147) = true), ((!r147) = true), ((!r147) = true), ((!r147) = true)]) rfl (by kernel_rfl) (allP2 h149 (allP2 h149 (allP2 h149 (allP2 h149 (allP2 h149 (allP1 h149)))))) ?_
                  obtain rfl := Option.some.inj h
                  refine WO_fin [0, 7, 8, 9, 52] [] (fr' := [(0, aI a0), (7, aD (.slice (.pair tI (.pair tI tI))) a1), (8, aI (List.length a1 : Int)), (9, aI i105), (52, aB true)]) (L' := []) (by kernel_rfl) (by kernel_rfl) ?_
                  exact exQ_mk (by kernel_rfl) (by kernel_rfl)
                · replace h := ofF h149 h
                  refine WO_run (j := 16) (k := 4) (orcs := [(24, .known false), (26, .known false), (28, .known false), (30, .known false)]) (kF := [0, 5, 6, 7, 8, 9, 40, 44]) (kL := [6]) (fr' := [(0, aI a0), (5, aI i105), (6, .one (.ptr 6 0)), (7, aD (.slice (.pair tI (.pair tI tI))) a1), (8, aI (List.length a1 : Int)), (9, aI i105), (40, aB (!r147)), (44, aB (decide (v108.1 ≥ (3 : Int))))]) (L' := [(6, .one (.pair tI (.pair tI tI)) v108)]) (obs := [((!r147) = false), ((!r147) = false), ((!r147) = false), ((!r147) = false)]) rfl (by kernel_rfl) (allP2 h149 (allP2 h149 (allP2 h149 (allP1 h149)))) ?_
                  rcases Bool.eq_false_or_eq_true (decide (v108.1 ≥ (3 : Int))) with h150 | h150
                  · replace h := ofT h150 h
                    refine WO_run (j := 20) (k := 4) (orcs := [(32, .known true), (34, .known true), (36, .known true), (38, .known true)]) (kF := [0, 7, 8, 9, 40, 44, 45, 48]) (kL := [6, 48]) (fr' := [(0, aI a0), (7, aD (.slice (.pair tI (.pair tI tI))) a1), (8, aI (List.length a1 : Int)), (9, aI i105), (40, aB (!r147)), (44, aB (decide (v108.1 ≥ (3 : Int)))), (45, aI i105), (48, .one (.slc 48))]) (L' := [(6, .one (.pair tI (.pair tI tI)) v108), (48, .seq tI [v108.2.2])]) (obs := [((decide (v108.1 ≥ (3 : Int))) = true), ((decide (v108.1 ≥ (3 : Int))) = true), ((decide (v108.1 ≥ (3 : Int))) = true), ((decide (v108.1 ≥ (3 : Int))) = true)]) rfl (by kernel_rfl) (allP2 h150 (allP2 h150 (allP2 h150 (allP1 h150)))) ?_
                    obtain ⟨r151, h152, h⟩ := bind_of h
                    refine WO_frz 48 (by kernel_rfl) ?_
                    refine WO_call0 (us := [none, none]) (d := 49) (p := ((decide (v108.1 ≥ (3 : Int))) = true)) (j := 21) rfl ⟨by kernel_rfl, by kernel_rfl, by kernel_rfl⟩ h150 (ref_Inside_ok h152) (by kernel_rfl) ?_
                    refine WO_run (j := 24) (k := 3) (orcs := [(42, .known true), (44, .known false), (45, .val (.dat .bool true)), (47, .val (.dat .bool false))]) (kF := [0, 7, 8, 9, 52]) (kL := [6]) (fr' := [(0, aI a0), (7, aD (.slice (.pair tI (.pair tI tI))) a1), (8, aI (List.length a1 : Int)), (9, aI i105), (52, aB (!r151))]) (L' := [(6, .one (.pair tI (.pair tI tI)) v108)]) (obs := [((decide (v108.1 ≥ (3 : Int))) = true), ((!r147) = false), ((decide (v108.1 ≥ (3 : Int))) = true), ((!r147) = false)]) rfl (by kernel_rfl) (allP2 h150 (allP2 h149 (allP2 h150 (allP1 h149)))) ?_
                    obtain rfl := Option.some.inj h
                    refine WO_fin [0, 7, 8, 9, 52] [] (fr' := [(0, aI a0), (7, aD (.slice (.pair tI (.pair tI tI))) a1), (8, aI (List.length a1 : Int)), (9, aI i105), (52, aB (!r151))]) (L' := []) (by kernel_rfl) (by kernel_rfl) ?_
                    exact exQ_mk (by kernel_rfl) (by kernel_rfl)
                  · replace h := ofF h150 h
                    refine WO_run (j := 24) (k := 8) (orcs := [(32, .known false), (34, .known false), (36, .known false), (38, .known false), (40, .known false), (42, .known false), (44, .known false), (45, .val (.dat .bool false)), (47, .val (.dat .bool false))]) (kF := [0, 7, 8, 9, 52]) (kL := [6]) (fr' := [(0, aI a0), (7, aD (.slice (.pair tI (.pair tI tI))) a1), (8, aI (List.length a1 : Int)), (9, aI i105), (52, aB false)]) (L' := [(6, .one (.pair tI (.pair tI tI)) v108)]) (obs := [((decide (v108.1 ≥ (3 : Int))) = false), ((decide (v108.1 ≥ (3 : Int))) = false), ((decide (v108.1 ≥ (3 : Int))) = false), ((decide (v108.1 ≥ (3 : Int))) = false), ((decide (v108.1 ≥ (3 : Int))) = false), ((decide (v108.1 ≥ (3 : Int))) = false), ((!r147) = false), ((decide (v108.1 ≥ (3 : Int))) = false), ((!r147) = false)]) rfl (by kernel_rfl) (allP2 h150 (allP2 h150 (allP2 h150 (allP2 h150 (allP2 h150 (allP2 h150 (allP2 h149 (allP2 h150 (allP1 h149))))))))) ?_
                    obtain rfl := Option.some.inj h
                    refine WO_fin [0, 7, 8, 9, 52] [] (fr' := [(0, aI a0), (7, aD (.slice (.pair tI (.pair tI tI))) a1), (8, aI (List.length a1 : Int)), (9, aI i105), (52, aB false)]) (L' := []) (by kernel_rfl) (by kernel_rfl) ?_
                    exact exQ_mk (by kernel_rfl) (by kernel_rfl)
              · replace h := ofF h146 h
                refine WO_run (j := 16) (k := 12) (orcs := [(8, .known false), (10, .known false), (12, .known false), (14, .known false), (16, .known false), (18, .known false), (21, .val (.dat .bool false)), (24, .known false), (26, .known false), (28, .known false), (30, .known false)]) (kF := [0, 5, 6, 7, 8, 9, 40, 44]) (kL := [6]) (fr' := [(0, aI a0), (5, aI i105), (6, .one (.ptr 6 0)), (7, aD (.slice (.pair tI (.pair tI tI))) a1), (8, aI (List.length a1 : Int)), (9, aI i105), (40, aB false), (44, aB (decide (v108.1 ≥ (3 : Int))))]) (L' := [(6, .one (.pair tI (.pair tI tI)) v108)]) (obs := [((v108.1 != (1 : Int)) = false), ((v108.1 != (1 : Int)) = false), ((v108.1 != (1 : Int)) = false), ((v108.1 != (1 : Int)) = false), ((v108.1 != (1 : Int)) = false), ((v108.1 != (1 : Int)) = false), ((v108.1 != (1 : Int)) = false), (false = false), (false = false), (false = false), (false = false)]) rfl (by kernel_rfl) (allP2 h146 (allP2 h146 (allP2 h146 (allP2 h146 (allP2 h146 (allP2 h146 (allP2 h146 (allP2 rfl (allP2 rfl (allP2 rfl (allP1 rfl))))))))))) ?_
                rcases Bool.eq_false_or_eq_true (decide (v108.1 ≥ (3 : Int))) with h153 | h153
                · replace h := ofT h153 h
                  refine WO_run (j := 20) (k := 4) (orcs := [(32, .known true), (34, .known true), (36, .known true), (38, .known true)]) (kF := [0, 7, 8, 9, 40, 44, 45, 48]) (kL := [6, 48]) (fr' := [(0, aI a0), (7, aD (.slice (.pair tI (.pair tI tI))) a1), (8, aI (List.length a1 : Int)), (9, aI i105), (40, aB false), (44, aB (decide (v108.1 ≥ (3 : Int)))), (45, aI i105), (48, .one (.slc 48))]) (L' := [(6, .one (.pair tI (.pair tI tI)) v108), (48, .seq tI [v108.2.2])]) (obs := [((decide (v108.1 ≥ (3 : Int))) = true), ((decide (v108.1 ≥ (3 : Int))) = true), ((decide (v108.1 ≥ (3 : Int))) = true), ((decide (v108.1 ≥ (3 : Int))) = true)]) rfl (by kernel_rfl) (allP2 h153 (allP2 h153 (allP2 h153 (allP1 h153)))) ?_
                  obtain ⟨r154, h155, h⟩ := bind_of h
                  refine WO_frz 48 (by kernel_rfl) ?_
                  refine WO_call0 (us := [none, none]) (d := 49) (p := ((decide (v108.1 ≥ (3 : Int))) = true)) (j := 21) rfl ⟨by kernel_rfl, by kernel_rfl, by kernel_rfl⟩ h153 (ref_Inside_ok h155) (by kernel_rfl) ?_
                  refine WO_run (j := 24) (k := 3) (orcs := [(42, .known true), (44, .known false), (45, .val (.dat .bool true)), (47, .val (.dat .bool false))]) (kF := [0, 7, 8, 9, 52]) (kL := [6]) (fr' := [(0, aI a0), (7, aD (.slice (.pair tI (.pair tI tI))) a1), (8, aI (List.length a1 : Int)), (9, aI i105), (52, aB (!r154))]) (L' := [(6, .one (.pair tI (.pair tI tI)) v108)]) (obs := [((decide (v108.1 ≥ (3 : Int))) = true), (false = false), ((decide (v108.1 ≥ (3 : Int))) = true), (false = false)]) rfl (by kernel_rfl) (allP2 h153 (allP2 rfl (allP2 h153 (allP1 rfl)))) ?_
                  obtain rfl := Option.some.inj h
                  refine WO_fin [0, 7, 8, 9, 52] [] (fr' := [(0, aI a0), (7, aD (.slice (.pair tI (.pair tI tI))) a1), (8, aI (List.length a1 : Int)), (9, aI i105), (52, aB (!r154))]) (L' := []) (by kernel_rfl) (by kernel_rfl) ?_
                  exact exQ_mk (by kernel_rfl) (by kernel_rfl)
                · replace h := ofF h153 h
                  refine WO_run (j := 24) (k := 8) (orcs := [(32, .known false), (34, .known false), (36, .known false), (38, .known false), (40, .known false), (42, .known false), (44, .known false), (45, .val (.dat .bool false)), (47, .val (.dat .bool false))]) (kF := [0, 7, 8, 9, 52]) (kL := [6]) (fr' := [(0, aI a0), (7, aD (.slice (.pair tI (.pair tI tI))) a1), (8, aI (List.length a1 : Int)), (9, aI i105), (52, aB false)]) (L' := [(6, .one (.pair tI (.pair tI tI)) v108)]) (obs := [((decide (v108.1 ≥ (3 : Int))) = false), ((decide (v108.1 ≥ (3 : Int))) = false), ((decide (v108.1 ≥ (3 : Int))) = false), ((decide (v108.1 ≥ (3 : Int))) = false), ((decide (v108.1 ≥ (3 : Int))) = false), ((decide (v108.1 ≥ (3 : Int))) = false), (false = false), ((decide (v108.1 ≥ (3 : Int))) = false), (false = false)]) rfl (by kernel_rfl) (allP2 h153 (allP2 h153 (allP2 h153 (allP2 h153 (allP2 h153 (allP2 h153 (allP2 rfl (allP2 h153 (allP1 rfl))))))))) ?_
                  obtain rfl := Option.some.inj h
                  refine WO_fin [0, 7, 8, 9, 52] [] (fr' := [(0, aI a0), (7, aD (.slice (.pair tI (.pair tI tI))) a1), (8, aI (List.length a1 : Int)), (9, aI i105), (52, aB false)]) (L' := []) (by kernel_rfl) (by kernel_rfl) ?_
                  exact exQ_mk (by kernel_rfl) (by kernel_rfl)
            · intro e fr L hJ
              obtain ⟨rfl, rfl, rfl⟩ := hJ
              refine LT_keep [0, 7, 8, 9, 52] [] (fr' := [(0, aI a0), (7, aD (.slice (.pair tI (.pair tI tI))) a1), (8, aI (List.length a1 : Int)), (9, aI i105), (52, aB v156)]) (L' := []) (by kernel_rfl) ?_
              refine seqQ_norm ?_
              refine W_cond (o := .tmp 52) (b := v156) (by kernel_rfl) (by kernel_rfl) (fun h158 => ?_) (fun h158 => ?_)
              · replace h := ofT h158 h
                refine W_seq (by kernel_rfl) ?_
                refine W_run 1 [] [4] [] (fr' := [(4, aI (2 : Int))]) (L' := []) (obs := []) (by kernel_rfl) (by kernel_rfl) (by kernel_rfl) allP0 ?_
                refine seqQ_norm ?_
                obtain rfl := Option.some.inj h
                refine W_ret [4] [] (fr' := [(4, aI (2 : Int))]) (L' := []) (by kernel_rfl) (by kernel_rfl) ?_
                refine blockQ_ret ?_
                refine seqQ_ret ?_
                refine round_ret ?_
                refine escQ_ret ?_
                exact exQ_mk (by kernel_rfl) (by kernel_rfl)
              · replace h := ofF h158 h
                refine W_skip [0, 7, 8, 9] [] (fr' := [(0, aI a0), (7, aD (.slice (.pair tI (.pair tI tI))) a1), (8, aI (List.length a1 : Int)), (9, aI i105)]) (L' := []) (by kernel_rfl) (by kernel_rfl) ?_
                refine blockQ_norm ?_
                refine seqQ_norm ?_
                obtain rfl := Option.some.inj h
                refine W_run 2 [] [0, 7, 8, 9] [] (fr' := [(0, aI a0), (7, aD (.slice (.pair tI (.pair tI tI))) a1), (8, aI (List.length a1 : Int)), (9, aI (w64 (i105 + (1 : Int))))]) (L' := []) (obs := []) (by kernel_rfl) (by kernel_rfl) (by kernel_rfl) allP0 ?_
                exact round_next' (by kernel_rfl) (by kernel_rfl)
    · obtain rfl := stepL_false h110 h
      refine W_exit (id := 0) [] [] (fr' := []) (L' := []) (by kernel_rfl) (by kernel_rfl) ?_
      refine seqQ_exit ?_
      refine round_exit ?_
      refine escQ_brk ?_
      exact exQ_mk (by kernel_rfl) (by kernel_rfl)
  · intro e fr L hJ
    rcases v160 with v165 | v166
    · obtain ⟨rfl, rfl, rfl⟩ := hJ
      obtain rfl := Option.some.inj h
      refine LT_keep [4] [] (fr' := [(4, aI v165)]) (L' := []) (by kernel_rfl) ?_
      refine blockQ_ret ?_
      refine seqQ_ret ?_
      exact retQ_mk (by kernel_rfl) (by kernel_rfl) (by kernel_rfl)
    · obtain ⟨rfl, rfl, rfl⟩ := hJ
      refine LT_keep [] [] (fr' := []) (L' := []) (by kernel_rfl) ?_
      refine blockQ_hit ?_
      refine seqQ_norm ?_
      refine W_seq (by kernel_rfl) ?_
      refine W_run 1 [] [4] [] (fr' := [(4, aI (0 : Int))]) (L' := []) (obs := []) (by kernel_rfl) (by kernel_rfl) (by kernel_rfl) allP0 ?_
      refine seqQ_norm ?_
      obtain rfl := Option.some.inj h
      refine W_ret [4] [] (fr' := [(4, aI (0 : Int))]) (L' := []) (by kernel_rfl) (by kernel_rfl) ?_
      exact retQ_mk (by kernel_rfl) (by kernel_rfl) (by kernel_rfl)

def ref_GateCheck_g1 (a0 : Int) (a1 : (List (Int × (Int × Int)))) : Option Bool :=
(ref_Within (0 : Int) a0 (5 : Int)).bind fun r11 =>
bif !r11 then
(some true)
else
((ref_Within (1 : Int) (List.length a1 : Int) (40 : Int)).bind fun r14 =>
some (!r14))
@[reducible] def ref_GateCheck_s2 (a0 : Int) (a1 : (List (Int × (Int × Int)))) (v : Bool) : Fr × LL := ([(0, aI a0), (1, aD (.slice (.pair tI (.pair tI tI))) a1), (13, aB v)], [])
def ref_GateCheck (a0 : Int) (a1 : (List (Int × (Int × Int)))) : Option Int :=
(ref_GateCheck_g1 a0 a1).bind fun v16 =>
bif v16 then
(some (1 : Int))
else
((ref_GatesCheck a0 a1).bind fun r19 =>
some r19)
theorem ref_GateCheck_ok {a0 : Int} {a1 : (List (Int × (Int × Int)))} {r : Int} (h : ref_GateCheck a0 a1 = some r) : FnC Try.prog 14 [aI a0, aD (.slice (.pair tI (.pair tI tI))) a1] [] (aI r) [] := by
  refine fnC_of_W (B := bodyOf Try.f14) (n := 17) Try.func14 (by kernel_rfl) (by kernel_rfl) (by kernel_rfl) (by kernel_rfl) (by kernel_rfl) ?_
  intro K
  refine W_seq (by kernel_rfl) ?_
  refine W_run 1 [] [0, 1] [] (fr' := [(0, aI a0), (1, aD (.slice (.pair tI (.pair tI tI))) a1)]) (L' := []) (obs := []) (by kernel_rfl) (by kernel_rfl) (by kernel_rfl) allP0 ?_
  refine seqQ_norm ?_
  refine W_seq (by kernel_rfl) ?_
  refine W_seq (by kernel_rfl) ?_
  obtain ⟨v16, h17, h⟩ := bind_of h
  refine W_cutK (Q' := (exQ .normal (ref_GateCheck_s2 a0 a1)) v16) ?_ ?_
  · replace h := h17
    refine W_region (by kernel_rfl) ?_
    refine WO_run (j := 1) (k := 1) (orcs := []) (kF := [0, 1, 5]) (kL := []) (fr' := [(0, aI a0), (1, aD (.slice (.pair tI (.pair tI tI))) a1), (5, aI a0)]) (L' := []) (obs := []) rfl (by kernel_rfl) allP0 ?_
    obtain ⟨r11, h12, h⟩ := bind_of h
    refine WO_call0 (us := [none, none, none]) (d := 6) (p := True) (j := 2) rfl ⟨by kernel_rfl, by kernel_rfl, by kernel_rfl⟩ trivial (ref_Within_ok h12) (by kernel_rfl) ?_
    refine WO_run (j := 4) (k := 2) (orcs := []) (kF := [0, 1, 8]) (kL := []) (fr' := [(0, aI a0), (1, aD (.slice (.pair tI (.pair tI tI))) a1), (8, aB (!r11))]) (L' := []) (obs := []) rfl (by kernel_rfl) allP0 ?_
    rcases Bool.eq_false_or_eq_true (!r11) with h13 | h13
    · replace h := ofT h13 h
      refine WO_run (j := 9) (k := 5) (orcs := [(8, .known true), (10, .known true), (12, .known true), (14, .known true), (17, .val (.dat .bool true))]) (kF := [0, 1, 13]) (kL := []) (fr' := [(0, aI a0), (1, aD (.slice (.pair tI (.pair tI tI))) a1), (13, aB true)]) (L' := []) (obs := [((!r11) = true), ((!r11) = true), ((!r11) = true), ((!r11) = true), ((!r11) = true)]) rfl (by kernel_rfl) (allP2 h13 (allP2 h13 (allP2 h13 (allP2 h13 (allP1 h13))))) ?_
      obtain rfl := Option.some.inj h
      refine WO_fin [0, 1, 13] [] (fr' := [(0, aI a0), (1, aD (.slice (.pair tI (.pair tI tI))) a1), (13, aB true)]) (L' := []) (by kernel_rfl) (by kernel_rfl) ?_
      exact exQ_mk (by kernel_rfl) (by kernel_rfl)
    · replace h := ofF h13 h
      refine WO_run (j := 6) (k := 2) (orcs := [(8, .known false), (10, .known false)]) (kF := [0, 1, 8, 10]) (kL := []) (fr' := [(0, aI a0), (1, aD (.slice (.pair tI (.pair tI tI))) a1), (8, aB (!r11)), (10, aI (List.length a1 : Int))]) (L' := []) (obs := [((!r11) = false), ((!r11) = false)]) rfl (by kernel_rfl) (allP2 h13 (allP1 h13)) ?_
      obtain ⟨r14, h15, h⟩ := bind_of h
      refine WO_call0 (us := [none, none, none]) (d := 11) (p := ((!r11) = false)) (j := 7) rfl ⟨by kernel_rfl, by kernel_rfl, by kernel_rfl⟩ h13 (ref_Within_ok h15) (by kernel_rfl) ?_
      refine WO_run (j := 9) (k := 2) (orcs := [(14, .known false), (17, .val (.dat .bool false))]) (kF := [0, 1, 13]) (kL := []) (fr' := [(0, aI a0), (1, aD (.slice (.pair tI (.pair tI tI))) a1), (13, aB (!r14))]) (L' := []) (obs := [((!r11) = false), ((!r11) = false)]) rfl (by kernel_rfl) (allP2 h13 (allP1 h13)) ?_
      obtain rfl := Option.some.inj h
      refine WO_fin [0, 1, 13] [] (fr' := [(0, aI a0), (1, aD (.slice (.pair tI (.pair tI tI))) a1), (13, aB (!r14))]) (L' := []) (by kernel_rfl) (by kernel_rfl) ?_
      exact exQ_mk (by kernel_rfl) (by kernel_rfl)
  · intro e fr L hJ
    obtain ⟨rfl, rfl, rfl⟩ := hJ
    refine LT_keep [0, 1, 13] [] (fr' := [(0, aI a0), (1, aD (.slice (.pair tI (.pair tI tI))) a1), (13, aB v16)]) (L' := []) (by kernel_rfl) ?_
    refine seqQ_norm ?_
    refine W_cond (o := .tmp 13) (b := v16) (by kernel_rfl) (by kernel_rfl) (fun h18 => ?_) (fun h18 => ?_)
    · replace h := ofT h18 h
      refine W_seq (by kernel_rfl) ?_
      refine W_run 1 [] [4] [] (fr' := [(4, aI (1 : Int))]) (L' := []) (obs := []) (by kernel_rfl) (by kernel_rfl) (by kernel_rfl) allP0 ?_
      refine seqQ_norm ?_
      obtain rfl := Option.some.inj h
      refine W_ret [4] [] (fr' := [(4, aI (1 : Int))]) (L' := []) (by kernel_rfl) (by kernel_rfl) ?_
      refine seqQ_ret ?_
      exact retQ_mk (by kernel_rfl) (by kernel_rfl) (by kernel_rfl)
    · replace h := ofF h18 h
      refine W_skip [0, 1] [] (fr' := [(0, aI a0), (1, aD (.slice (.pair tI (.pair tI tI))) a1)]) (L' := []) (by kernel_rfl) (by kernel_rfl) ?_
      refine seqQ_norm ?_
      refine W_seq (by kernel_rfl) ?_
      refine W_region (by kernel_rfl) ?_
      refine WO_run (j := 2) (k := 2) (orcs := []) (kF := [14, 15]) (kL := []) (fr' := [(14, aI a0), (15, aD (.slice (.pair tI (.pair tI tI))) a1)]) (L' := []) (obs := []) rfl (by kernel_rfl) allP0 ?_
      obtain ⟨r19, h20, h⟩ := bind_of h
      refine WO_call0 (us := [none, none]) (d := 16) (p := True) (j := 3) rfl ⟨by kernel_rfl, by kernel_rfl, by kernel_rfl⟩ trivial (ref_GatesCheck_ok h20) (by kernel_rfl) ?_
      refine WO_run (j := 4) (k := 1) (orcs := []) (kF := [4]) (kL := []) (fr' := [(4, aI r19)]) (L' := []) (obs := []) rfl (by kernel_rfl) allP0 ?_
      refine WO_fin [4] [] (fr' := [(4, aI r19)]) (L' := []) (by kernel_rfl) (by kernel_rfl) ?_
      refine seqQ_norm ?_
      obtain rfl := Option.some.inj h
      refine W_ret [4] [] (fr' := [(4, aI r19)]) (L' := []) (by kernel_rfl) (by kernel_rfl) ?_
      exact retQ_mk (by kernel_rfl) (by kernel_rfl) (by kernel_rfl)

def ref_Deep_g21 (i184 : Int) (x185 : (List Int)) (v187 : (Int × (Int × Int))) (v245 : Int) : Option Bool :=
bif decide (v187.1 ≥ (3 : Int)) then
((idx (List.set x185 (Int.toNat i184) (w64 (v245 + (1 : Int)))) v187.2.2).bind fun v260 =>
(idx (List.set x185 (Int.toNat i184) (w64 (v245 + (1 : Int)))) i184).bind fun v262 =>
some (decide (v260 ≥ v262)))
else
(some false)
@[reducible] def ref_Deep_s22 (a0 : (List (Int × (Int × Int)))) (i184 : Int) (x185 : (List Int)) (v187 : (Int × (Int × Int))) (v245 : Int) (v : Bool) : Fr × LL := ([(3, .one (.slc 8)), (4, aI i184), (5, .one (.ptr 5 0)), (9, aD (.slice (.pair tI (.pair tI tI))) a0), (10, aI (List.length a0 : Int)), (11, aI i184), (42, aB v)], [(8, .seq tI (List.set x185 (Int.toNat i184) (w64 (v245 + (1 : Int))))), (5, .one (.pair tI (.pair tI tI)) v187)])
def ref_Deep_g23 (i184 : Int) (x185 : (List Int)) (v187 : (Int × (Int × Int))) : Option (List Int) :=
bif v187.1 == (1 : Int) then
(some x185)
else
((idx x185 v187.2.1).bind fun v245 =>
(idx x185 i184).bind fun v247 =>
(ref_Deep_g21 i184 x185 v187 v245).bind fun v264 =>
bif v264 then
((idx (List.set x185 (Int.toNat i184) (w64 (v245 + (1 : Int)))) v187.2.2).bind fun v267 =>
(idx (List.set x185 (Int.toNat i184) (w64 (v245 + (1 : Int)))) i184).bind fun v269 =>
some (List.set (List.set x185 (Int.toNat i184) (w64 (v245 + (1 : Int)))) (Int.toNat i184) (w64 (v267 + (1 : Int)))))
else
(some (List.set x185 (Int.toNat i184) (w64 (v245 + (1 : Int))))))
@[reducible] def ref_Deep_s24 (a0 : (List (Int × (Int × Int)))) (i184 : Int) (v : (List Int)) : Fr × LL := ([(3, .one (.slc 8)), (9, aD (.slice (.pair tI (.pair tI tI))) a0), (10, aI (List.length a0 : Int)), (11, aI i184)], [(8, .seq tI v)])
def ref_Deep_b25 (i184 : Int) (v187 : (Int × (Int × Int))) (x185 : (List Int)) : Option (Flow (List Int) (List Int)) :=
(ref_Deep_g23 i184 x185 v187).bind fun v271 =>
some (.next v271)
@[reducible] def ref_Deep_s26 (a0 : (List (Int × (Int × Int)))) (v : Int × (List Int)) : Fr × LL := ([(3, .one (.slc 8)), (9, aD (.slice (.pair tI (.pair tI tI))) a0), (10, aI (List.length a0 : Int)), (11, aI v.1)], [(8, .seq tI v.2)])
@[reducible] def ref_Deep_s27 (v : (List Int)) : Fr × LL := ([(3, .one (.slc 8))], [(8, .seq tI v)])
def ref_Deep (a0 : (List (Int × (Int × Int)))) : Option (List Int) :=
(ck (0 ≤ (List.length a0 : Int) ∧ (List.length a0 : Int) = (List.length a0 : Int) ∧ (List.length a0 : Int) ≤ 4294967296)).bind fun _ =>
(forL ref_Deep_b25 (fun x185 => x185) a0 0 (List.replicate (Int.toNat (List.length a0 : Int)) (0 : Int))).bind fun v274 =>
some v274
theorem ref_Deep_ok {a0 : (List (Int × (Int × Int)))} {r : (List Int)} (h : ref_Deep a0 = some r) : FnC Try.prog 16 [aD (.slice (.pair tI (.pair tI tI))) a0] [] (aD (.slice tI) r) [] := by
  refine fnC_of_W (B := bodyOf Try.f16) (n := 54) Try.func16 (by kernel_rfl) (by kernel_rfl) (by kernel_rfl) (by kernel_rfl) (by kernel_rfl) ?_
  intro K
  refine W_seq (by kernel_rfl) ?_
  refine W_run 1 [] [0] [] (fr' := [(0, aD (.slice (.pair tI (.pair tI tI))) a0)]) (L' := []) (obs := []) (by kernel_rfl) (by kernel_rfl) (by kernel_rfl) allP0 ?_
  refine seqQ_norm ?_
  refine W_seq (by kernel_rfl) ?_
  obtain ⟨_, h1, h⟩ := bind_of h
  replace h1 := ck_some h1
  refine W_run 4 [] [0, 3] [8] (fr' := [(0, aD (.slice (.pair tI (.pair tI tI))) a0), (3, .one (.slc 8))]) (L' := [(8, .seq tI (List.replicate (Int.toNat (List.length a0 : Int)) (0 : Int)))]) (obs := [0 ≤ (List.length a0 : Int) ∧ (List.length a0 : Int) = (List.length a0 : Int) ∧ SmallLen (List.length a0 : Int)]) (by kernel_rfl) (by kernel_rfl) (by kernel_rfl) (allP1 h1) ?_
  refine seqQ_norm ?_
  refine W_seq (by kernel_rfl) ?_
  refine W_seq (by kernel_rfl) ?_
  refine W_run 3 [] [3, 9, 10, 11] [8] (fr' := [(3, .one (.slc 8)), (9, aD (.slice (.pair tI (.pair tI tI))) a0), (10, aI (List.length a0 : Int)), (11, aI (0 : Int))]) (L' := [(8, .seq tI (List.replicate (Int.toNat (List.length a0 : Int)) (0 : Int)))]) (obs := []) (by kernel_rfl) (by kernel_rfl) (by kernel_rfl) allP0 ?_
  refine seqQ_norm ?_
  refine W_block (id := 0) (by kernel_rfl) ?_
  obtain ⟨v274, h275, h⟩ := bind_of h
  refine W_len (t := 9) (u := (.pair tI (.pair tI tI))) (xs := a0) (by kernel_rfl) (fun h278 => ?_)
  obtain ⟨h276, h277⟩ := forL_iter h278 h275
  refine W_weaken [3, 9, 10, 11] [8] (fr' := ((ref_Deep_s26 a0) ((0 : Int), List.replicate (Int.toNat (List.length a0 : Int)) (0 : Int))).1) (L' := ((ref_Deep_s26 a0) ((0 : Int), List.replicate (Int.toNat (List.length a0 : Int)) (0 : Int))).2) (by kernel_rfl) ?_
  refine W_cutK (W_loop (S := (ref_Deep_s26 a0)) (J := (exQ (.exit 0) ref_Deep_s27)) (by kernel_rfl) ?_ h276 _ v274 h277) ?_
  · rintro ⟨i184, x185⟩ s h
    refine W_seq (by kernel_rfl) ?_
    refine W_run 1 [] [3, 9, 10, 11, 12] [8] (fr' := [(3, .one (.slc 8)), (9, aD (.slice (.pair tI (.pair tI tI))) a0), (10, aI (List.length a0 : Int)), (11, aI i184), (12, aB (decide (i184 < (List.length a0 : Int))))]) (L' := [(8, .seq tI x185)]) (obs := []) (by kernel_rfl) (by kernel_rfl) (by kernel_rfl) allP0 ?_
    refine seqQ_norm ?_
    refine W_seq (by kernel_rfl) ?_
    refine W_cond (o := .tmp 12) (b := decide (i184 < (List.length a0 : Int))) (by kernel_rfl) (by kernel_rfl) (fun h189 => ?_) (fun h189 => ?_)
    · replace h := stepL_true h189 h
      obtain ⟨v187, _, h188, h, rfl⟩ := h
      refine W_skip [3, 9, 10, 11] [8] (fr' := [(3, .one (.slc 8)), (9, aD (.slice (.pair tI (.pair tI tI))) a0), (10, aI (List.length a0 : Int)), (11, aI i184)]) (L' := [(8, .seq tI x185)]) (by kernel_rfl) (by kernel_rfl) ?_
      refine seqQ_norm ?_
      refine W_seq (by kernel_rfl) ?_
      obtain ⟨v271, h272, h⟩ := bind_of h
      refine W_cutK (Q' := (exQ .normal (ref_Deep_s24 a0 i184)) v271) ?_ ?_
      · replace h := h272
        refine W_block (id := 1) (by kernel_rfl) ?_
        refine W_seq (by kernel_rfl) ?_
        refine W_run 6 [(3, .val (.dat (.pair tI (.pair tI tI)) v187)), (7, .typed)] [3, 4, 5, 9, 10, 11] [8, 5] (fr' := [(3, .one (.slc 8)), (4, aI i184), (5, .one (.ptr 5 0)), (9, aD (.slice (.pair tI (.pair tI tI))) a0), (10, aI (List.length a0 : Int)), (11, aI i184)]) (L' := [(8, .seq tI x185), (5, .one (.pair tI (.pair tI tI)) v187)]) (obs := [Idx a0 i184 v187, True]) (by kernel_rfl) (by kernel_rfl) (by kernel_rfl) (allP2 (Idx.of h188) (allP1 trivial)) ?_
        refine seqQ_norm ?_
        refine W_seq (by kernel_rfl) ?_
        refine W_seq (by kernel_rfl) ?_
        refine W_run 3 [] [3, 4, 5, 9, 10, 11, 18] [8, 5] (fr' := [(3, .one (.slc 8)), (4, aI i184), (5, .one (.ptr 5 0)), (9, aD (.slice (.pair tI (.pair tI tI))) a0), (10, aI (List.length a0 : Int)), (11, aI i184), (18, aB (v187.1 == (1 : Int)))]) (L' := [(8, .seq tI x185), (5, .one (.pair tI (.pair tI tI)) v187)]) (obs := []) (by kernel_rfl) (by kernel_rfl) (by kernel_rfl) allP0 ?_
        refine seqQ_norm ?_
        refine W_cond (o := .tmp 18) (b := v187.1 == (1 : Int)) (by kernel_rfl) (by kernel_rfl) (fun h244 => ?_) (fun h244 => ?_)
        · replace h := ofT h244 h
          obtain rfl := Option.some.inj h
          refine W_exit (id := 1) [3, 9, 10, 11] [8] (fr' := [(3, .one (.slc 8)), (9, aD (.slice (.pair tI (.pair tI tI))) a0), (10, aI (List.length a0 : Int)), (11, aI i184)]) (L' := [(8, .seq tI x185)]) (by kernel_rfl) (by kernel_rfl) ?_
          refine seqQ_exit ?_
          refine blockQ_hit ?_
          exact exQ_mk (by kernel_rfl) (by kernel_rfl)
        · replace h := ofF h244 h
          refine W_skip [3, 4, 5, 9, 10, 11] [8, 5] (fr' := [(3, .one (.slc 8)), (4, aI i184), (5, .one (.ptr 5 0)), (9, aD (.slice (.pair tI (.pair tI tI))) a0), (10, aI (List.length a0 : Int)), (11, aI i184)]) (L' := [(8, .seq tI x185), (5, .one (.pair tI (.pair tI tI)) v187)]) (by kernel_rfl) (by kernel_rfl) ?_
          refine seqQ_norm ?_
          refine W_seq (by kernel_rfl) ?_
          obtain ⟨v245, h246, h⟩ := bind_of h
          obtain ⟨v247, h248, h⟩ := bind_of h
          refine W_run 10 [(13, .val (.dat tI v245))] [3, 4, 5, 9, 10, 11] [8, 5] (fr' := [(3, .one (.slc 8)), (4, aI i184), (5, .one (.ptr 5 0)), (9, aD (.slice (.pair tI (.pair tI tI))) a0), (10, aI (List.length a0 : Int)), (11, aI i184)]) (L' := [(8, .seq tI (List.set x185 (Int.toNat i184) (w64 (v245 + (1 : Int))))), (5, .one (.pair tI (.pair tI tI)) v187)]) (obs := [InR v187.2.1 (List.length x185), Idx x185 v187.2.1 v245, InR i184 (List.length x185), InR i184 (List.length x185)]) (by kernel_rfl) (by kernel_rfl) (by kernel_rfl) (allP2 (InR.of h246) (allP2 (Idx.of h246) (allP2 (InR.of h248) (allP1 (InR.of h248))))) ?_
          refine seqQ_norm ?_
          refine W_seq (by kernel_rfl) ?_
          obtain ⟨v264, h265, h⟩ := bind_of h
          refine W_cutK (Q' := (exQ .normal (ref_Deep_s22 a0 i184 x185 v187 v245)) v264) ?_ ?_
          · replace h := h265
            rcases Bool.eq_false_or_eq_true (decide (v187.1 ≥ (3 : Int))) with h259 | h259
            · replace h := ofT h259 h
              obtain ⟨v260, h261, h⟩ := bind_of h
              obtain ⟨v262, h263, h⟩ := bind_of h
              obtain rfl := Option.some.inj h
              refine W_draw2 15 [(8, .known true), (10, .known true), (12, .known true), (14, .known true), (16, .known true), (17, .val (.dat tI v260)), (18, .known true), (20, .known true), (22, .known true), (24, .known true), (25, .val (.dat tI v262)), (26, .known true), (29, .val (.dat .bool true))] [] [3, 4, 5, 9, 10, 11, 42] [8, 5] (fr' := [(3, .one (.slc 8)), (4, aI i184), (5, .one (.ptr 5 0)), (9, aD (.slice (.pair tI (.pair tI tI))) a0), (10, aI (List.length a0 : Int)), (11, aI i184), (42, aB (decide (v260 ≥ v262)))]) (L' := [(8, .seq tI (List.set x185 (Int.toNat i184) (w64 (v245 + (1 : Int))))), (5, .one (.pair tI (.pair tI tI)) v187)]) (out := [(28, .one (.ptr 5 0)), (29, aI v187.1), (30, aB (decide (v187.1 ≥ (3 : Int)))), (31, aB (decide (v187.1 ≥ (3 : Int)))), (32, .one (.slc 8)), (33, .one (.ptr 5 2)), (34, aI v187.2.2), (35, .one (.eptr 8 1 v187.2.2 0)), (36, aI v260), (37, .one (.slc 8)), (38, aI i184), (39, .one (.eptr 8 1 i184 0)), (40, aI v262), (41, aB (decide (v260 ≥ v262))), (42, aB (decide (v260 ≥ v262)))]) (obs := [((decide (v187.1 ≥ (3 : Int))) = true), ((decide (v187.1 ≥ (3 : Int))) = true), ((decide (v187.1 ≥ (3 : Int))) = true), ((decide (v187.1 ≥ (3 : Int))) = true), InR v187.2.2 (List.length (List.set x185 (Int.toNat i184) (w64 (v245 + (1 : Int))))), ((decide (v187.1 ≥ (3 : Int))) = true), Idx (List.set x185 (Int.toNat i184) (w64 (v245 + (1 : Int)))) v187.2.2 v260, ((decide (v187.1 ≥ (3 : Int))) = true), ((decide (v187.1 ≥ (3 : Int))) = true), ((decide (v187.1 ≥ (3 : Int))) = true), InR i184 (List.length (List.set x185 (Int.toNat i184) (w64 (v245 + (1 : Int))))), ((decide (v187.1 ≥ (3 : Int))) = true), Idx (List.set x185 (Int.toNat i184) (w64 (v245 + (1 : Int)))) i184 v262, ((decide (v187.1 ≥ (3 : Int))) = true), ((decide (v187.1 ≥ (3 : Int))) = true)]) (obs2 := []) (calls := []) (by kernel_rfl) (by kernel_rfl) (by kernel_rfl) (by kernel_rfl) (allP2 h259 (allP2 h259 (allP2 h259 (allP2 h259 (allP2 (InR.of h261) (allP2 h259 (allP2 (Idx.of h261) (allP2 h259 (allP2 h259 (allP2 h259 (allP2 (InR.of h263) (allP2 h259 (allP2 (Idx.of h263) (allP2 h259 (allP1 h259))))))))))))))) allC0 (by kernel_rfl) allP0 ?_
              exact exQ_mk (by kernel_rfl) (by kernel_rfl)
            · replace h := ofF h259 h
              obtain rfl := Option.some.inj h
              refine W_draw2 15 [(8, .known false), (10, .known false), (12, .known false), (14, .known false), (16, .known false), (18, .known false), (20, .known false), (22, .known false), (24, .known false), (26, .known false), (29, .val (.dat .bool false))] [] [3, 4, 5, 9, 10, 11, 42] [8, 5] (fr' := [(3, .one (.slc 8)), (4, aI i184), (5, .one (.ptr 5 0)), (9, aD (.slice (.pair tI (.pair tI tI))) a0), (10, aI (List.length a0 : Int)), (11, aI i184), (42, aB false)]) (L' := [(8, .seq tI (List.set x185 (Int.toNat i184) (w64 (v245 + (1 : Int))))), (5, .one (.pair tI (.pair tI tI)) v187)]) (out := [(28, .one (.ptr 5 0)), (29, aI v187.1), (30, aB (decide (v187.1 ≥ (3 : Int)))), (31, aB (decide (v187.1 ≥ (3 : Int)))), (32, .tup []), (33, .tup []), (34, .tup []), (35, .tup []), (36, .tup []), (37, .tup []), (38, .tup []), (39, .tup []), (40, .tup []), (41, .tup []), (42, aB false)]) (obs := [((decide (v187.1 ≥ (3 : Int))) = false), ((decide (v187.1 ≥ (3 : Int))) = false), ((decide (v187.1 ≥ (3 : Int))) = false), ((decide (v187.1 ≥ (3 : Int))) = false), ((decide (v187.1 ≥ (3 : Int))) = false), ((decide (v187.1 ≥ (3 : Int))) = false), ((decide (v187.1 ≥ (3 : Int))) = false), ((decide (v187.1 ≥ (3 : Int))) = false), ((decide (v187.1 ≥ (3 : Int))) = false), ((decide (v187.1 ≥ (3 : Int))) = false), ((decide (v187.1 ≥ (3 : Int))) = false)]) (obs2 := []) (calls := []) (by kernel_rfl) (by kernel_rfl) (by kernel_rfl) (by kernel_rfl) (allP2 h259 (allP2 h259 (allP2 h259 (allP2 h259 (allP2 h259 (allP2 h259 (allP2 h259 (allP2 h259 (allP2 h259 (allP2 h259 (allP1 h259))))))))))) allC0 (by kernel_rfl) allP0 ?_
              exact exQ_mk (by kernel_rfl) (by kernel_rfl)
          · intro e fr L hJ
            obtain ⟨rfl, rfl, rfl⟩ := hJ
            refine LT_keep [3, 4, 5, 9, 10, 11, 42] [8, 5] (fr' := [(3, .one (.slc 8)), (4, aI i184), (5, .one (.ptr 5 0)), (9, aD (.slice (.pair tI (.pair tI tI))) a0), (10, aI (List.length a0 : Int)), (11, aI i184), (42, aB v264)]) (L' := [(8, .seq tI (List.set x185 (Int.toNat i184) (w64 (v245 + (1 : Int))))), (5, .one (.pair tI (.pair tI tI)) v187)]) (by kernel_rfl) ?_
            refine seqQ_norm ?_
            refine W_cond (o := .tmp 42) (b := v264) (by kernel_rfl) (by kernel_rfl) (fun h266 => ?_) (fun h266 => ?_)
            · replace h := ofT h266 h
              obtain ⟨v267, h268, h⟩ := bind_of h
              obtain ⟨v269, h270, h⟩ := bind_of h
              obtain rfl := Option.some.inj h
              refine W_run 10 [(13, .val (.dat tI v267))] [3, 9, 10, 11] [8] (fr' := [(3, .one (.slc 8)), (9, aD (.slice (.pair tI (.pair tI tI))) a0), (10, aI (List.length a0 : Int)), (11, aI i184)]) (L' := [(8, .seq tI (List.set (List.set x185 (Int.toNat i184) (w64 (v245 + (1 : Int)))) (Int.toNat i184) (w64 (v267 + (1 : Int)))))]) (obs := [InR v187.2.2 (List.length (List.set x185 (Int.toNat i184) (w64 (v245 + (1 : Int))))), Idx (List.set x185 (Int.toNat i184) (w64 (v245 + (1 : Int)))) v187.2.2 v267, InR i184 (List.length (List.set x185 (Int.toNat i184) (w64 (v245 + (1 : Int))))), InR i184 (List.length (List.set x185 (Int.toNat i184) (w64 (v245 + (1 : Int)))))]) (by kernel_rfl) (by kernel_rfl) (by kernel_rfl) (allP2 (InR.of h268) (allP2 (Idx.of h268) (allP2 (InR.of h270) (allP1 (InR.of h270))))) ?_
              refine blockQ_norm ?_
              exact exQ_mk (by kernel_rfl) (by kernel_rfl)
            · replace h := ofF h266 h
              obtain rfl := Option.some.inj h
              refine W_skip [3, 9, 10, 11] [8] (fr' := [(3, .one (.slc 8)), (9, aD (.slice (.pair tI (.pair tI tI))) a0), (10, aI (List.length a0 : Int)), (11, aI i184)]) (L' := [(8, .seq tI (List.set x185 (Int.toNat i184) (w64 (v245 + (1 : Int)))))]) (by kernel_rfl) (by kernel_rfl) ?_
              refine blockQ_norm ?_
              exact exQ_mk (by kernel_rfl) (by kernel_rfl)
      · intro e fr L hJ
        obtain ⟨rfl, rfl, rfl⟩ := hJ
        refine LT_keep [3, 9, 10, 11] [8] (fr' := [(3, .one (.slc 8)), (9, aD (.slice (.pair tI (.pair tI tI))) a0), (10, aI (List.length a0 : Int)), (11, aI i184)]) (L' := [(8, .seq tI v271)]) (by kernel_rfl) ?_
        refine seqQ_norm ?_
        obtain rfl := Option.some.inj h
        refine W_run 2 [] [3, 9, 10, 11] [8] (fr' := [(3, .one (.slc 8)), (9, aD (.slice (.pair tI (.pair tI tI))) a0), (10, aI (List.length a0 : Int)), (11, aI (w64 (i184 + (1 : Int))))]) (L' := [(8, .seq tI v271)]) (obs := []) (by kernel_rfl) (by kernel_rfl) (by kernel_rfl) allP0 ?_
        exact round_next' (by kernel_rfl) (by kernel_rfl)
    · obtain rfl := stepL_false h189 h
      refine W_exit (id := 0) [3] [8] (fr' := [(3, .one (.slc 8))]) (L' := [(8, .seq tI x185)]) (by kernel_rfl) (by kernel_rfl) ?_
      refine seqQ_exit ?_
      refine round_exit ?_
      exact exQ_mk (by kernel_rfl) (by kernel_rfl)
  · intro e fr L hJ
    obtain ⟨rfl, rfl, rfl⟩ := hJ
    refine LT_keep [3] [8] (fr' := [(3, .one (.slc 8))]) (L' := [(8, .seq tI v274)]) (by kernel_rfl) ?_
    refine blockQ_hit ?_
    refine seqQ_norm ?_
    refine W_seq (by kernel_rfl) ?_
    refine W_run 2 [] [2] [8] (fr' := [(2, .one (.slc 8))]) (L' := [(8, .seq tI v274)]) (obs := []) (by kernel_rfl) (by kernel_rfl) (by kernel_rfl) allP0 ?_
    refine seqQ_norm ?_
    obtain rfl := Option.some.inj h
    refine W_frz 8 (by kernel_rfl) ?_
    refine W_ret [2] [] (fr' := [(2, aD (.slice tI) v274)]) (L' := []) (by kernel_rfl) (by kernel_rfl) ?_
    exact retQ_mk (by kernel_rfl) (by kernel_rfl) (by kernel_rfl)

def law_GateDeeps_g1 (a1 : (List (Int × (Int × Int)))) (r1 : (Int × Int)) : Option Bool :=
bif r1.2 == (0 : Int) then
((ref_Deep a1).bind fun r17 =>
(idx r17 (w64 ((List.length a1 : Int) - (1 : Int)))).bind fun v19 =>
some (r1.1 == v19))
else
(some false)
@[reducible] def law_GateDeeps_s2 (v : Bool) : Fr × LL := ([(4, aB v)], [])
def law_GateDeeps (a0 : Int) (a1 : (List (Int × (Int × Int)))) : Option Bool :=
(gate_Deep a0 a1).bind fun r1 =>
(ref_GateCheck a0 a1).bind fun r3 =>
bif r3 != (0 : Int) then
(some ((r1.2 == r3) && (r1.1 == (0 : Int))))
else
((law_GateDeeps_g1 a1 r1).bind fun v21 =>
some v21)
theorem law_GateDeeps_ok {a0 : Int} {a1 : (List (Int × (Int × Int)))} {r : Bool} (h : law_GateDeeps a0 a1 = some r) : FnC Try.prog 4 [aI a0, aD (.slice (.pair tI (.pair tI tI))) a1] [] (aB r) [] := by
  refine fnC_of_W (B := bodyOf Try.f4) (n := 39) Try.func4 (by kernel_rfl) (by kernel_rfl) (by kernel_rfl) (by kernel_rfl) (by kernel_rfl) ?_
  intro K
  refine W_seq (by kernel_rfl) ?_
  refine W_run 1 [] [0, 1] [] (fr' := [(0, aI a0), (1, aD (.slice (.pair tI (.pair tI tI))) a1)]) (L' := []) (obs := []) (by kernel_rfl) (by kernel_rfl) (by kernel_rfl) allP0 ?_
  refine seqQ_norm ?_
  refine W_seq (by kernel_rfl) ?_
  refine W_region (by kernel_rfl) ?_
  refine WO_run (j := 2) (k := 2) (orcs := []) (kF := [0, 1, 9, 10]) (kL := []) (fr' := [(0, aI a0), (1, aD (.slice (.pair tI (.pair tI tI))) a1), (9, aI a0), (10, aD (.slice (.pair tI (.pair tI tI))) a1)]) (L' := []) (obs := []) rfl (by kernel_rfl) allP0 ?_
  obtain ⟨r1, h2, h⟩ := bind_of h
  refine WO_call0 (us := [none, none]) (d := 11) (p := True) (j := 3) rfl ⟨by kernel_rfl, by kernel_rfl, by kernel_rfl⟩ trivial (gate_Deep_ok h2) (by kernel_rfl) ?_
  refine WO_run (j := 8) (k := 5) (orcs := []) (kF := [0, 1, 5, 6]) (kL := []) (fr' := [(0, aI a0), (1, aD (.slice (.pair tI (.pair tI tI))) a1), (5, aI r1.1), (6, aI r1.2)]) (L' := []) (obs := []) rfl (by kernel_rfl) allP0 ?_
  refine WO_fin [0, 1, 5, 6] [] (fr' := [(0, aI a0), (1, aD (.slice (.pair tI (.pair tI tI))) a1), (5, aI r1.1), (6, aI r1.2)]) (L' := []) (by kernel_rfl) (by kernel_rfl) ?_
  refine seqQ_norm ?_
  refine W_seq (by kernel_rfl) ?_
  refine W_region (by kernel_rfl) ?_
  refine WO_run (j := 2) (k := 2) (orcs := []) (kF := [1, 5, 6, 14, 15]) (kL := []) (fr' := [(1, aD (.slice (.pair tI (.pair tI tI))) a1), (5, aI r1.1), (6, aI r1.2), (14, aI a0), (15, aD (.slice (.pair tI (.pair tI tI))) a1)]) (L' := []) (obs := []) rfl (by kernel_rfl) allP0 ?_
  obtain ⟨r3, h4, h⟩ := bind_of h
  refine WO_call0 (us := [none, none]) (d := 16) (p := True) (j := 3) rfl ⟨by kernel_rfl, by kernel_rfl, by kernel_rfl⟩ trivial (ref_GateCheck_ok h4) (by kernel_rfl) ?_
  refine WO_run (j := 4) (k := 1) (orcs := []) (kF := [1, 5, 6, 7]) (kL := []) (fr' := [(1, aD (.slice (.pair tI (.pair tI tI))) a1), (5, aI r1.1), (6, aI r1.2), (7, aI r3)]) (L' := []) (obs := []) rfl (by kernel_rfl) allP0 ?_
  refine WO_fin [1, 5, 6, 7] [] (fr' := [(1, aD (.slice (.pair tI (.pair tI tI))) a1), (5, aI r1.1), (6, aI r1.2), (7, aI r3)]) (L' := []) (by kernel_rfl) (by kernel_rfl) ?_
  refine seqQ_norm ?_
  refine W_seq (by kernel_rfl) ?_
  refine W_seq (by kernel_rfl) ?_
  refine W_run 2 [] [1, 5, 6, 7, 18] [] (fr' := [(1, aD (.slice (.pair tI (.pair tI tI))) a1), (5, aI r1.1), (6, aI r1.2), (7, aI r3), (18, aB (r3 != (0 : Int)))]) (L' := []) (obs := []) (by kernel_rfl) (by kernel_rfl) (by kernel_rfl) allP0 ?_
  refine seqQ_norm ?_
  refine W_cond (o := .tmp 18) (b := r3 != (0 : Int)) (by kernel_rfl) (by kernel_rfl) (fun h5 => ?_) (fun h5 => ?_)
  · replace h := ofT h5 h
    refine W_seq (by kernel_rfl) ?_
    refine W_run 8 [] [4] [] (fr' := [(4, aB ((r1.2 == r3) && (r1.1 == (0 : Int))))]) (L' := []) (obs := []) (by kernel_rfl) (by kernel_rfl) (by kernel_rfl) allP0 ?_
    refine seqQ_norm ?_
    obtain rfl := Option.some.inj h
    refine W_ret [4] [] (fr' := [(4, aB ((r1.2 == r3) && (r1.1 == (0 : Int))))]) (L' := []) (by kernel_rfl) (by kernel_rfl) ?_
    refine seqQ_ret ?_
    exact retQ_mk (by kernel_rfl) (by kernel_rfl) (by kernel_rfl)
  · replace h := ofF h5 h
    refine W_skip [1, 5, 6] [] (fr' := [(1, aD (.slice (.pair tI (.pair tI tI))) a1), (5, aI r1.1), (6, aI r1.2)]) (L' := []) (by kernel_rfl) (by kernel_rfl) ?_
    refine seqQ_norm ?_
    refine W_seq (by kernel_rfl) ?_
    obtain ⟨v21, h22, h⟩ := bind_of h
    refine W_cutK (Q' := (exQ .normal law_GateDeeps_s2) v21) ?_ ?_
    · replace h := h22
      refine W_region (by kernel_rfl) ?_
      refine WO_run (j := 3) (k := 3) (orcs := []) (kF := [1, 5, 28]) (kL := []) (fr' := [(1, aD (.slice (.pair tI (.pair tI tI))) a1), (5, aI r1.1), (28, aB (r1.2 == (0 : Int)))]) (L' := []) (obs := []) rfl (by kernel_rfl) allP0 ?_
      rcases Bool.eq_false_or_eq_true (r1.2 == (0 : Int)) with h16 | h16
      · replace h := ofT h16 h
        refine WO_run (j := 5) (k := 2) (orcs := [(6, .known true), (8, .known true)]) (kF := [1, 28, 29, 30]) (kL := []) (fr' := [(1, aD (.slice (.pair tI (.pair tI tI))) a1), (28, aB (r1.2 == (0 : Int))), (29, aI r1.1), (30, aD (.slice (.pair tI (.pair tI tI))) a1)]) (L' := []) (obs := [((r1.2 == (0 : Int)) = true), ((r1.2 == (0 : Int)) = true)]) rfl (by kernel_rfl) (allP2 h16 (allP1 h16)) ?_
        obtain ⟨r17, h18, h⟩ := bind_of h
        refine WO_call0 (us := [none]) (d := 31) (p := ((r1.2 == (0 : Int)) = true)) (j := 6) rfl ⟨by kernel_rfl, by kernel_rfl, by kernel_rfl⟩ h16 (ref_Deep_ok h18) (by kernel_rfl) ?_
        obtain ⟨v19, h20, h⟩ := bind_of h
        refine WO_run (j := 14) (k := 8) (orcs := [(12, .known true), (14, .known true), (16, .known true), (18, .known true), (19, .val (.dat tI v19)), (20, .known true), (22, .known true), (25, .val (.dat .bool true))]) (kF := [4]) (kL := []) (fr' := [(4, aB (r1.1 == v19))]) (L' := []) (obs := [((r1.2 == (0 : Int)) = true), ((r1.2 == (0 : Int)) = true), ((r1.2 == (0 : Int)) = true), ((r1.2 == (0 : Int)) = true), Idx r17 (w64 ((List.length a1 : Int) - (1 : Int))) v19, ((r1.2 == (0 : Int)) = true), ((r1.2 == (0 : Int)) = true), ((r1.2 == (0 : Int)) = true)]) rfl (by kernel_rfl) (allP2 h16 (allP2 h16 (allP2 h16 (allP2 h16 (allP2 (Idx.of h20) (allP2 h16 (allP2 h16 (allP1 h16)))))))) ?_
        obtain rfl := Option.some.inj h
        refine WO_fin [4] [] (fr' := [(4, aB (r1.1 == v19))]) (L' := []) (by kernel_rfl) (by kernel_rfl) ?_
        exact exQ_mk (by kernel_rfl) (by kernel_rfl)
      · replace h := ofF h16 h
        refine WO_run (j := 14) (k := 11) (orcs := [(6, .known false), (8, .known false), (10, .known false), (12, .known false), (14, .known false), (16, .known false), (18, .known false), (20, .known false), (22, .known false), (25, .val (.dat .bool false))]) (kF := [4]) (kL := []) (fr' := [(4, aB false)]) (L' := []) (obs := [((r1.2 == (0 : Int)) = false), ((r1.2 == (0 : Int)) = false), ((r1.2 == (0 : Int)) = false), ((r1.2 == (0 : Int)) = false), ((r1.2 == (0 : Int)) = false), ((r1.2 == (0 : Int)) = false), ((r1.2 == (0 : Int)) = false), ((r1.2 == (0 : Int)) = false), ((r1.2 == (0 : Int)) = false), ((r1.2 == (0 : Int)) = false)]) rfl (by kernel_rfl) (allP2 h16 (allP2 h16 (allP2 h16 (allP2 h16 (allP2 h16 (allP2 h16 (allP2 h16 (allP2 h16 (allP2 h16 (allP1 h16)))))))))) ?_
        obtain rfl := Option.some.inj h
        refine WO_fin [4] [] (fr' := [(4, aB false)]) (L' := []) (by kernel_rfl) (by kernel_rfl) ?_
        exact exQ_mk (by kernel_rfl) (by kernel_rfl)
    · intro e fr L hJ
      obtain ⟨rfl, rfl, rfl⟩ := hJ
      refine LT_keep [4] [] (fr' := [(4, aB v21)]) (L' := []) (by kernel_rfl) ?_
      refine seqQ_norm ?_
      obtain rfl := Option.some.inj h
      refine W_ret [4] [] (fr' := [(4, aB v21)]) (L' := []) (by kernel_rfl) (by kernel_rfl) ?_
      exact retQ_mk (by kernel_rfl) (by kernel_rfl) (by kernel_rfl)
end Go.Proofs.Ytmemlgpcmefpfaa.gateDeeps
