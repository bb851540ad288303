/- What the functions that AskWalks calls compute, as models, and that they compute it: written by a program of mine. -/
import Derived.Test.YtnlibkamomlccaaProg
import Derived.Test.YtnlibkamomlccaaSl3
set_option linter.all false
set_option maxRecDepth 100000
namespace Go.Proofs.Ytnlibkamomlccaa.askWalks
open Go Go.Sl
@[reducible] def ask_Walk_s5 (a0 : Int) (a1 : (List (Int × (Int × Int)))) (a2 : Int) (i34 : Int) (v : Bool) : Fr × LL := ([(0, aI a0), (1, aD (.slice (.pair tI (.pair tI tI))) a1), (2, aI a2), (25, aD (.slice (.pair tI (.pair tI tI))) a1), (26, aI (List.length a1 : Int)), (27, aI i34), (55, aB v)], [])
@[reducible] def ask_Walk_s6 (a0 : Int) (a1 : (List (Int × (Int × Int)))) (a2 : Int) (i34 : Int) (v37 : (Int × (Int × Int))) (v : Bool) : Fr × LL := ([(0, aI a0), (1, aD (.slice (.pair tI (.pair tI tI))) a1), (2, aI a2), (9, aI i34), (10, .one (.ptr 10 0)), (25, aD (.slice (.pair tI (.pair tI tI))) a1), (26, aI (List.length a1 : Int)), (27, aI i34), (40, aB v)], [(10, .one (.pair tI (.pair tI tI)) v37)])
def ask_Walk_b7 (a0 : Int) (i34 : Int) (v37 : (Int × (Int × Int))) (x35 : Unit) : Option (Flow Unit (Esc (Bool × Int × Int) Unit)) :=
(bif decide (v37.1 < (0 : Int)) then
(some true)
else
(some (decide (v37.1 ≥ a0)))).bind fun v43 =>
bif v43 then
(some (.done (.ret (false, (0 : Int), (4 : Int)))))
else
((bif decide ((imin v37.2.1 v37.2.2) < (-2 : Int)) then
(some true)
else
(some (decide ((imax v37.2.1 v37.2.2) ≥ i34)))).bind fun v49 =>
bif v49 then
(some (.done (.ret (false, (0 : Int), (2 : Int)))))
else
(some (.next ())))
@[reducible] def ask_Walk_s8 (a0 : Int) (a1 : (List (Int × (Int × Int)))) (a2 : Int) (v : Int × Unit) : Fr × LL := ([(0, aI a0), (1, aD (.slice (.pair tI (.pair tI tI))) a1), (2, aI a2), (25, aD (.slice (.pair tI (.pair tI tI))) a1), (26, aI (List.length a1 : Int)), (27, aI v.1)], [])
@[reducible] def ask_Walk_s9 (v : (Bool × Int × Int)) : Fr × LL := ([(6, aB v.1), (7, aI v.2.1), (8, aI v.2.2)], [])
@[reducible] def ask_Walk_s10 (a0 : Int) (a1 : (List (Int × (Int × Int)))) (a2 : Int) (v : Unit) : Fr × LL := ([(0, aI a0), (1, aD (.slice (.pair tI (.pair tI tI))) a1), (2, aI a2)], [])
def ask_Walk_g15 (a1 : (List (Int × (Int × Int)))) (a2 : Int) (x80 : (Int × Int)) : Option Int :=
(idx a1 x80.1).bind fun v105 =>
(ck (0 ≤ v105.1)).bind fun _ =>
bif (bAnd .i64 (bShr .i64 a2 v105.1) (1 : Int)) == (1 : Int) then
(some v105.2.2)
else
(some v105.2.1)
@[reducible] def ask_Walk_s16 (a1 : (List (Int × (Int × Int)))) (a2 : Int) (x80 : (Int × Int)) (v : Int) : Fr × LL := ([(1, aD (.slice (.pair tI (.pair tI tI))) a1), (2, aI a2), (11, aI v), (12, aI x80.2)], [])
def ask_Walk_b17 (a1 : (List (Int × (Int × Int)))) (a2 : Int) (x80 : (Int × Int)) : Option (Flow (Int × Int) (Int × Int)) :=
bif decide (x80.1 ≥ (0 : Int)) then
((ask_Walk_g15 a1 a2 x80).bind fun v109 =>
some (.next (v109, w64 (x80.2 + (1 : Int)))))
else
(some (.done (x80.1, x80.2)))
@[reducible] def ask_Walk_s18 (a1 : (List (Int × (Int × Int)))) (a2 : Int) (v : (Int × Int)) : Fr × LL := ([(1, aD (.slice (.pair tI (.pair tI tI))) a1), (2, aI a2), (11, aI v.1), (12, aI v.2)], [])
@[reducible] def ask_Walk_s19 (v : (Int × Int)) : Fr × LL := ([(11, aI v.1), (12, aI v.2)], [])
def ask_Walk (fuel : Nat) (a0 : Int) (a1 : (List (Int × (Int × Int)))) (a2 : Int) : Option (Bool × Int × Int) :=
bif ((decide (a0 < (0 : Int))) || (decide (a0 > (4 : Int)))) || (decide ((List.length a1 : Int) > (256 : Int))) then
(some (false, (0 : Int), (1 : Int)))
else
((forL (ask_Walk_b7 a0) (fun x35 => (.brk ())) a1 0 ()).bind fun v53 =>
match v53 with
| .ret v58 =>
(some (v58.1, v58.2.1, v58.2.2))
| .brk v59 =>
(bif decide (a2 < (0 : Int)) then
(some (false, (0 : Int), (4 : Int)))
else
((ck (0 ≤ a0)).bind fun _ =>
bif decide (a2 ≥ (bShl .i64 (1 : Int) a0)) then
(some (false, (0 : Int), (4 : Int)))
else
((iter (ask_Walk_b17 a1 a2) fuel (w64 ((List.length a1 : Int) - (1 : Int)), (0 : Int))).bind fun v111 =>
some (v111.1 == (-2 : Int), v111.2, (0 : Int))))))
theorem ask_Walk_ok {fuel : Nat} {a0 : Int} {a1 : (List (Int × (Int × Int)))} {a2 : Int} {r : (Bool × Int × Int)} (h : ask_Walk fuel a0 a1 a2 = some r) : FnC Try.prog 14 [aI a0, aD (.slice (.pair tI (.pair tI tI))) a1, aI a2] [] (.tup [.dat .bool r.1, .dat tI r.2.1, .dat tI r.2.2]) [] := by
  refine fnC_of_W (B := bodyOf Try.f14) (n := 89) Try.func14 (by kernel_rfl) (by kernel_rfl) (by kernel_rfl) (by kernel_rfl) (by kernel_rfl) ?_
  intro K
  refine W_seq (by kernel_rfl) ?_
  refine W_run 3 [] [0, 1, 2] [] (fr' := [(0, aI a0), (1, aD (.slice (.pair tI (.pair tI tI))) a1), (2, aI a2)]) (L' := []) (obs := []) (by kernel_rfl) (by kernel_rfl) (by kernel_rfl) allP0 ?_
  refine seqQ_norm ?_
  refine W_seq (by kernel_rfl) ?_
  refine W_seq (by kernel_rfl) ?_
  refine W_run 11 [] [0, 1, 2, 24] [] (fr' := [(0, aI a0), (1, aD (.slice (.pair tI (.pair tI tI))) a1), (2, aI a2), (24, aB (((decide (a0 < (0 : Int))) || (decide (a0 > (4 : Int)))) || (decide ((List.length a1 : Int) > (256 : Int)))))]) (L' := []) (obs := []) (by kernel_rfl) (by kernel_rfl) (by kernel_rfl) allP0 ?_
  refine seqQ_norm ?_
  refine W_cond (o := .tmp 24) (b := ((decide (a0 < (0 : Int))) || (decide (a0 > (4 : Int)))) || (decide ((List.length a1 : Int) > (256 : Int)))) (by kernel_rfl) (by kernel_rfl) (fun h1 => ?_) (fun h1 => ?_)
  · replace h := ofT h1 h
    refine W_seq (by kernel_rfl) ?_
    refine W_run 3 [] [6, 7, 8] [] (fr' := [(6, aB false), (7, aI (0 : Int)), (8, aI (1 : Int))]) (L' := []) (obs := []) (by kernel_rfl) (by kernel_rfl) (by kernel_rfl) allP0 ?_
    refine seqQ_norm ?_
    obtain rfl := Option.some.inj h
    refine W_ret [6, 7, 8] [] (fr' := [(6, aB false), (7, aI (0 : Int)), (8, aI (1 : Int))]) (L' := []) (by kernel_rfl) (by kernel_rfl) ?_
    refine seqQ_ret ?_
    exact retQ_mk (by kernel_rfl) (by kernel_rfl) (by kernel_rfl)
  · replace h := ofF h1 h
    refine W_skip [0, 1, 2] [] (fr' := [(0, aI a0), (1, aD (.slice (.pair tI (.pair tI tI))) a1), (2, aI a2)]) (L' := []) (by kernel_rfl) (by kernel_rfl) ?_
    refine seqQ_norm ?_
    refine W_seq (by kernel_rfl) ?_
    refine W_seq (by kernel_rfl) ?_
    refine W_run 3 [] [0, 1, 2, 25, 26, 27] [] (fr' := [(0, aI a0), (1, aD (.slice (.pair tI (.pair tI tI))) a1), (2, aI a2), (25, aD (.slice (.pair tI (.pair tI tI))) a1), (26, aI (List.length a1 : Int)), (27, aI (0 : Int))]) (L' := []) (obs := []) (by kernel_rfl) (by kernel_rfl) (by kernel_rfl) allP0 ?_
    refine seqQ_norm ?_
    refine W_block (id := 0) (by kernel_rfl) ?_
    obtain ⟨v53, h54, h⟩ := bind_of h
    refine W_len (t := 25) (u := (.pair tI (.pair tI tI))) (xs := a1) (by kernel_rfl) (fun h57 => ?_)
    obtain ⟨h55, h56⟩ := forL_iter h57 h54
    refine W_weaken [0, 1, 2, 25, 26, 27] [] (fr' := ((ask_Walk_s8 a0 a1 a2) ((0 : Int), ())).1) (L' := ((ask_Walk_s8 a0 a1 a2) ((0 : Int), ())).2) (by kernel_rfl) ?_
    refine W_cutK (W_loop (S := (ask_Walk_s8 a0 a1 a2)) (J := (escQ (exQ .ret ask_Walk_s9) (exQ (.exit 0) (ask_Walk_s10 a0 a1 a2)))) (by kernel_rfl) ?_ h55 _ v53 h56) ?_
    · rintro ⟨i34, x35⟩ s h
      refine W_seq (by kernel_rfl) ?_
      refine W_run 1 [] [0, 1, 2, 25, 26, 27, 28] [] (fr' := [(0, aI a0), (1, aD (.slice (.pair tI (.pair tI tI))) a1), (2, aI a2), (25, aD (.slice (.pair tI (.pair tI tI))) a1), (26, aI (List.length a1 : Int)), (27, aI i34), (28, aB (decide (i34 < (List.length a1 : Int))))]) (L' := []) (obs := []) (by kernel_rfl) (by kernel_rfl) (by kernel_rfl) allP0 ?_
      refine seqQ_norm ?_
      refine W_seq (by kernel_rfl) ?_
      refine W_cond (o := .tmp 28) (b := decide (i34 < (List.length a1 : Int))) (by kernel_rfl) (by kernel_rfl) (fun h39 => ?_) (fun h39 => ?_)
      · replace h := stepL_true h39 h
        obtain ⟨v37, _, h38, h, rfl⟩ := h
        refine W_skip [0, 1, 2, 25, 26, 27] [] (fr' := [(0, aI a0), (1, aD (.slice (.pair tI (.pair tI tI))) a1), (2, aI a2), (25, aD (.slice (.pair tI (.pair tI tI))) a1), (26, aI (List.length a1 : Int)), (27, aI i34)]) (L' := []) (by kernel_rfl) (by kernel_rfl) ?_
        refine seqQ_norm ?_
        refine W_seq (by kernel_rfl) ?_
        refine W_block (id := 1) (by kernel_rfl) ?_
        refine W_seq (by kernel_rfl) ?_
        refine W_run 6 [(3, .val (.dat (.pair tI (.pair tI tI)) v37)), (7, .typed)] [0, 1, 2, 9, 10, 25, 26, 27] [10] (fr' := [(0, aI a0), (1, aD (.slice (.pair tI (.pair tI tI))) a1), (2, aI a2), (9, aI i34), (10, .one (.ptr 10 0)), (25, aD (.slice (.pair tI (.pair tI tI))) a1), (26, aI (List.length a1 : Int)), (27, aI i34)]) (L' := [(10, .one (.pair tI (.pair tI tI)) v37)]) (obs := [Idx a1 i34 v37, True]) (by kernel_rfl) (by kernel_rfl) (by kernel_rfl) (allP2 (Idx.of h38) (allP1 trivial)) ?_
        refine seqQ_norm ?_
        refine W_seq (by kernel_rfl) ?_
        refine W_seq (by kernel_rfl) ?_
        obtain ⟨v43, h44, h⟩ := bind_of h
        refine W_cutK (Q' := (exQ .normal (ask_Walk_s6 a0 a1 a2 i34 v37)) v43) ?_ ?_
        · replace h := h44
          refine W_region (by kernel_rfl) ?_
          refine WO_run (j := 4) (k := 4) (orcs := []) (kF := [0, 1, 2, 9, 10, 25, 26, 27, 35]) (kL := [10]) (fr' := [(0, aI a0), (1, aD (.slice (.pair tI (.pair tI tI))) a1), (2, aI a2), (9, aI i34), (10, .one (.ptr 10 0)), (25, aD (.slice (.pair tI (.pair tI tI))) a1), (26, aI (List.length a1 : Int)), (27, aI i34), (35, aB (decide (v37.1 < (0 : Int))))]) (L' := [(10, .one (.pair tI (.pair tI tI)) v37)]) (obs := []) rfl (by kernel_rfl) allP0 ?_
          rcases Bool.eq_false_or_eq_true (decide (v37.1 < (0 : Int))) with h42 | h42
          · replace h := ofT h42 h
            refine WO_run (j := 9) (k := 5) (orcs := [(8, .known true), (10, .known true), (12, .known true), (14, .known true), (17, .val (.dat .bool true))]) (kF := [0, 1, 2, 9, 10, 25, 26, 27, 40]) (kL := [10]) (fr' := [(0, aI a0), (1, aD (.slice (.pair tI (.pair tI tI))) a1), (2, aI a2), (9, aI i34), (10, .one (.ptr 10 0)), (25, aD (.slice (.pair tI (.pair tI tI))) a1), (26, aI (List.length a1 : Int)), (27, aI i34), (40, aB true)]) (L' := [(10, .one (.pair tI (.pair tI tI)) v37)]) (obs := [((decide (v37.1 < (0 : Int))) = true), ((decide (v37.1 < (0 : Int))) = true), ((decide (v37.1 < (0 : Int))) = true), ((decide (v37.1 < (0 : Int))) = true), ((decide (v37.1 < (0 : Int))) = true)]) rfl (by kernel_rfl) (allP2 h42 (allP2 h42 (allP2 h42 (allP2 h42 (allP1 h42))))) ?_
            obtain rfl := Option.some.inj h
            refine WO_fin [0, 1, 2, 9, 10, 25, 26, 27, 40] [10] (fr' := [(0, aI a0), (1, aD (.slice (.pair tI (.pair tI tI))) a1), (2, aI a2), (9, aI i34), (10, .one (.ptr 10 0)), (25, aD (.slice (.pair tI (.pair tI tI))) a1), (26, aI (List.length a1 : Int)), (27, aI i34), (40, aB true)]) (L' := [(10, .one (.pair tI (.pair tI tI)) v37)]) (by kernel_rfl) (by kernel_rfl) ?_
            exact exQ_mk (by kernel_rfl) (by kernel_rfl)
          · replace h := ofF h42 h
            refine WO_run (j := 9) (k := 5) (orcs := [(8, .known false), (10, .known false), (12, .known false), (14, .known false), (17, .val (.dat .bool false))]) (kF := [0, 1, 2, 9, 10, 25, 26, 27, 40]) (kL := [10]) (fr' := [(0, aI a0), (1, aD (.slice (.pair tI (.pair tI tI))) a1), (2, aI a2), (9, aI i34), (10, .one (.ptr 10 0)), (25, aD (.slice (.pair tI (.pair tI tI))) a1), (26, aI (List.length a1 : Int)), (27, aI i34), (40, aB (decide (v37.1 ≥ a0)))]) (L' := [(10, .one (.pair tI (.pair tI tI)) v37)]) (obs := [((decide (v37.1 < (0 : Int))) = false), ((decide (v37.1 < (0 : Int))) = false), ((decide (v37.1 < (0 : Int))) = false), ((decide (v37.1 < (0 : Int))) = false), ((decide (v37.1 < (0 : Int))) = false)]) rfl (by kernel_rfl) (allP2 h42 (allP2 h42 (allP2 h42 (allP2 h42 (allP1 h42))))) ?_
            obtain rfl := Option.some.inj h
            refine WO_fin [0, 1, 2, 9, 10, 25, 26, 27, 40] [10] (fr' := [(0, aI a0), (1, aD (.slice (.pair tI (.pair tI tI))) a1), (2, aI a2), (9, aI i34), (10, .one (.ptr 10 0)), (25, aD (.slice (.pair tI (.pair tI tI))) a1), (26, aI (List.length a1 : Int)), (27, aI i34), (40, aB (decide (v37.1 ≥ a0)))]) (L' := [(10, .one (.pair tI (.pair tI tI)) v37)]) (by kernel_rfl) (by kernel_rfl) ?_
            exact exQ_mk (by kernel_rfl) (by kernel_rfl)
        · intro e fr L hJ
          obtain ⟨rfl, rfl, rfl⟩ := hJ
          refine LT_keep [0, 1, 2, 9, 10, 25, 26, 27, 40] [10] (fr' := [(0, aI a0), (1, aD (.slice (.pair tI (.pair tI tI))) a1), (2, aI a2), (9, aI i34), (10, .one (.ptr 10 0)), (25, aD (.slice (.pair tI (.pair tI tI))) a1), (26, aI (List.length a1 : Int)), (27, aI i34), (40, aB v43)]) (L' := [(10, .one (.pair tI (.pair tI tI)) v37)]) (by kernel_rfl) ?_
          refine seqQ_norm ?_
          refine W_cond (o := .tmp 40) (b := v43) (by kernel_rfl) (by kernel_rfl) (fun h45 => ?_) (fun h45 => ?_)
          · replace h := ofT h45 h
            refine W_seq (by kernel_rfl) ?_
            refine W_run 3 [] [6, 7, 8] [] (fr' := [(6, aB false), (7, aI (0 : Int)), (8, aI (4 : Int))]) (L' := []) (obs := []) (by kernel_rfl) (by kernel_rfl) (by kernel_rfl) allP0 ?_
            refine seqQ_norm ?_
            obtain rfl := Option.some.inj h
            refine W_ret [6, 7, 8] [] (fr' := [(6, aB false), (7, aI (0 : Int)), (8, aI (4 : Int))]) (L' := []) (by kernel_rfl) (by kernel_rfl) ?_
            refine seqQ_ret ?_
            refine blockQ_ret ?_
            refine seqQ_ret ?_
            refine round_ret ?_
            refine escQ_ret ?_
            exact exQ_mk (by kernel_rfl) (by kernel_rfl)
          · replace h := ofF h45 h
            refine W_skip [0, 1, 2, 9, 10, 25, 26, 27] [10] (fr' := [(0, aI a0), (1, aD (.slice (.pair tI (.pair tI tI))) a1), (2, aI a2), (9, aI i34), (10, .one (.ptr 10 0)), (25, aD (.slice (.pair tI (.pair tI tI))) a1), (26, aI (List.length a1 : Int)), (27, aI i34)]) (L' := [(10, .one (.pair tI (.pair tI tI)) v37)]) (by kernel_rfl) (by kernel_rfl) ?_
            refine seqQ_norm ?_
            refine W_seq (by kernel_rfl) ?_
            obtain ⟨v49, h50, h⟩ := bind_of h
            refine W_cutK (Q' := (exQ .normal (ask_Walk_s5 a0 a1 a2 i34)) v49) ?_ ?_
            · replace h := h50
              refine W_region (by kernel_rfl) ?_
              refine WO_run (j := 7) (k := 7) (orcs := []) (kF := [0, 1, 2, 9, 10, 25, 26, 27, 47]) (kL := [10]) (fr' := [(0, aI a0), (1, aD (.slice (.pair tI (.pair tI tI))) a1), (2, aI a2), (9, aI i34), (10, .one (.ptr 10 0)), (25, aD (.slice (.pair tI (.pair tI tI))) a1), (26, aI (List.length a1 : Int)), (27, aI i34), (47, aB (decide ((imin v37.2.1 v37.2.2) < (-2 : Int))))]) (L' := [(10, .one (.pair tI (.pair tI tI)) v37)]) (obs := []) rfl (by kernel_rfl) allP0 ?_
              rcases Bool.eq_false_or_eq_true (decide ((imin v37.2.1 v37.2.2) < (-2 : Int))) with h48 | h48
              · replace h := ofT h48 h
                refine WO_run (j := 15) (k := 8) (orcs := [(14, .known true), (16, .known true), (18, .known true), (20, .known true), (22, .known true), (24, .known true), (26, .known true), (29, .val (.dat .bool true))]) (kF := [0, 1, 2, 25, 26, 27, 55]) (kL := [10]) (fr' := [(0, aI a0), (1, aD (.slice (.pair tI (.pair tI tI))) a1), (2, aI a2), (25, aD (.slice (.pair tI (.pair tI tI))) a1), (26, aI (List.length a1 : Int)), (27, aI i34), (55, aB true)]) (L' := [(10, .one (.pair tI (.pair tI tI)) v37)]) (obs := [((decide ((imin v37.2.1 v37.2.2) < (-2 : Int))) = true), ((decide ((imin v37.2.1 v37.2.2) < (-2 : Int))) = true), ((decide ((imin v37.2.1 v37.2.2) < (-2 : Int))) = true), ((decide ((imin v37.2.1 v37.2.2) < (-2 : Int))) = true), ((decide ((imin v37.2.1 v37.2.2) < (-2 : Int))) = true), ((decide ((imin v37.2.1 v37.2.2) < (-2 : Int))) = true), ((decide ((imin v37.2.1 v37.2.2) < (-2 : Int))) = true), ((decide ((imin v37.2.1 v37.2.2) < (-2 : Int))) = true)]) rfl (by kernel_rfl) (allP2 h48 (allP2 h48 (allP2 h48 (allP2 h48 (allP2 h48 (allP2 h48 (allP2 h48 (allP1 h48)))))))) ?_
                obtain rfl := Option.some.inj h
                refine WO_fin [0, 1, 2, 25, 26, 27, 55] [] (fr' := [(0, aI a0), (1, aD (.slice (.pair tI (.pair tI tI))) a1), (2, aI a2), (25, aD (.slice (.pair tI (.pair tI tI))) a1), (26, aI (List.length a1 : Int)), (27, aI i34), (55, aB true)]) (L' := []) (by kernel_rfl) (by kernel_rfl) ?_
                exact exQ_mk (by kernel_rfl) (by kernel_rfl)
              · replace h := ofF h48 h
                refine WO_run (j := 15) (k := 8) (orcs := [(14, .known false), (16, .known false), (18, .known false), (20, .known false), (22, .known false), (24, .known false), (26, .known false), (29, .val (.dat .bool false))]) (kF := [0, 1, 2, 25, 26, 27, 55]) (kL := [10]) (fr' := [(0, aI a0), (1, aD (.slice (.pair tI (.pair tI tI))) a1), (2, aI a2), (25, aD (.slice (.pair tI (.pair tI tI))) a1), (26, aI (List.length a1 : Int)), (27, aI i34), (55, aB (decide ((imax v37.2.1 v37.2.2) ≥ i34)))]) (L' := [(10, .one (.pair tI (.pair tI tI)) v37)]) (obs := [((decide ((imin v37.2.1 v37.2.2) < (-2 : Int))) = false), ((decide ((imin v37.2.1 v37.2.2) < (-2 : Int))) = false), ((decide ((imin v37.2.1 v37.2.2) < (-2 : Int))) = false), ((decide ((imin v37.2.1 v37.2.2) < (-2 : Int))) = false), ((decide ((imin v37.2.1 v37.2.2) < (-2 : Int))) = false), ((decide ((imin v37.2.1 v37.2.2) < (-2 : Int))) = false), ((decide ((imin v37.2.1 v37.2.2) < (-2 : Int))) = false), ((decide ((imin v37.2.1 v37.2.2) < (-2 : Int))) = false)]) rfl (by kernel_rfl) (allP2 h48 (allP2 h48 (allP2 h48 (allP2 h48 (allP2 h48 (allP2 h48 (allP2 h48 (allP1 h48)))))))) ?_
                obtain rfl := Option.some.inj h
                refine WO_fin [0, 1, 2, 25, 26, 27, 55] [] (fr' := [(0, aI a0), (1, aD (.slice (.pair tI (.pair tI tI))) a1), (2, aI a2), (25, aD (.slice (.pair tI (.pair tI tI))) a1), (26, aI (List.length a1 : Int)), (27, aI i34), (55, aB (decide ((imax v37.2.1 v37.2.2) ≥ i34)))]) (L' := []) (by kernel_rfl) (by kernel_rfl) ?_
                exact exQ_mk (by kernel_rfl) (by kernel_rfl)
            · intro e fr L hJ
              obtain ⟨rfl, rfl, rfl⟩ := hJ
              refine LT_keep [0, 1, 2, 25, 26, 27, 55] [] (fr' := [(0, aI a0), (1, aD (.slice (.pair tI (.pair tI tI))) a1), (2, aI a2), (25, aD (.slice (.pair tI (.pair tI tI))) a1), (26, aI (List.length a1 : Int)), (27, aI i34), (55, aB v49)]) (L' := []) (by kernel_rfl) ?_
              refine seqQ_norm ?_
              refine W_cond (o := .tmp 55) (b := v49) (by kernel_rfl) (by kernel_rfl) (fun h51 => ?_) (fun h51 => ?_)
              · replace h := ofT h51 h
                refine W_seq (by kernel_rfl) ?_
                refine W_run 3 [] [6, 7, 8] [] (fr' := [(6, aB false), (7, aI (0 : Int)), (8, aI (2 : Int))]) (L' := []) (obs := []) (by kernel_rfl) (by kernel_rfl) (by kernel_rfl) allP0 ?_
                refine seqQ_norm ?_
                obtain rfl := Option.some.inj h
                refine W_ret [6, 7, 8] [] (fr' := [(6, aB false), (7, aI (0 : Int)), (8, aI (2 : Int))]) (L' := []) (by kernel_rfl) (by kernel_rfl) ?_
                refine blockQ_ret ?_
                refine seqQ_ret ?_
                refine round_ret ?_
                refine escQ_ret ?_
                exact exQ_mk (by kernel_rfl) (by kernel_rfl)
              · replace h := ofF h51 h
                refine W_skip [0, 1, 2, 25, 26, 27] [] (fr' := [(0, aI a0), (1, aD (.slice (.pair tI (.pair tI tI))) a1), (2, aI a2), (25, aD (.slice (.pair tI (.pair tI tI))) a1), (26, aI (List.length a1 : Int)), (27, aI i34)]) (L' := []) (by kernel_rfl) (by kernel_rfl) ?_
                refine blockQ_norm ?_
                refine seqQ_norm ?_
                obtain rfl := Option.some.inj h
                refine W_run 2 [] [0, 1, 2, 25, 26, 27] [] (fr' := [(0, aI a0), (1, aD (.slice (.pair tI (.pair tI tI))) a1), (2, aI a2), (25, aD (.slice (.pair tI (.pair tI tI))) a1), (26, aI (List.length a1 : Int)), (27, aI (w64 (i34 + (1 : Int))))]) (L' := []) (obs := []) (by kernel_rfl) (by kernel_rfl) (by kernel_rfl) allP0 ?_
                exact round_next' (by kernel_rfl) (by kernel_rfl)
      · obtain rfl := stepL_false h39 h
        refine W_exit (id := 0) [0, 1, 2] [] (fr' := [(0, aI a0), (1, aD (.slice (.pair tI (.pair tI tI))) a1), (2, aI a2)]) (L' := []) (by kernel_rfl) (by kernel_rfl) ?_
        refine seqQ_exit ?_
        refine round_exit ?_
        refine escQ_brk ?_
        exact exQ_mk (by kernel_rfl) (by kernel_rfl)
    · intro e fr L hJ
      rcases v53 with v58 | v59
      · obtain ⟨rfl, rfl, rfl⟩ := hJ
        obtain rfl := Option.some.inj h
        refine LT_keep [6, 7, 8] [] (fr' := [(6, aB v58.1), (7, aI v58.2.1), (8, aI v58.2.2)]) (L' := []) (by kernel_rfl) ?_
        refine blockQ_ret ?_
        refine seqQ_ret ?_
        exact retQ_mk (by kernel_rfl) (by kernel_rfl) (by kernel_rfl)
      · obtain ⟨rfl, rfl, rfl⟩ := hJ
        refine LT_keep [0, 1, 2] [] (fr' := [(0, aI a0), (1, aD (.slice (.pair tI (.pair tI tI))) a1), (2, aI a2)]) (L' := []) (by kernel_rfl) ?_
        refine blockQ_hit ?_
        refine seqQ_norm ?_
        refine W_seq (by kernel_rfl) ?_
        refine W_seq (by kernel_rfl) ?_
        refine W_region (by kernel_rfl) ?_
        refine WO_run (j := 3) (k := 3) (orcs := []) (kF := [0, 1, 2, 59]) (kL := []) (fr' := [(0, aI a0), (1, aD (.slice (.pair tI (.pair tI tI))) a1), (2, aI a2), (59, aB (decide (a2 < (0 : Int))))]) (L' := []) (obs := []) rfl (by kernel_rfl) allP0 ?_
        rcases Bool.eq_false_or_eq_true (decide (a2 < (0 : Int))) with h60 | h60
        · replace h := ofT h60 h
          refine WO_run (j := 8) (k := 5) (orcs := [(6, .known true), (8, .known true), (10, .known true), (12, .known true), (15, .val (.dat .bool true))]) (kF := [1, 2, 64]) (kL := []) (fr' := [(1, aD (.slice (.pair tI (.pair tI tI))) a1), (2, aI a2), (64, aB true)]) (L' := []) (obs := [((decide (a2 < (0 : Int))) = true), ((decide (a2 < (0 : Int))) = true), ((decide (a2 < (0 : Int))) = true), ((decide (a2 < (0 : Int))) = true), ((decide (a2 < (0 : Int))) = true)]) rfl (by kernel_rfl) (allP2 h60 (allP2 h60 (allP2 h60 (allP2 h60 (allP1 h60))))) ?_
          refine WO_fin [1, 2, 64] [] (fr' := [(1, aD (.slice (.pair tI (.pair tI tI))) a1), (2, aI a2), (64, aB true)]) (L' := []) (by kernel_rfl) (by kernel_rfl) ?_
          refine seqQ_norm ?_
          refine W_cond (o := .tmp 64) (b := true) (by kernel_rfl) (by kernel_rfl) (fun h61 => ?_) (fun h61 => by have := (rfl : true = true).symm.trans h61; cases this)
          refine W_seq (by kernel_rfl) ?_
          refine W_run 3 [] [6, 7, 8] [] (fr' := [(6, aB false), (7, aI (0 : Int)), (8, aI (4 : Int))]) (L' := []) (obs := []) (by kernel_rfl) (by kernel_rfl) (by kernel_rfl) allP0 ?_
          refine seqQ_norm ?_
          obtain rfl := Option.some.inj h
          refine W_ret [6, 7, 8] [] (fr' := [(6, aB false), (7, aI (0 : Int)), (8, aI (4 : Int))]) (L' := []) (by kernel_rfl) (by kernel_rfl) ?_
          refine seqQ_ret ?_
          exact retQ_mk (by kernel_rfl) (by kernel_rfl) (by kernel_rfl)
        · replace h := ofF h60 h
          obtain ⟨_, h62, h⟩ := bind_of h
          replace h62 := ck_some h62
          refine WO_run (j := 8) (k := 5) (orcs := [(6, .known false), (8, .known false), (10, .known false), (12, .known false), (15, .val (.dat .bool false))]) (kF := [1, 2, 64]) (kL := []) (fr' := [(1, aD (.slice (.pair tI (.pair tI tI))) a1), (2, aI a2), (64, aB (decide (a2 ≥ (bShl .i64 (1 : Int) a0))))]) (L' := []) (obs := [((decide (a2 < (0 : Int))) = false), ((decide (a2 < (0 : Int))) = false), ((decide (a2 < (0 : Int))) = false), (0 ≤ a0), ((decide (a2 < (0 : Int))) = false), ((decide (a2 < (0 : Int))) = false)]) rfl (by kernel_rfl) (allP2 h60 (allP2 h60 (allP2 h60 (allP2 h62 (allP2 h60 (allP1 h60)))))) ?_
          refine WO_fin [1, 2, 64] [] (fr' := [(1, aD (.slice (.pair tI (.pair tI tI))) a1), (2, aI a2), (64, aB (decide (a2 ≥ (bShl .i64 (1 : Int) a0))))]) (L' := []) (by kernel_rfl) (by kernel_rfl) ?_
          refine seqQ_norm ?_
          refine W_cond (o := .tmp 64) (b := decide (a2 ≥ (bShl .i64 (1 : Int) a0))) (by kernel_rfl) (by kernel_rfl) (fun h63 => ?_) (fun h63 => ?_)
          · replace h := ofT h63 h
            refine W_seq (by kernel_rfl) ?_
            refine W_run 3 [] [6, 7, 8] [] (fr' := [(6, aB false), (7, aI (0 : Int)), (8, aI (4 : Int))]) (L' := []) (obs := []) (by kernel_rfl) (by kernel_rfl) (by kernel_rfl) allP0 ?_
            refine seqQ_norm ?_
            obtain rfl := Option.some.inj h
            refine W_ret [6, 7, 8] [] (fr' := [(6, aB false), (7, aI (0 : Int)), (8, aI (4 : Int))]) (L' := []) (by kernel_rfl) (by kernel_rfl) ?_
            refine seqQ_ret ?_
            exact retQ_mk (by kernel_rfl) (by kernel_rfl) (by kernel_rfl)
          · replace h := ofF h63 h
            refine W_skip [1, 2] [] (fr' := [(1, aD (.slice (.pair tI (.pair tI tI))) a1), (2, aI a2)]) (L' := []) (by kernel_rfl) (by kernel_rfl) ?_
            refine seqQ_norm ?_
            refine W_seq (by kernel_rfl) ?_
            refine W_run 5 [] [1, 2, 11, 12] [] (fr' := [(1, aD (.slice (.pair tI (.pair tI tI))) a1), (2, aI a2), (11, aI (w64 ((List.length a1 : Int) - (1 : Int)))), (12, aI (0 : Int))]) (L' := []) (obs := []) (by kernel_rfl) (by kernel_rfl) (by kernel_rfl) allP0 ?_
            refine seqQ_norm ?_
            refine W_seq (by kernel_rfl) ?_
            refine W_block (id := 2) (by kernel_rfl) ?_
            obtain ⟨v111, h112, h⟩ := bind_of h
            refine W_weaken [1, 2, 11, 12] [] (fr' := ((ask_Walk_s18 a1 a2) (w64 ((List.length a1 : Int) - (1 : Int)), (0 : Int))).1) (L' := ((ask_Walk_s18 a1 a2) (w64 ((List.length a1 : Int) - (1 : Int)), (0 : Int))).2) (by kernel_rfl) ?_
            refine W_cutK (W_loop (S := (ask_Walk_s18 a1 a2)) (J := (exQ (.exit 2) ask_Walk_s19)) (by kernel_rfl) ?_ fuel _ v111 h112) ?_
            · rintro x80 s h
              refine W_seq (by kernel_rfl) ?_
              refine W_seq (by kernel_rfl) ?_
              refine W_run 2 [] [1, 2, 11, 12, 69] [] (fr' := [(1, aD (.slice (.pair tI (.pair tI tI))) a1), (2, aI a2), (11, aI x80.1), (12, aI x80.2), (69, aB (decide (x80.1 ≥ (0 : Int))))]) (L' := []) (obs := []) (by kernel_rfl) (by kernel_rfl) (by kernel_rfl) allP0 ?_
              refine seqQ_norm ?_
              refine W_cond (o := .tmp 69) (b := decide (x80.1 ≥ (0 : Int))) (by kernel_rfl) (by kernel_rfl) (fun h96 => ?_) (fun h96 => ?_)
              · replace h := ofT h96 h
                refine W_skip [1, 2, 11, 12] [] (fr' := [(1, aD (.slice (.pair tI (.pair tI tI))) a1), (2, aI a2), (11, aI x80.1), (12, aI x80.2)]) (L' := []) (by kernel_rfl) (by kernel_rfl) ?_
                refine seqQ_norm ?_
                refine W_seq (by kernel_rfl) ?_
                obtain ⟨v109, h110, h⟩ := bind_of h
                refine W_cutK (Q' := (exQ .normal (ask_Walk_s16 a1 a2 x80)) v109) ?_ ?_
                · replace h := h110
                  refine W_block (id := 3) (by kernel_rfl) ?_
                  refine W_seq (by kernel_rfl) ?_
                  obtain ⟨v105, h106, h⟩ := bind_of h
                  refine W_run 6 [(5, .val (.dat (.pair tI (.pair tI tI)) v105)), (9, .typed)] [1, 2, 12, 13] [13] (fr' := [(1, aD (.slice (.pair tI (.pair tI tI))) a1), (2, aI a2), (12, aI x80.2), (13, .one (.ptr 13 0))]) (L' := [(13, .one (.pair tI (.pair tI tI)) v105)]) (obs := [Idx a1 x80.1 v105, True]) (by kernel_rfl) (by kernel_rfl) (by kernel_rfl) (allP2 (Idx.of h106) (allP1 trivial)) ?_
                  refine seqQ_norm ?_
                  refine W_seq (by kernel_rfl) ?_
                  refine W_run 3 [] [1, 2, 11, 12, 13] [13] (fr' := [(1, aD (.slice (.pair tI (.pair tI tI))) a1), (2, aI a2), (11, aI v105.2.1), (12, aI x80.2), (13, .one (.ptr 13 0))]) (L' := [(13, .one (.pair tI (.pair tI tI)) v105)]) (obs := []) (by kernel_rfl) (by kernel_rfl) (by kernel_rfl) allP0 ?_
                  refine seqQ_norm ?_
                  refine W_seq (by kernel_rfl) ?_
                  obtain ⟨_, h107, h⟩ := bind_of h
                  replace h107 := ck_some h107
                  refine W_run 6 [] [1, 2, 11, 12, 13, 83] [13] (fr' := [(1, aD (.slice (.pair tI (.pair tI tI))) a1), (2, aI a2), (11, aI v105.2.1), (12, aI x80.2), (13, .one (.ptr 13 0)), (83, aB ((bAnd .i64 (bShr .i64 a2 v105.1) (1 : Int)) == (1 : Int)))]) (L' := [(13, .one (.pair tI (.pair tI tI)) v105)]) (obs := [(0 ≤ v105.1)]) (by kernel_rfl) (by kernel_rfl) (by kernel_rfl) (allP1 h107) ?_
                  refine seqQ_norm ?_
                  refine W_cond (o := .tmp 83) (b := (bAnd .i64 (bShr .i64 a2 v105.1) (1 : Int)) == (1 : Int)) (by kernel_rfl) (by kernel_rfl) (fun h108 => ?_) (fun h108 => ?_)
                  · replace h := ofT h108 h
                    obtain rfl := Option.some.inj h
                    refine W_run 3 [] [1, 2, 11, 12] [] (fr' := [(1, aD (.slice (.pair tI (.pair tI tI))) a1), (2, aI a2), (11, aI v105.2.2), (12, aI x80.2)]) (L' := []) (obs := []) (by kernel_rfl) (by kernel_rfl) (by kernel_rfl) allP0 ?_
                    refine blockQ_norm ?_
                    exact exQ_mk (by kernel_rfl) (by kernel_rfl)
                  · replace h := ofF h108 h
                    obtain rfl := Option.some.inj h
                    refine W_skip [1, 2, 11, 12] [] (fr' := [(1, aD (.slice (.pair tI (.pair tI tI))) a1), (2, aI a2), (11, aI v105.2.1), (12, aI x80.2)]) (L' := []) (by kernel_rfl) (by kernel_rfl) ?_
                    refine blockQ_norm ?_
                    exact exQ_mk (by kernel_rfl) (by kernel_rfl)
                · intro e fr L hJ
                  obtain ⟨rfl, rfl, rfl⟩ := hJ
                  refine LT_keep [1, 2, 11, 12] [] (fr' := [(1, aD (.slice (.pair tI (.pair tI tI))) a1), (2, aI a2), (11, aI v109), (12, aI x80.2)]) (L' := []) (by kernel_rfl) ?_
                  refine seqQ_norm ?_
                  obtain rfl := Option.some.inj h
                  refine W_run 3 [] [1, 2, 11, 12] [] (fr' := [(1, aD (.slice (.pair tI (.pair tI tI))) a1), (2, aI a2), (11, aI v109), (12, aI (w64 (x80.2 + (1 : Int))))]) (L' := []) (obs := []) (by kernel_rfl) (by kernel_rfl) (by kernel_rfl) allP0 ?_
                  exact round_next' (by kernel_rfl) (by kernel_rfl)
              · replace h := ofF h96 h
                obtain rfl := Option.some.inj h
                refine W_exit (id := 2) [11, 12] [] (fr' := [(11, aI x80.1), (12, aI x80.2)]) (L' := []) (by kernel_rfl) (by kernel_rfl) ?_
                refine seqQ_exit ?_
                refine round_exit ?_
                exact exQ_mk (by kernel_rfl) (by kernel_rfl)
            · intro e fr L hJ
              obtain ⟨rfl, rfl, rfl⟩ := hJ
              refine LT_keep [11, 12] [] (fr' := [(11, aI v111.1), (12, aI v111.2)]) (L' := []) (by kernel_rfl) ?_
              refine blockQ_hit ?_
              refine seqQ_norm ?_
              refine W_seq (by kernel_rfl) ?_
              refine W_run 6 [] [6, 7, 8] [] (fr' := [(6, aB (v111.1 == (-2 : Int))), (7, aI v111.2), (8, aI (0 : Int))]) (L' := []) (obs := []) (by kernel_rfl) (by kernel_rfl) (by kernel_rfl) allP0 ?_
              refine seqQ_norm ?_
              obtain rfl := Option.some.inj h
              refine W_ret [6, 7, 8] [] (fr' := [(6, aB (v111.1 == (-2 : Int))), (7, aI v111.2), (8, aI (0 : Int))]) (L' := []) (by kernel_rfl) (by kernel_rfl) ?_
              exact retQ_mk (by kernel_rfl) (by kernel_rfl) (by kernel_rfl)

def ref_Within (a0 : Int) (a1 : Int) (a2 : Int) : Option Bool :=
some ((decide (a0 ≤ a1)) && (decide (a1 ≤ a2)))
theorem ref_Within_ok {a0 : Int} {a1 : Int} {a2 : Int} {r : Bool} (h : ref_Within a0 a1 a2 = some r) : FnC Try.prog 34 [aI a0, aI a1, aI a2] [] (aB r) [] := by
  refine fnC_of_W (B := bodyOf Try.f34) (n := 15) Try.func34 (by kernel_rfl) (by kernel_rfl) (by kernel_rfl) (by kernel_rfl) (by kernel_rfl) ?_
  intro K
  refine W_seq (by kernel_rfl) ?_
  refine W_run 1 [] [0, 1, 2] [] (fr' := [(0, aI a0), (1, aI a1), (2, aI a2)]) (L' := []) (obs := []) (by kernel_rfl) (by kernel_rfl) (by kernel_rfl) allP0 ?_
  refine seqQ_norm ?_
  refine W_seq (by kernel_rfl) ?_
  refine W_run 9 [] [6] [] (fr' := [(6, aB ((decide (a0 ≤ a1)) && (decide (a1 ≤ a2))))]) (L' := []) (obs := []) (by kernel_rfl) (by kernel_rfl) (by kernel_rfl) allP0 ?_
  refine seqQ_norm ?_
  obtain rfl := Option.some.inj h
  refine W_ret [6] [] (fr' := [(6, aB ((decide (a0 ≤ a1)) && (decide (a1 ≤ a2))))]) (L' := []) (by kernel_rfl) (by kernel_rfl) ?_
  exact retQ_mk (by kernel_rfl) (by kernel_rfl) (by kernel_rfl)

def ref_Inside_b1 (a0 : Int) (i11 : Int) (v14 : Int) (x12 : Unit) : Option (Flow Unit (Esc Bool Unit)) :=
bif (decide (v14 < (0 : Int))) || (decide (v14 ≥ a0)) then
(some (.done (.ret false)))
else
(some (.next ()))
@[reducible] def ref_Inside_s2 (a0 : Int) (a1 : (List Int)) (v : Int × Unit) : Fr × LL := ([(0, aI a0), (7, aD (.slice tI) a1), (8, aI (List.length a1 : Int)), (9, aI v.1)], [])
@[reducible] def ref_Inside_s3 (v : Bool) : Fr × LL := ([(4, aB v)], [])
@[reducible] def ref_Inside_s4 (v : Unit) : Fr × LL := ([], [])
def ref_Inside (a0 : Int) (a1 : (List Int)) : Option Bool :=
(forL (ref_Inside_b1 a0) (fun x12 => (.brk ())) a1 0 ()).bind fun v19 =>
match v19 with
| .ret v24 =>
(some v24)
| .brk v25 =>
(some true)
theorem ref_Inside_ok {a0 : Int} {a1 : (List Int)} {r : Bool} (h : ref_Inside a0 a1 = some r) : FnC Try.prog 35 [aI a0, aD (.slice tI) a1] [] (aB r) [] := by
  refine fnC_of_W (B := bodyOf Try.f35) (n := 21) Try.func35 (by kernel_rfl) (by kernel_rfl) (by kernel_rfl) (by kernel_rfl) (by kernel_rfl) ?_
  intro K
  refine W_seq (by kernel_rfl) ?_
  refine W_run 1 [] [0, 1] [] (fr' := [(0, aI a0), (1, aD (.slice tI) a1)]) (L' := []) (obs := []) (by kernel_rfl) (by kernel_rfl) (by kernel_rfl) allP0 ?_
  refine seqQ_norm ?_
  refine W_seq (by kernel_rfl) ?_
  refine W_seq (by kernel_rfl) ?_
  refine W_run 3 [] [0, 7, 8, 9] [] (fr' := [(0, aI a0), (7, aD (.slice tI) a1), (8, aI (List.length a1 : Int)), (9, aI (0 : Int))]) (L' := []) (obs := []) (by kernel_rfl) (by kernel_rfl) (by kernel_rfl) allP0 ?_
  refine seqQ_norm ?_
  refine W_block (id := 0) (by kernel_rfl) ?_
  obtain ⟨v19, h20, h⟩ := bind_of h
  refine W_len (t := 7) (u := tI) (xs := a1) (by kernel_rfl) (fun h23 => ?_)
  obtain ⟨h21, h22⟩ := forL_iter h23 h20
  refine W_weaken [0, 7, 8, 9] [] (fr' := ((ref_Inside_s2 a0 a1) ((0 : Int), ())).1) (L' := ((ref_Inside_s2 a0 a1) ((0 : Int), ())).2) (by kernel_rfl) ?_
  refine W_cutK (W_loop (S := (ref_Inside_s2 a0 a1)) (J := (escQ (exQ .ret ref_Inside_s3) (exQ (.exit 0) ref_Inside_s4))) (by kernel_rfl) ?_ h21 _ v19 h22) ?_
  · rintro ⟨i11, x12⟩ s h
    refine W_seq (by kernel_rfl) ?_
    refine W_run 1 [] [0, 7, 8, 9, 10] [] (fr' := [(0, aI a0), (7, aD (.slice tI) a1), (8, aI (List.length a1 : Int)), (9, aI i11), (10, aB (decide (i11 < (List.length a1 : Int))))]) (L' := []) (obs := []) (by kernel_rfl) (by kernel_rfl) (by kernel_rfl) allP0 ?_
    refine seqQ_norm ?_
    refine W_seq (by kernel_rfl) ?_
    refine W_cond (o := .tmp 10) (b := decide (i11 < (List.length a1 : Int))) (by kernel_rfl) (by kernel_rfl) (fun h16 => ?_) (fun h16 => ?_)
    · replace h := stepL_true h16 h
      obtain ⟨v14, _, h15, h, rfl⟩ := h
      refine W_skip [0, 7, 8, 9] [] (fr' := [(0, aI a0), (7, aD (.slice tI) a1), (8, aI (List.length a1 : Int)), (9, aI i11)]) (L' := []) (by kernel_rfl) (by kernel_rfl) ?_
      refine seqQ_norm ?_
      refine W_seq (by kernel_rfl) ?_
      refine W_block (id := 1) (by kernel_rfl) ?_
      refine W_seq (by kernel_rfl) ?_
      refine W_run 3 [(1, .val (.dat tI v14))] [0, 6, 7, 8, 9] [] (fr' := [(0, aI a0), (6, aI v14), (7, aD (.slice tI) a1), (8, aI (List.length a1 : Int)), (9, aI i11)]) (L' := []) (obs := [Idx a1 i11 v14]) (by kernel_rfl) (by kernel_rfl) (by kernel_rfl) (allP1 (Idx.of h15)) ?_
      refine seqQ_norm ?_
      refine W_seq (by kernel_rfl) ?_
      refine W_run 7 [] [0, 7, 8, 9, 19] [] (fr' := [(0, aI a0), (7, aD (.slice tI) a1), (8, aI (List.length a1 : Int)), (9, aI i11), (19, aB ((decide (v14 < (0 : Int))) || (decide (v14 ≥ a0))))]) (L' := []) (obs := []) (by kernel_rfl) (by kernel_rfl) (by kernel_rfl) allP0 ?_
      refine seqQ_norm ?_
      refine W_cond (o := .tmp 19) (b := (decide (v14 < (0 : Int))) || (decide (v14 ≥ a0))) (by kernel_rfl) (by kernel_rfl) (fun h17 => ?_) (fun h17 => ?_)
      · replace h := ofT h17 h
        refine W_seq (by kernel_rfl) ?_
        refine W_run 1 [] [4] [] (fr' := [(4, aB false)]) (L' := []) (obs := []) (by kernel_rfl) (by kernel_rfl) (by kernel_rfl) allP0 ?_
        refine seqQ_norm ?_
        obtain rfl := Option.some.inj h
        refine W_ret [4] [] (fr' := [(4, aB false)]) (L' := []) (by kernel_rfl) (by kernel_rfl) ?_
        refine blockQ_ret ?_
        refine seqQ_ret ?_
        refine round_ret ?_
        refine escQ_ret ?_
        exact exQ_mk (by kernel_rfl) (by kernel_rfl)
      · replace h := ofF h17 h
        refine W_skip [0, 7, 8, 9] [] (fr' := [(0, aI a0), (7, aD (.slice tI) a1), (8, aI (List.length a1 : Int)), (9, aI i11)]) (L' := []) (by kernel_rfl) (by kernel_rfl) ?_
        refine blockQ_norm ?_
        refine seqQ_norm ?_
        obtain rfl := Option.some.inj h
        refine W_run 2 [] [0, 7, 8, 9] [] (fr' := [(0, aI a0), (7, aD (.slice tI) a1), (8, aI (List.length a1 : Int)), (9, aI (w64 (i11 + (1 : Int))))]) (L' := []) (obs := []) (by kernel_rfl) (by kernel_rfl) (by kernel_rfl) allP0 ?_
        exact round_next' (by kernel_rfl) (by kernel_rfl)
    · obtain rfl := stepL_false h16 h
      refine W_exit (id := 0) [] [] (fr' := []) (L' := []) (by kernel_rfl) (by kernel_rfl) ?_
      refine seqQ_exit ?_
      refine round_exit ?_
      refine escQ_brk ?_
      exact exQ_mk (by kernel_rfl) (by kernel_rfl)
  · intro e fr L hJ
    rcases v19 with v24 | v25
    · obtain ⟨rfl, rfl, rfl⟩ := hJ
      obtain rfl := Option.some.inj h
      refine LT_keep [4] [] (fr' := [(4, aB v24)]) (L' := []) (by kernel_rfl) ?_
      refine blockQ_ret ?_
      refine seqQ_ret ?_
      exact retQ_mk (by kernel_rfl) (by kernel_rfl) (by kernel_rfl)
    · obtain ⟨rfl, rfl, rfl⟩ := hJ
      refine LT_keep [] [] (fr' := []) (L' := []) (by kernel_rfl) ?_
      refine blockQ_hit ?_
      refine seqQ_norm ?_
      refine W_seq (by kernel_rfl) ?_
      refine W_run 1 [] [4] [] (fr' := [(4, aB true)]) (L' := []) (obs := []) (by kernel_rfl) (by kernel_rfl) (by kernel_rfl) allP0 ?_
      refine seqQ_norm ?_
      obtain rfl := Option.some.inj h
      refine W_ret [4] [] (fr' := [(4, aB true)]) (L' := []) (by kernel_rfl) (by kernel_rfl) ?_
      exact retQ_mk (by kernel_rfl) (by kernel_rfl) (by kernel_rfl)

def ref_AsksCheck_g4 (i56 : Int) (v59 : (Int × (Int × Int))) : Option Bool :=
(ref_Within (-2 : Int) v59.2.1 (w64 (i56 - (1 : Int)))).bind fun r75 =>
bif !r75 then
(some true)
else
((ref_Within (-2 : Int) v59.2.2 (w64 (i56 - (1 : Int)))).bind fun r78 =>
some (!r78))
@[reducible] def ref_AsksCheck_s5 (a0 : Int) (a1 : (List (Int × (Int × Int)))) (a2 : Int) (i56 : Int) (v : Bool) : Fr × LL := ([(0, aI a0), (2, aI a2), (17, aD (.slice (.pair tI (.pair tI tI))) a1), (18, aI (List.length a1 : Int)), (19, aI i56), (43, aB v)], [])
def ref_AsksCheck_b6 (a0 : Int) (i56 : Int) (v59 : (Int × (Int × Int))) (x57 : Unit) : Option (Flow Unit (Esc Int Unit)) :=
(ref_Inside a0 [v59.1]).bind fun r62 =>
bif !r62 then
(some (.done (.ret (4 : Int))))
else
((ref_AsksCheck_g4 i56 v59).bind fun v80 =>
bif v80 then
(some (.done (.ret (2 : Int))))
else
(some (.next ())))
@[reducible] def ref_AsksCheck_s7 (a0 : Int) (a1 : (List (Int × (Int × Int)))) (a2 : Int) (v : Int × Unit) : Fr × LL := ([(0, aI a0), (2, aI a2), (17, aD (.slice (.pair tI (.pair tI tI))) a1), (18, aI (List.length a1 : Int)), (19, aI v.1)], [])
@[reducible] def ref_AsksCheck_s8 (v : Int) : Fr × LL := ([(6, aI v)], [])
@[reducible] def ref_AsksCheck_s9 (a0 : Int) (a2 : Int) (v : Unit) : Fr × LL := ([(0, aI a0), (2, aI a2)], [])
def ref_AsksCheck (a0 : Int) (a1 : (List (Int × (Int × Int)))) (a2 : Int) : Option Int :=
(ref_Within (0 : Int) a0 (4 : Int)).bind fun r3 =>
bif (!r3) || (decide ((List.length a1 : Int) > (256 : Int))) then
(some (1 : Int))
else
((forL (ref_AsksCheck_b6 a0) (fun x57 => (.brk ())) a1 0 ()).bind fun v84 =>
match v84 with
| .ret v89 =>
(some v89)
| .brk v90 =>
((ck (0 ≤ IntKind.wrap .u64 (a0))).bind fun _ =>
(ref_Inside (bShl .i64 (1 : Int) (IntKind.wrap .u64 (a0))) [a2]).bind fun r92 =>
bif !r92 then
(some (4 : Int))
else
(some (0 : Int))))
theorem ref_AsksCheck_ok {a0 : Int} {a1 : (List (Int × (Int × Int)))} {a2 : Int} {r : Int} (h : ref_AsksCheck a0 a1 a2 = some r) : FnC Try.prog 15 [aI a0, aD (.slice (.pair tI (.pair tI tI))) a1, aI a2] [] (aI r) [] := by
  refine fnC_of_W (B := bodyOf Try.f15) (n := 52) Try.func15 (by kernel_rfl) (by kernel_rfl) (by kernel_rfl) (by kernel_rfl) (by kernel_rfl) ?_
  intro K
  refine W_seq (by kernel_rfl) ?_
  refine W_run 1 [] [0, 1, 2] [] (fr' := [(0, aI a0), (1, aD (.slice (.pair tI (.pair tI tI))) a1), (2, aI a2)]) (L' := []) (obs := []) (by kernel_rfl) (by kernel_rfl) (by kernel_rfl) allP0 ?_
  refine seqQ_norm ?_
  refine W_seq (by kernel_rfl) ?_
  refine W_seq (by kernel_rfl) ?_
  refine W_region (by kernel_rfl) ?_
  refine WO_run (j := 1) (k := 1) (orcs := []) (kF := [0, 1, 2, 9]) (kL := []) (fr' := [(0, aI a0), (1, aD (.slice (.pair tI (.pair tI tI))) a1), (2, aI a2), (9, aI a0)]) (L' := []) (obs := []) rfl (by kernel_rfl) allP0 ?_
  obtain ⟨r3, h4, h⟩ := bind_of h
  refine WO_call0 (us := [none, none, none]) (d := 10) (p := True) (j := 2) rfl ⟨by kernel_rfl, by kernel_rfl, by kernel_rfl⟩ trivial (ref_Within_ok h4) (by kernel_rfl) ?_
  refine WO_run (j := 8) (k := 6) (orcs := []) (kF := [0, 1, 2, 16]) (kL := []) (fr' := [(0, aI a0), (1, aD (.slice (.pair tI (.pair tI tI))) a1), (2, aI a2), (16, aB ((!r3) || (decide ((List.length a1 : Int) > (256 : Int)))))]) (L' := []) (obs := []) rfl (by kernel_rfl) allP0 ?_
  refine WO_fin [0, 1, 2, 16] [] (fr' := [(0, aI a0), (1, aD (.slice (.pair tI (.pair tI tI))) a1), (2, aI a2), (16, aB ((!r3) || (decide ((List.length a1 : Int) > (256 : Int)))))]) (L' := []) (by kernel_rfl) (by kernel_rfl) ?_
  refine seqQ_norm ?_
  refine W_cond (o := .tmp 16) (b := (!r3) || (decide ((List.length a1 : Int) > (256 : Int)))) (by kernel_rfl) (by kernel_rfl) (fun h5 => ?_) (fun h5 => ?_)
  · replace h := ofT h5 h
    refine W_seq (by kernel_rfl) ?_
    refine W_run 1 [] [6] [] (fr' := [(6, aI (1 : Int))]) (L' := []) (obs := []) (by kernel_rfl) (by kernel_rfl) (by kernel_rfl) allP0 ?_
    refine seqQ_norm ?_
    obtain rfl := Option.some.inj h
    refine W_ret [6] [] (fr' := [(6, aI (1 : Int))]) (L' := []) (by kernel_rfl) (by kernel_rfl) ?_
    refine seqQ_ret ?_
    exact retQ_mk (by kernel_rfl) (by kernel_rfl) (by kernel_rfl)
  · replace h := ofF h5 h
    refine W_skip [0, 1, 2] [] (fr' := [(0, aI a0), (1, aD (.slice (.pair tI (.pair tI tI))) a1), (2, aI a2)]) (L' := []) (by kernel_rfl) (by kernel_rfl) ?_
    refine seqQ_norm ?_
    refine W_seq (by kernel_rfl) ?_
    refine W_seq (by kernel_rfl) ?_
    refine W_run 3 [] [0, 2, 17, 18, 19] [] (fr' := [(0, aI a0), (2, aI a2), (17, aD (.slice (.pair tI (.pair tI tI))) a1), (18, aI (List.length a1 : Int)), (19, aI (0 : Int))]) (L' := []) (obs := []) (by kernel_rfl) (by kernel_rfl) (by kernel_rfl) allP0 ?_
    refine seqQ_norm ?_
    refine W_block (id := 0) (by kernel_rfl) ?_
    obtain ⟨v84, h85, h⟩ := bind_of h
    refine W_len (t := 17) (u := (.pair tI (.pair tI tI))) (xs := a1) (by kernel_rfl) (fun h88 => ?_)
    obtain ⟨h86, h87⟩ := forL_iter h88 h85
    refine W_weaken [0, 2, 17, 18, 19] [] (fr' := ((ref_AsksCheck_s7 a0 a1 a2) ((0 : Int), ())).1) (L' := ((ref_AsksCheck_s7 a0 a1 a2) ((0 : Int), ())).2) (by kernel_rfl) ?_
    refine W_cutK (W_loop (S := (ref_AsksCheck_s7 a0 a1 a2)) (J := (escQ (exQ .ret ref_AsksCheck_s8) (exQ (.exit 0) (ref_AsksCheck_s9 a0 a2)))) (by kernel_rfl) ?_ h86 _ v84 h87) ?_
    · rintro ⟨i56, x57⟩ s h
      refine W_seq (by kernel_rfl) ?_
      refine W_run 1 [] [0, 2, 17, 18, 19, 20] [] (fr' := [(0, aI a0), (2, aI a2), (17, aD (.slice (.pair tI (.pair tI tI))) a1), (18, aI (List.length a1 : Int)), (19, aI i56), (20, aB (decide (i56 < (List.length a1 : Int))))]) (L' := []) (obs := []) (by kernel_rfl) (by kernel_rfl) (by kernel_rfl) allP0 ?_
      refine seqQ_norm ?_
      refine W_seq (by kernel_rfl) ?_
      refine W_cond (o := .tmp 20) (b := decide (i56 < (List.length a1 : Int))) (by kernel_rfl) (by kernel_rfl) (fun h61 => ?_) (fun h61 => ?_)
      · replace h := stepL_true h61 h
        obtain ⟨v59, _, h60, h, rfl⟩ := h
        refine W_skip [0, 2, 17, 18, 19] [] (fr' := [(0, aI a0), (2, aI a2), (17, aD (.slice (.pair tI (.pair tI tI))) a1), (18, aI (List.length a1 : Int)), (19, aI i56)]) (L' := []) (by kernel_rfl) (by kernel_rfl) ?_
        refine seqQ_norm ?_
        refine W_seq (by kernel_rfl) ?_
        refine W_block (id := 1) (by kernel_rfl) ?_
        refine W_seq (by kernel_rfl) ?_
        refine W_run 6 [(3, .val (.dat (.pair tI (.pair tI tI)) v59)), (7, .typed)] [0, 2, 7, 8, 17, 18, 19] [8] (fr' := [(0, aI a0), (2, aI a2), (7, aI i56), (8, .one (.ptr 8 0)), (17, aD (.slice (.pair tI (.pair tI tI))) a1), (18, aI (List.length a1 : Int)), (19, aI i56)]) (L' := [(8, .one (.pair tI (.pair tI tI)) v59)]) (obs := [Idx a1 i56 v59, True]) (by kernel_rfl) (by kernel_rfl) (by kernel_rfl) (allP2 (Idx.of h60) (allP1 trivial)) ?_
        refine seqQ_norm ?_
        refine W_seq (by kernel_rfl) ?_
        refine W_seq (by kernel_rfl) ?_
        refine W_region (by kernel_rfl) ?_
        refine WO_run (j := 4) (k := 4) (orcs := []) (kF := [0, 2, 7, 8, 17, 18, 19, 24, 27]) (kL := [8, 27]) (fr' := [(0, aI a0), (2, aI a2), (7, aI i56), (8, .one (.ptr 8 0)), (17, aD (.slice (.pair tI (.pair tI tI))) a1), (18, aI (List.length a1 : Int)), (19, aI i56), (24, aI a0), (27, .one (.slc 27))]) (L' := [(8, .one (.pair tI (.pair tI tI)) v59), (27, .seq tI [v59.1])]) (obs := []) rfl (by kernel_rfl) allP0 ?_
        obtain ⟨r62, h63, h⟩ := bind_of h
        refine WO_frz 27 (by kernel_rfl) ?_
        refine WO_call0 (us := [none, none]) (d := 28) (p := True) (j := 5) rfl ⟨by kernel_rfl, by kernel_rfl, by kernel_rfl⟩ trivial (ref_Inside_ok h63) (by kernel_rfl) ?_
        refine WO_run (j := 6) (k := 1) (orcs := []) (kF := [0, 2, 7, 8, 17, 18, 19, 29]) (kL := [8]) (fr' := [(0, aI a0), (2, aI a2), (7, aI i56), (8, .one (.ptr 8 0)), (17, aD (.slice (.pair tI (.pair tI tI))) a1), (18, aI (List.length a1 : Int)), (19, aI i56), (29, aB (!r62))]) (L' := [(8, .one (.pair tI (.pair tI tI)) v59)]) (obs := []) rfl (by kernel_rfl) allP0 ?_
        refine WO_fin [0, 2, 7, 8, 17, 18, 19, 29] [8] (fr' := [(0, aI a0), (2, aI a2), (7, aI i56), (8, .one (.ptr 8 0)), (17, aD (.slice (.pair tI (.pair tI tI))) a1), (18, aI (List.length a1 : Int)), (19, aI i56), (29, aB (!r62))]) (L' := [(8, .one (.pair tI (.pair tI tI)) v59)]) (by kernel_rfl) (by kernel_rfl) ?_
        refine seqQ_norm ?_
        refine W_cond (o := .tmp 29) (b := !r62) (by kernel_rfl) (by kernel_rfl) (fun h64 => ?_) (fun h64 => ?_)
        · replace h := ofT h64 h
          refine W_seq (by kernel_rfl) ?_
          refine W_run 1 [] [6] [] (fr' := [(6, aI (4 : Int))]) (L' := []) (obs := []) (by kernel_rfl) (by kernel_rfl) (by kernel_rfl) allP0 ?_
          refine seqQ_norm ?_
          obtain rfl := Option.some.inj h
          refine W_ret [6] [] (fr' := [(6, aI (4 : Int))]) (L' := []) (by kernel_rfl) (by kernel_rfl) ?_
          refine seqQ_ret ?_
          refine blockQ_ret ?_
          refine seqQ_ret ?_
          refine round_ret ?_
          refine escQ_ret ?_
          exact exQ_mk (by kernel_rfl) (by kernel_rfl)
        · replace h := ofF h64 h
          refine W_skip [0, 2, 7, 8, 17, 18, 19] [8] (fr' := [(0, aI a0), (2, aI a2), (7, aI i56), (8, .one (.ptr 8 0)), (17, aD (.slice (.pair tI (.pair tI tI))) a1), (18, aI (List.length a1 : Int)), (19, aI i56)]) (L' := [(8, .one (.pair tI (.pair tI tI)) v59)]) (by kernel_rfl) (by kernel_rfl) ?_
          refine seqQ_norm ?_
          refine W_seq (by kernel_rfl) ?_
          obtain ⟨v80, h81, h⟩ := bind_of h
          refine W_cutK (Q' := (exQ .normal (ref_AsksCheck_s5 a0 a1 a2 i56)) v80) ?_ ?_
          · replace h := h81
            refine W_region (by kernel_rfl) ?_
            refine WO_run (j := 4) (k := 4) (orcs := []) (kF := [0, 2, 7, 8, 17, 18, 19, 31, 33]) (kL := [8]) (fr' := [(0, aI a0), (2, aI a2), (7, aI i56), (8, .one (.ptr 8 0)), (17, aD (.slice (.pair tI (.pair tI tI))) a1), (18, aI (List.length a1 : Int)), (19, aI i56), (31, aI v59.2.1), (33, aI (w64 (i56 - (1 : Int))))]) (L' := [(8, .one (.pair tI (.pair tI tI)) v59)]) (obs := []) rfl (by kernel_rfl) allP0 ?_
            obtain ⟨r75, h76, h⟩ := bind_of h
            refine WO_call0 (us := [none, none, none]) (d := 34) (p := True) (j := 5) rfl ⟨by kernel_rfl, by kernel_rfl, by kernel_rfl⟩ trivial (ref_Within_ok h76) (by kernel_rfl) ?_
            refine WO_run (j := 7) (k := 2) (orcs := []) (kF := [0, 2, 7, 8, 17, 18, 19, 36]) (kL := [8]) (fr' := [(0, aI a0), (2, aI a2), (7, aI i56), (8, .one (.ptr 8 0)), (17, aD (.slice (.pair tI (.pair tI tI))) a1), (18, aI (List.length a1 : Int)), (19, aI i56), (36, aB (!r75))]) (L' := [(8, .one (.pair tI (.pair tI tI)) v59)]) (obs := []) rfl (by kernel_rfl) allP0 ?_
            rcases Bool.eq_false_or_eq_true (!r75) with h77 | h77
            · replace h := ofT h77 h
              refine WO_run (j := 14) (k := 7) (orcs := [(14, .known true), (16, .known true), (18, .known true), (20, .known true), (22, .known true), (24, .known true), (27, .val (.dat .bool true))]) (kF := [0, 2, 17, 18, 19, 43]) (kL := [8]) (fr' := [(0, aI a0), (2, aI a2), (17, aD (.slice (.pair tI (.pair tI tI))) a1), (18, aI (List.length a1 : Int)), (19, aI i56), (43, aB true)]) (L' := [(8, .one (.pair tI (.pair tI tI)) v59)]) (obs := [((!r75) = true), ((!r75) = true), ((!r75) = true), ((!r75) = true), ((!r75) = true), ((!r75) = true), ((!r75) = true)]) rfl (by kernel_rfl) (allP2 h77 (allP2 h77 (allP2 h77 (allP2 h77 (allP2 h77 (allP2 h77 (allP1 h77))))))) ?_
              obtain rfl := Option.some.inj h
              refine WO_fin [0, 2, 17, 18, 19, 43] [] (fr' := [(0, aI a0), (2, aI a2), (17, aD (.slice (.pair tI (.pair tI tI))) a1), (18, aI (List.length a1 : Int)), (19, aI i56), (43, aB true)]) (L' := []) (by kernel_rfl) (by kernel_rfl) ?_
              exact exQ_mk (by kernel_rfl) (by kernel_rfl)
            · replace h := ofF h77 h
              refine WO_run (j := 11) (k := 4) (orcs := [(14, .known false), (16, .known false), (18, .known false), (20, .known false)]) (kF := [0, 2, 17, 18, 19, 36, 38, 40]) (kL := [8]) (fr' := [(0, aI a0), (2, aI a2), (17, aD (.slice (.pair tI (.pair tI tI))) a1), (18, aI (List.length a1 : Int)), (19, aI i56), (36, aB (!r75)), (38, aI v59.2.2), (40, aI (w64 (i56 - (1 : Int))))]) (L' := [(8, .one (.pair tI (.pair tI tI)) v59)]) (obs := [((!r75) = false), ((!r75) = false), ((!r75) = false), ((!r75) = false)]) rfl (by kernel_rfl) (allP2 h77 (allP2 h77 (allP2 h77 (allP1 h77)))) ?_
              obtain ⟨r78, h79, h⟩ := bind_of h
              refine WO_call0 (us := [none, none, none]) (d := 41) (p := ((!r75) = false)) (j := 12) rfl ⟨by kernel_rfl, by kernel_rfl, by kernel_rfl⟩ h77 (ref_Within_ok h79) (by kernel_rfl) ?_
              refine WO_run (j := 14) (k := 2) (orcs := [(24, .known false), (27, .val (.dat .bool false))]) (kF := [0, 2, 17, 18, 19, 43]) (kL := [8]) (fr' := [(0, aI a0), (2, aI a2), (17, aD (.slice (.pair tI (.pair tI tI))) a1), (18, aI (List.length a1 : Int)), (19, aI i56), (43, aB (!r78))]) (L' := [(8, .one (.pair tI (.pair tI tI)) v59)]) (obs := [((!r75) = false), ((!r75) = false)]) rfl (by kernel_rfl) (allP2 h77 (allP1 h77)) ?_
              obtain rfl := Option.some.inj h
              refine WO_fin [0, 2, 17, 18, 19, 43] [] (fr' := [(0, aI a0), (2, aI a2), (17, aD (.slice (.pair tI (.pair tI tI))) a1), (18, aI (List.length a1 : Int)), (19, aI i56), (43, aB (!r78))]) (L' := []) (by kernel_rfl) (by kernel_rfl) ?_
              exact exQ_mk (by kernel_rfl) (by kernel_rfl)
          · intro e fr L hJ
            obtain ⟨rfl, rfl, rfl⟩ := hJ
            refine LT_keep [0, 2, 17, 18, 19, 43] [] (fr' := [(0, aI a0), (2, aI a2), (17, aD (.slice (.pair tI (.pair tI tI))) a1), (18, aI (List.length a1 : Int)), (19, aI i56), (43, aB v80)]) (L' := []) (by kernel_rfl) ?_
            refine seqQ_norm ?_
            refine W_cond (o := .tmp 43) (b := v80) (by kernel_rfl) (by kernel_rfl) (fun h82 => ?_) (fun h82 => ?_)
            · replace h := ofT h82 h
              refine W_seq (by kernel_rfl) ?_
              refine W_run 1 [] [6] [] (fr' := [(6, aI (2 : Int))]) (L' := []) (obs := []) (by kernel_rfl) (by kernel_rfl) (by kernel_rfl) allP0 ?_
              refine seqQ_norm ?_
              obtain rfl := Option.some.inj h
              refine W_ret [6] [] (fr' := [(6, aI (2 : Int))]) (L' := []) (by kernel_rfl) (by kernel_rfl) ?_
              refine blockQ_ret ?_
              refine seqQ_ret ?_
              refine round_ret ?_
              refine escQ_ret ?_
              exact exQ_mk (by kernel_rfl) (by kernel_rfl)
            · replace h := ofF h82 h
              refine W_skip [0, 2, 17, 18, 19] [] (fr' := [(0, aI a0), (2, aI a2), (17, aD (.slice (.pair tI (.pair tI tI))) a1), (18, aI (List.length a1 : Int)), (19, aI i56)]) (L' := []) (by kernel_rfl) (by kernel_rfl) ?_
              refine blockQ_norm ?_
              refine seqQ_norm ?_
              obtain rfl := Option.some.inj h
              refine W_run 2 [] [0, 2, 17, 18, 19] [] (fr' := [(0, aI a0), (2, aI a2), (17, aD (.slice (.pair tI (.pair tI tI))) a1), (18, aI (List.length a1 : Int)), (19, aI (w64 (i56 + (1 : Int))))]) (L' := []) (obs := []) (by kernel_rfl) (by kernel_rfl) (by kernel_rfl) allP0 ?_
              exact round_next' (by kernel_rfl) (by kernel_rfl)
      · obtain rfl := stepL_false h61 h
        refine W_exit (id := 0) [0, 2] [] (fr' := [(0, aI a0), (2, aI a2)]) (L' := []) (by kernel_rfl) (by kernel_rfl) ?_
        refine seqQ_exit ?_
        refine round_exit ?_
        refine escQ_brk ?_
        exact exQ_mk (by kernel_rfl) (by kernel_rfl)
    · intro e fr L hJ
      rcases v84 with v89 | v90
      · obtain ⟨rfl, rfl, rfl⟩ := hJ
        obtain rfl := Option.some.inj h
        refine LT_keep [6] [] (fr' := [(6, aI v89)]) (L' := []) (by kernel_rfl) ?_
        refine blockQ_ret ?_
        refine seqQ_ret ?_
        exact retQ_mk (by kernel_rfl) (by kernel_rfl) (by kernel_rfl)
      · obtain ⟨rfl, rfl, rfl⟩ := hJ
        refine LT_keep [0, 2] [] (fr' := [(0, aI a0), (2, aI a2)]) (L' := []) (by kernel_rfl) ?_
        refine blockQ_hit ?_
        refine seqQ_norm ?_
        refine W_seq (by kernel_rfl) ?_
        refine W_seq (by kernel_rfl) ?_
        obtain ⟨_, h91, h⟩ := bind_of h
        replace h91 := ck_some h91
        refine W_region (by kernel_rfl) ?_
        refine WO_run (j := 5) (k := 5) (orcs := []) (kF := [47, 49]) (kL := [49]) (fr' := [(47, aI (bShl .i64 (1 : Int) (IntKind.wrap .u64 (a0)))), (49, .one (.slc 49))]) (L' := [(49, .seq tI [a2])]) (obs := [(0 ≤ IntKind.wrap .u64 (a0))]) rfl (by kernel_rfl) (allP1 h91) ?_
        obtain ⟨r92, h93, h⟩ := bind_of h
        refine WO_frz 49 (by kernel_rfl) ?_
        refine WO_call0 (us := [none, none]) (d := 50) (p := True) (j := 6) rfl ⟨by kernel_rfl, by kernel_rfl, by kernel_rfl⟩ trivial (ref_Inside_ok h93) (by kernel_rfl) ?_
        refine WO_run (j := 7) (k := 1) (orcs := []) (kF := [51]) (kL := []) (fr' := [(51, aB (!r92))]) (L' := []) (obs := []) rfl (by kernel_rfl) allP0 ?_
        refine WO_fin [51] [] (fr' := [(51, aB (!r92))]) (L' := []) (by kernel_rfl) (by kernel_rfl) ?_
        refine seqQ_norm ?_
        refine W_cond (o := .tmp 51) (b := !r92) (by kernel_rfl) (by kernel_rfl) (fun h94 => ?_) (fun h94 => ?_)
        · replace h := ofT h94 h
          refine W_seq (by kernel_rfl) ?_
          refine W_run 1 [] [6] [] (fr' := [(6, aI (4 : Int))]) (L' := []) (obs := []) (by kernel_rfl) (by kernel_rfl) (by kernel_rfl) allP0 ?_
          refine seqQ_norm ?_
          obtain rfl := Option.some.inj h
          refine W_ret [6] [] (fr' := [(6, aI (4 : Int))]) (L' := []) (by kernel_rfl) (by kernel_rfl) ?_
          refine seqQ_ret ?_
          exact retQ_mk (by kernel_rfl) (by kernel_rfl) (by kernel_rfl)
        · replace h := ofF h94 h
          refine W_skip [] [] (fr' := []) (L' := []) (by kernel_rfl) (by kernel_rfl) ?_
          refine seqQ_norm ?_
          refine W_seq (by kernel_rfl) ?_
          refine W_run 1 [] [6] [] (fr' := [(6, aI (0 : Int))]) (L' := []) (obs := []) (by kernel_rfl) (by kernel_rfl) (by kernel_rfl) allP0 ?_
          refine seqQ_norm ?_
          obtain rfl := Option.some.inj h
          refine W_ret [6] [] (fr' := [(6, aI (0 : Int))]) (L' := []) (by kernel_rfl) (by kernel_rfl) ?_
          exact retQ_mk (by kernel_rfl) (by kernel_rfl) (by kernel_rfl)

def ref_Bit (a0 : Int) (a1 : Int) : Option Bool :=
bif (decide (a1 ≥ (0 : Int))) && (decide (a1 < (63 : Int))) then
((ck (0 ≤ IntKind.wrap .u64 (a1))).bind fun _ =>
some ((bAnd .i64 a0 (bShl .i64 (1 : Int) (IntKind.wrap .u64 (a1)))) != (0 : Int)))
else
(some false)
theorem ref_Bit_ok {a0 : Int} {a1 : Int} {r : Bool} (h : ref_Bit a0 a1 = some r) : FnC Try.prog 36 [aI a0, aI a1] [] (aB r) [] := by
  refine fnC_of_W (B := bodyOf Try.f36) (n := 19) Try.func36 (by kernel_rfl) (by kernel_rfl) (by kernel_rfl) (by kernel_rfl) (by kernel_rfl) ?_
  intro K
  refine W_seq (by kernel_rfl) ?_
  refine W_run 1 [] [0, 1] [] (fr' := [(0, aI a0), (1, aI a1)]) (L' := []) (obs := []) (by kernel_rfl) (by kernel_rfl) (by kernel_rfl) allP0 ?_
  refine seqQ_norm ?_
  refine W_seq (by kernel_rfl) ?_
  refine W_region (by kernel_rfl) ?_
  refine WO_run (j := 7) (k := 7) (orcs := []) (kF := [0, 1, 11]) (kL := []) (fr' := [(0, aI a0), (1, aI a1), (11, aB ((decide (a1 ≥ (0 : Int))) && (decide (a1 < (63 : Int)))))]) (L' := []) (obs := []) rfl (by kernel_rfl) allP0 ?_
  rcases Bool.eq_false_or_eq_true ((decide (a1 ≥ (0 : Int))) && (decide (a1 < (63 : Int)))) with h1 | h1
  · replace h := ofT h1 h
    obtain ⟨_, h2, h⟩ := bind_of h
    replace h2 := ck_some h2
    refine WO_run (j := 15) (k := 8) (orcs := [(14, .known true), (16, .known true), (18, .known true), (20, .known true), (22, .known true), (24, .known true), (27, .val (.dat .bool true))]) (kF := [4]) (kL := []) (fr' := [(4, aB ((bAnd .i64 a0 (bShl .i64 (1 : Int) (IntKind.wrap .u64 (a1)))) != (0 : Int)))]) (L' := []) (obs := [(((decide (a1 ≥ (0 : Int))) && (decide (a1 < (63 : Int)))) = true), (((decide (a1 ≥ (0 : Int))) && (decide (a1 < (63 : Int)))) = true), (((decide (a1 ≥ (0 : Int))) && (decide (a1 < (63 : Int)))) = true), (((decide (a1 ≥ (0 : Int))) && (decide (a1 < (63 : Int)))) = true), (0 ≤ IntKind.wrap .u64 (a1)), (((decide (a1 ≥ (0 : Int))) && (decide (a1 < (63 : Int)))) = true), (((decide (a1 ≥ (0 : Int))) && (decide (a1 < (63 : Int)))) = true), (((decide (a1 ≥ (0 : Int))) && (decide (a1 < (63 : Int)))) = true)]) rfl (by kernel_rfl) (allP2 h1 (allP2 h1 (allP2 h1 (allP2 h1 (allP2 h2 (allP2 h1 (allP2 h1 (allP1 h1)))))))) ?_
    refine WO_fin [4] [] (fr' := [(4, aB ((bAnd .i64 a0 (bShl .i64 (1 : Int) (IntKind.wrap .u64 (a1)))) != (0 : Int)))]) (L' := []) (by kernel_rfl) (by kernel_rfl) ?_
    refine seqQ_norm ?_
    obtain rfl := Option.some.inj h
    refine W_ret [4] [] (fr' := [(4, aB ((bAnd .i64 a0 (bShl .i64 (1 : Int) (IntKind.wrap .u64 (a1)))) != (0 : Int)))]) (L' := []) (by kernel_rfl) (by kernel_rfl) ?_
    exact retQ_mk (by kernel_rfl) (by kernel_rfl) (by kernel_rfl)
  · replace h := ofF h1 h
    refine WO_run (j := 15) (k := 8) (orcs := [(14, .known false), (16, .known false), (18, .known false), (20, .known false), (22, .known false), (24, .known false), (27, .val (.dat .bool false))]) (kF := [4]) (kL := []) (fr' := [(4, aB false)]) (L' := []) (obs := [(((decide (a1 ≥ (0 : Int))) && (decide (a1 < (63 : Int)))) = false), (((decide (a1 ≥ (0 : Int))) && (decide (a1 < (63 : Int)))) = false), (((decide (a1 ≥ (0 : Int))) && (decide (a1 < (63 : Int)))) = false), (((decide (a1 ≥ (0 : Int))) && (decide (a1 < (63 : Int)))) = false), (((decide (a1 ≥ (0 : Int))) && (decide (a1 < (63 : Int)))) = false), (((decide (a1 ≥ (0 : Int))) && (decide (a1 < (63 : Int)))) = false), (((decide (a1 ≥ (0 : Int))) && (decide (a1 < (63 : Int)))) = false)]) rfl (by kernel_rfl) (allP2 h1 (allP2 h1 (allP2 h1 (allP2 h1 (allP2 h1 (allP2 h1 (allP1 h1))))))) ?_
    refine WO_fin [4] [] (fr' := [(4, aB false)]) (L' := []) (by kernel_rfl) (by kernel_rfl) ?_
    refine seqQ_norm ?_
    obtain rfl := Option.some.inj h
    refine W_ret [4] [] (fr' := [(4, aB false)]) (L' := []) (by kernel_rfl) (by kernel_rfl) ?_
    exact retQ_mk (by kernel_rfl) (by kernel_rfl) (by kernel_rfl)

@[reducible] def ref_Walked_s1 (a0 : (List (Int × (Int × Int)))) (a2 : Int) (v : Int) : Fr × LL := ([(0, aD (.slice (.pair tI (.pair tI tI))) a0), (2, aI a2), (8, aI v)], [])
def ref_Walked_step (rf_ref_Walked : (List (Int × (Int × Int))) → Int → Int → Option (Bool × Int)) (fuel : Nat) (a0 : (List (Int × (Int × Int)))) (a1 : Int) (a2 : Int) : Option (Bool × Int) :=
bif decide (a1 < (0 : Int)) then
(some (a1 == (-2 : Int), (0 : Int)))
else
((idx a0 a1).bind fun v2 =>
((ref_Bit a2 v2.1).bind fun r10 =>
bif r10 then
(some v2.2.2)
else
(some v2.2.1)).bind fun v13 =>
(rf_ref_Walked a0 v13 a2).bind fun r15 =>
some (r15.1, w64 (r15.2 + (1 : Int))))
def ref_Walked : Nat → (List (Int × (Int × Int))) → Int → Int → Option (Bool × Int)
  | 0 => fun _ _ _ => none
  | fuel + 1 => fun a0 a1 a2 => ref_Walked_step (ref_Walked fuel) fuel a0 a1 a2
theorem ref_Walked_step_ok {rf_ref_Walked : (List (Int × (Int × Int))) → Int → Int → Option (Bool × Int)} (ih_ref_Walked : ∀ {a0 : (List (Int × (Int × Int)))} {a1 : Int} {a2 : Int} {r : (Bool × Int)}, rf_ref_Walked a0 a1 a2 = some r → FnC Try.prog 16 [aD (.slice (.pair tI (.pair tI tI))) a0, aI a1, aI a2] [] (.tup [.dat .bool r.1, .dat tI r.2]) []) {fuel : Nat} {a0 : (List (Int × (Int × Int)))} {a1 : Int} {a2 : Int} {r : (Bool × Int)} (h : ref_Walked_step rf_ref_Walked fuel a0 a1 a2 = some r) : FnC Try.prog 16 [aD (.slice (.pair tI (.pair tI tI))) a0, aI a1, aI a2] [] (.tup [.dat .bool r.1, .dat tI r.2]) [] := by
  refine fnC_of_W (B := bodyOf Try.f16) (n := 42) Try.func16 (by kernel_rfl) (by kernel_rfl) (by kernel_rfl) (by kernel_rfl) (by kernel_rfl) ?_
  intro K
  refine W_seq (by kernel_rfl) ?_
  refine W_run 2 [] [0, 1, 2] [] (fr' := [(0, aD (.slice (.pair tI (.pair tI tI))) a0), (1, aI a1), (2, aI a2)]) (L' := []) (obs := []) (by kernel_rfl) (by kernel_rfl) (by kernel_rfl) allP0 ?_
  refine seqQ_norm ?_
  refine W_seq (by kernel_rfl) ?_
  refine W_seq (by kernel_rfl) ?_
  refine W_run 2 [] [0, 1, 2, 12] [] (fr' := [(0, aD (.slice (.pair tI (.pair tI tI))) a0), (1, aI a1), (2, aI a2), (12, aB (decide (a1 < (0 : Int))))]) (L' := []) (obs := []) (by kernel_rfl) (by kernel_rfl) (by kernel_rfl) allP0 ?_
  refine seqQ_norm ?_
  refine W_cond (o := .tmp 12) (b := decide (a1 < (0 : Int))) (by kernel_rfl) (by kernel_rfl) (fun h1 => ?_) (fun h1 => ?_)
  · replace h := ofT h1 h
    refine W_seq (by kernel_rfl) ?_
    refine W_run 4 [] [6, 7] [] (fr' := [(6, aB (a1 == (-2 : Int))), (7, aI (0 : Int))]) (L' := []) (obs := []) (by kernel_rfl) (by kernel_rfl) (by kernel_rfl) allP0 ?_
    refine seqQ_norm ?_
    obtain rfl := Option.some.inj h
    refine W_ret [6, 7] [] (fr' := [(6, aB (a1 == (-2 : Int))), (7, aI (0 : Int))]) (L' := []) (by kernel_rfl) (by kernel_rfl) ?_
    refine seqQ_ret ?_
    exact retQ_mk (by kernel_rfl) (by kernel_rfl) (by kernel_rfl)
  · replace h := ofF h1 h
    refine W_skip [0, 1, 2] [] (fr' := [(0, aD (.slice (.pair tI (.pair tI tI))) a0), (1, aI a1), (2, aI a2)]) (L' := []) (by kernel_rfl) (by kernel_rfl) ?_
    refine seqQ_norm ?_
    refine W_seq (by kernel_rfl) ?_
    obtain ⟨v2, h3, h⟩ := bind_of h
    refine W_run 6 [(5, .val (.dat (.pair tI (.pair tI tI)) v2))] [0, 1, 2, 8] [] (fr' := [(0, aD (.slice (.pair tI (.pair tI tI))) a0), (1, aI a1), (2, aI a2), (8, aI v2.2.1)]) (L' := []) (obs := [Idx a0 a1 v2]) (by kernel_rfl) (by kernel_rfl) (by kernel_rfl) (allP1 (Idx.of h3)) ?_
    refine seqQ_norm ?_
    refine W_seq (by kernel_rfl) ?_
    obtain ⟨v13, h14, h⟩ := bind_of h
    refine W_cutK (Q' := (exQ .normal (ref_Walked_s1 a0 a2)) v13) ?_ ?_
    · replace h := h14
      refine W_seq (by kernel_rfl) ?_
      refine W_region (by kernel_rfl) ?_
      refine WO_run (j := 6) (k := 6) (orcs := [(7, .val (.dat (.pair tI (.pair tI tI)) v2))]) (kF := [0, 1, 2, 8, 20, 25]) (kL := []) (fr' := [(0, aD (.slice (.pair tI (.pair tI tI))) a0), (1, aI a1), (2, aI a2), (8, aI v2.2.1), (20, aI a2), (25, aI v2.1)]) (L' := []) (obs := [Idx a0 a1 v2]) rfl (by kernel_rfl) (allP1 (Idx.of h3)) ?_
      obtain ⟨r10, h11, h⟩ := bind_of h
      refine WO_call0 (us := [none, none]) (d := 26) (p := True) (j := 7) rfl ⟨by kernel_rfl, by kernel_rfl, by kernel_rfl⟩ trivial (ref_Bit_ok h11) (by kernel_rfl) ?_
      refine WO_fin [0, 1, 2, 8, 26] [] (fr' := [(0, aD (.slice (.pair tI (.pair tI tI))) a0), (1, aI a1), (2, aI a2), (8, aI v2.2.1), (26, aB r10)]) (L' := []) (by kernel_rfl) (by kernel_rfl) ?_
      refine seqQ_norm ?_
      refine W_cond (o := .tmp 26) (b := r10) (by kernel_rfl) (by kernel_rfl) (fun h12 => ?_) (fun h12 => ?_)
      · replace h := ofT h12 h
        obtain rfl := Option.some.inj h
        refine W_run 6 [(5, .val (.dat (.pair tI (.pair tI tI)) v2))] [0, 2, 8] [] (fr' := [(0, aD (.slice (.pair tI (.pair tI tI))) a0), (2, aI a2), (8, aI v2.2.2)]) (L' := []) (obs := [Idx a0 a1 v2]) (by kernel_rfl) (by kernel_rfl) (by kernel_rfl) (allP1 (Idx.of h3)) ?_
        exact exQ_mk (by kernel_rfl) (by kernel_rfl)
      · replace h := ofF h12 h
        obtain rfl := Option.some.inj h
        refine W_skip [0, 2, 8] [] (fr' := [(0, aD (.slice (.pair tI (.pair tI tI))) a0), (2, aI a2), (8, aI v2.2.1)]) (L' := []) (by kernel_rfl) (by kernel_rfl) ?_
        exact exQ_mk (by kernel_rfl) (by kernel_rfl)
    · intro e fr L hJ
      obtain ⟨rfl, rfl, rfl⟩ := hJ
      refine LT_keep [0, 2, 8] [] (fr' := [(0, aD (.slice (.pair tI (.pair tI tI))) a0), (2, aI a2), (8, aI v13)]) (L' := []) (by kernel_rfl) ?_
      refine seqQ_norm ?_
      refine W_seq (by kernel_rfl) ?_
      refine W_region (by kernel_rfl) ?_
      refine WO_run (j := 3) (k := 3) (orcs := []) (kF := [33, 34, 35]) (kL := []) (fr' := [(33, aD (.slice (.pair tI (.pair tI tI))) a0), (34, aI v13), (35, aI a2)]) (L' := []) (obs := []) rfl (by kernel_rfl) allP0 ?_
      obtain ⟨r15, h16, h⟩ := bind_of h
      refine WO_call0 (us := [none, none, none]) (d := 36) (p := True) (j := 4) rfl ⟨by kernel_rfl, by kernel_rfl, by kernel_rfl⟩ trivial (ih_ref_Walked h16) (by kernel_rfl) ?_
      refine WO_run (j := 9) (k := 5) (orcs := []) (kF := [9, 10]) (kL := []) (fr' := [(9, aB r15.1), (10, aI r15.2)]) (L' := []) (obs := []) rfl (by kernel_rfl) allP0 ?_
      refine WO_fin [9, 10] [] (fr' := [(9, aB r15.1), (10, aI r15.2)]) (L' := []) (by kernel_rfl) (by kernel_rfl) ?_
      refine seqQ_norm ?_
      refine W_seq (by kernel_rfl) ?_
      refine W_run 5 [] [6, 7] [] (fr' := [(6, aB r15.1), (7, aI (w64 (r15.2 + (1 : Int))))]) (L' := []) (obs := []) (by kernel_rfl) (by kernel_rfl) (by kernel_rfl) allP0 ?_
      refine seqQ_norm ?_
      obtain rfl := Option.some.inj h
      refine W_ret [6, 7] [] (fr' := [(6, aB r15.1), (7, aI (w64 (r15.2 + (1 : Int))))]) (L' := []) (by kernel_rfl) (by kernel_rfl) ?_
      exact retQ_mk (by kernel_rfl) (by kernel_rfl) (by kernel_rfl)
theorem ref_Walked_ok : ∀ {fuel : Nat} {a0 : (List (Int × (Int × Int)))} {a1 : Int} {a2 : Int} {r : (Bool × Int)}, ref_Walked fuel a0 a1 a2 = some r → FnC Try.prog 16 [aD (.slice (.pair tI (.pair tI tI))) a0, aI a1, aI a2] [] (.tup [.dat .bool r.1, .dat tI r.2]) [] := by
  intro fuel
  induction fuel with
  | zero => intros a0 a1 a2 r h; cases h
  | succ fuel ih => intros a0 a1 a2 r h; exact ref_Walked_step_ok (fun h => ih h) (show ref_Walked_step (ref_Walked fuel) fuel a0 a1 a2 = some r from h)

def law_AskWalks (fuel : Nat) (a0 : Int) (a1 : (List (Int × (Int × Int)))) (a2 : Int) : Option Bool :=
(ask_Walk fuel a0 a1 a2).bind fun r1 =>
(ref_AsksCheck a0 a1 a2).bind fun r3 =>
bif r3 != (0 : Int) then
(some (((r1.2.2 == r3) && (!r1.1)) && (r1.2.1 == (0 : Int))))
else
((ref_Walked fuel a1 (w64 ((List.length a1 : Int) - (1 : Int))) a2).bind fun r6 =>
some (((r1.2.2 == (0 : Int)) && (r1.1 == r6.1)) && (r1.2.1 == r6.2)))
theorem law_AskWalks_ok {fuel : Nat} {a0 : Int} {a1 : (List (Int × (Int × Int)))} {a2 : Int} {r : Bool} (h : law_AskWalks fuel a0 a1 a2 = some r) : FnC Try.prog 3 [aI a0, aD (.slice (.pair tI (.pair tI tI))) a1, aI a2] [] (aB r) [] := by
  refine fnC_of_W (B := bodyOf Try.f3) (n := 59) Try.func3 (by kernel_rfl) (by kernel_rfl) (by kernel_rfl) (by kernel_rfl) (by kernel_rfl) ?_
  intro K
  refine W_seq (by kernel_rfl) ?_
  refine W_run 1 [] [0, 1, 2] [] (fr' := [(0, aI a0), (1, aD (.slice (.pair tI (.pair tI tI))) a1), (2, aI a2)]) (L' := []) (obs := []) (by kernel_rfl) (by kernel_rfl) (by kernel_rfl) allP0 ?_
  refine seqQ_norm ?_
  refine W_seq (by kernel_rfl) ?_
  refine W_region (by kernel_rfl) ?_
  refine WO_run (j := 3) (k := 3) (orcs := []) (kF := [0, 1, 2, 14, 15, 16]) (kL := []) (fr' := [(0, aI a0), (1, aD (.slice (.pair tI (.pair tI tI))) a1), (2, aI a2), (14, aI a0), (15, aD (.slice (.pair tI (.pair tI tI))) a1), (16, aI a2)]) (L' := []) (obs := []) rfl (by kernel_rfl) allP0 ?_
  obtain ⟨r1, h2, h⟩ := bind_of h
  refine WO_call0 (us := [none, none, none]) (d := 17) (p := True) (j := 4) rfl ⟨by kernel_rfl, by kernel_rfl, by kernel_rfl⟩ trivial (ask_Walk_ok h2) (by kernel_rfl) ?_
  refine WO_run (j := 11) (k := 7) (orcs := []) (kF := [0, 1, 2, 7, 8, 9]) (kL := []) (fr' := [(0, aI a0), (1, aD (.slice (.pair tI (.pair tI tI))) a1), (2, aI a2), (7, aB r1.1), (8, aI r1.2.1), (9, aI r1.2.2)]) (L' := []) (obs := []) rfl (by kernel_rfl) allP0 ?_
  refine WO_fin [0, 1, 2, 7, 8, 9] [] (fr' := [(0, aI a0), (1, aD (.slice (.pair tI (.pair tI tI))) a1), (2, aI a2), (7, aB r1.1), (8, aI r1.2.1), (9, aI r1.2.2)]) (L' := []) (by kernel_rfl) (by kernel_rfl) ?_
  refine seqQ_norm ?_
  refine W_seq (by kernel_rfl) ?_
  refine W_region (by kernel_rfl) ?_
  refine WO_run (j := 3) (k := 3) (orcs := []) (kF := [1, 2, 7, 8, 9, 21, 22, 23]) (kL := []) (fr' := [(1, aD (.slice (.pair tI (.pair tI tI))) a1), (2, aI a2), (7, aB r1.1), (8, aI r1.2.1), (9, aI r1.2.2), (21, aI a0), (22, aD (.slice (.pair tI (.pair tI tI))) a1), (23, aI a2)]) (L' := []) (obs := []) rfl (by kernel_rfl) allP0 ?_
  obtain ⟨r3, h4, h⟩ := bind_of h
  refine WO_call0 (us := [none, none, none]) (d := 24) (p := True) (j := 4) rfl ⟨by kernel_rfl, by kernel_rfl, by kernel_rfl⟩ trivial (ref_AsksCheck_ok h4) (by kernel_rfl) ?_
  refine WO_run (j := 5) (k := 1) (orcs := []) (kF := [1, 2, 7, 8, 9, 10]) (kL := []) (fr' := [(1, aD (.slice (.pair tI (.pair tI tI))) a1), (2, aI a2), (7, aB r1.1), (8, aI r1.2.1), (9, aI r1.2.2), (10, aI r3)]) (L' := []) (obs := []) rfl (by kernel_rfl) allP0 ?_
  refine WO_fin [1, 2, 7, 8, 9, 10] [] (fr' := [(1, aD (.slice (.pair tI (.pair tI tI))) a1), (2, aI a2), (7, aB r1.1), (8, aI r1.2.1), (9, aI r1.2.2), (10, aI r3)]) (L' := []) (by kernel_rfl) (by kernel_rfl) ?_
  refine seqQ_norm ?_
  refine W_seq (by kernel_rfl) ?_
  refine W_seq (by kernel_rfl) ?_
  refine W_run 2 [] [1, 2, 7, 8, 9, 10, 26] [] (fr' := [(1, aD (.slice (.pair tI (.pair tI tI))) a1), (2, aI a2), (7, aB r1.1), (8, aI r1.2.1), (9, aI r1.2.2), (10, aI r3), (26, aB (r3 != (0 : Int)))]) (L' := []) (obs := []) (by kernel_rfl) (by kernel_rfl) (by kernel_rfl) allP0 ?_
  refine seqQ_norm ?_
  refine W_cond (o := .tmp 26) (b := r3 != (0 : Int)) (by kernel_rfl) (by kernel_rfl) (fun h5 => ?_) (fun h5 => ?_)
  · replace h := ofT h5 h
    refine W_seq (by kernel_rfl) ?_
    refine W_run 12 [] [6] [] (fr' := [(6, aB (((r1.2.2 == r3) && (!r1.1)) && (r1.2.1 == (0 : Int))))]) (L' := []) (obs := []) (by kernel_rfl) (by kernel_rfl) (by kernel_rfl) allP0 ?_
    refine seqQ_norm ?_
    obtain rfl := Option.some.inj h
    refine W_ret [6] [] (fr' := [(6, aB (((r1.2.2 == r3) && (!r1.1)) && (r1.2.1 == (0 : Int))))]) (L' := []) (by kernel_rfl) (by kernel_rfl) ?_
    refine seqQ_ret ?_
    exact retQ_mk (by kernel_rfl) (by kernel_rfl) (by kernel_rfl)
  · replace h := ofF h5 h
    refine W_skip [1, 2, 7, 8, 9] [] (fr' := [(1, aD (.slice (.pair tI (.pair tI tI))) a1), (2, aI a2), (7, aB r1.1), (8, aI r1.2.1), (9, aI r1.2.2)]) (L' := []) (by kernel_rfl) (by kernel_rfl) ?_
    refine seqQ_norm ?_
    refine W_seq (by kernel_rfl) ?_
    refine W_region (by kernel_rfl) ?_
    refine WO_run (j := 5) (k := 5) (orcs := []) (kF := [7, 8, 9, 39, 42, 43]) (kL := []) (fr' := [(7, aB r1.1), (8, aI r1.2.1), (9, aI r1.2.2), (39, aD (.slice (.pair tI (.pair tI tI))) a1), (42, aI (w64 ((List.length a1 : Int) - (1 : Int)))), (43, aI a2)]) (L' := []) (obs := []) rfl (by kernel_rfl) allP0 ?_
    obtain ⟨r6, h7, h⟩ := bind_of h
    refine WO_call0 (us := [none, none, none]) (d := 44) (p := True) (j := 6) rfl ⟨by kernel_rfl, by kernel_rfl, by kernel_rfl⟩ trivial (ref_Walked_ok h7) (by kernel_rfl) ?_
    refine WO_run (j := 11) (k := 5) (orcs := []) (kF := [7, 8, 9, 11, 12]) (kL := []) (fr' := [(7, aB r1.1), (8, aI r1.2.1), (9, aI r1.2.2), (11, aB r6.1), (12, aI r6.2)]) (L' := []) (obs := []) rfl (by kernel_rfl) allP0 ?_
    refine WO_fin [7, 8, 9, 11, 12] [] (fr' := [(7, aB r1.1), (8, aI r1.2.1), (9, aI r1.2.2), (11, aB r6.1), (12, aI r6.2)]) (L' := []) (by kernel_rfl) (by kernel_rfl) ?_
    refine seqQ_norm ?_
    refine W_seq (by kernel_rfl) ?_
    refine W_run 13 [] [6] [] (fr' := [(6, aB (((r1.2.2 == (0 : Int)) && (r1.1 == r6.1)) && (r1.2.1 == r6.2)))]) (L' := []) (obs := []) (by kernel_rfl) (by kernel_rfl) (by kernel_rfl) allP0 ?_
    refine seqQ_norm ?_
    obtain rfl := Option.some.inj h
    refine W_ret [6] [] (fr' := [(6, aB (((r1.2.2 == (0 : Int)) && (r1.1 == r6.1)) && (r1.2.1 == r6.2)))]) (L' := []) (by kernel_rfl) (by kernel_rfl) ?_
    exact retQ_mk (by kernel_rfl) (by kernel_rfl) (by kernel_rfl)
end Go.Proofs.Ytnlibkamomlccaa.askWalks
