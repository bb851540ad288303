/- What the functions that TopTwo calls compute, as models, and that they compute it: written by a program of mine. -/
import Derived.Test.YtbjfglckfknheaaProg
import Derived.Test.YtbjfglckfknheaaSl5
set_option linter.all false
set_option maxRecDepth 100000
namespace Go.Proofs.Ytbjfglckfknheaa.topTwo
open Go Go.Sl
noncomputable def count_Check_1 (a0 : Int) (c0 : (List (Int × (Int × (Int × Int))))) : Option Bool :=
some ((decide (a0 ≥ (0 : Int))) && (decide (a0 ≤ (List.length c0 : Int))))
theorem count_Check_1_ok {a0 : Int} {c0 : (List (Int × (Int × (Int × Int))))} {r : Bool} (h : count_Check_1 a0 c0 = some r) : FnC Try.prog 53 [aI a0, .one (.ptr 1000 0)] [(1000, .cells [.dat (.slice (.pair tI (.pair tI (.pair tI tI)))) c0])] (aB r) [(1000, .cells [.dat (.slice (.pair tI (.pair tI (.pair tI tI)))) c0])] := by
  refine fnC_of_W (B := bodyOf Try.f53) (n := 12) Try.func53 (by kernel_rfl) (by kernel_rfl) (by kernel_rfl) (by kernel_rfl) (by kernel_rfl) ?_
  intro K
  refine W_seq (by kernel_rfl) ?_
  refine W_run 1 [] [0, 1] [1000] (fr' := [(0, aI a0), (1, .one (.ptr 1000 0))]) (L' := [(1000, .cells [.dat (.slice (.pair tI (.pair tI (.pair tI tI)))) c0])]) (obs := []) (by kernel_rfl) (by kernel_rfl) (by kernel_rfl) allP0 ?_
  refine seqQ_norm ?_
  refine W_seq (by kernel_rfl) ?_
  refine W_run 9 [] [3] [1000] (fr' := [(3, aB ((decide (a0 ≥ (0 : Int))) && (decide (a0 ≤ (List.length c0 : Int)))))]) (L' := [(1000, .cells [.dat (.slice (.pair tI (.pair tI (.pair tI tI)))) c0])]) (obs := []) (by kernel_rfl) (by kernel_rfl) (by kernel_rfl) allP0 ?_
  refine seqQ_norm ?_
  obtain rfl := Option.some.inj h
  refine W_ret [3] [1000] (fr' := [(3, aB ((decide (a0 ≥ (0 : Int))) && (decide (a0 ≤ (List.length c0 : Int)))))]) (L' := [(1000, .cells [.dat (.slice (.pair tI (.pair tI (.pair tI tI)))) c0])]) (by kernel_rfl) (by kernel_rfl) ?_
  exact retQ_mk (by kernel_rfl) (by kernel_rfl) (by kernel_rfl)

noncomputable def count_Check_g9 (a1 : (List (Int × (Int × (Int × Int))))) (v79 : (Int × (Int × (Int × Int)))) : Option Bool :=
(count_Check_1 v79.2.2.1 a1).bind fun r106 =>
bif !r106 then
(some true)
else
(bif v79.1 == (2 : Int) then
((count_Check_1 v79.2.2.2 a1).bind fun r110 =>
some (!r110))
else
(some false))
@[reducible] def count_Check_s10 (a0 : Int) (a1 : (List (Int × (Int × (Int × Int))))) (i76 : Int) (v : Bool) : Fr × LL := ([(0, aI a0), (5, .one (.fn 53 [(3, 0)])), (25, aD (.slice (.pair tI (.pair tI (.pair tI tI)))) a1), (26, aI (List.length a1 : Int)), (27, aI i76), (50, aB v)], [(3, .cells [.dat (.slice (.pair tI (.pair tI (.pair tI tI)))) a1])])
@[reducible] def count_Check_s11 (a0 : Int) (a1 : (List (Int × (Int × (Int × Int))))) (i76 : Int) (v79 : (Int × (Int × (Int × Int)))) (v : Bool) : Fr × LL := ([(0, aI a0), (5, .one (.fn 53 [(3, 0)])), (7, .one (.ptr 7 0)), (25, aD (.slice (.pair tI (.pair tI (.pair tI tI)))) a1), (26, aI (List.length a1 : Int)), (27, aI i76), (40, aB v)], [(3, .cells [.dat (.slice (.pair tI (.pair tI (.pair tI tI)))) a1]), (7, .one (.pair tI (.pair tI (.pair tI tI))) v79)])
@[reducible] def count_Check_s12 (a0 : Int) (a1 : (List (Int × (Int × (Int × Int))))) (i76 : Int) (v79 : (Int × (Int × (Int × Int)))) (v : Bool) : Fr × LL := ([(0, aI a0), (5, .one (.fn 53 [(3, 0)])), (7, .one (.ptr 7 0)), (25, aD (.slice (.pair tI (.pair tI (.pair tI tI)))) a1), (26, aI (List.length a1 : Int)), (27, aI i76), (31, aB v)], [(3, .cells [.dat (.slice (.pair tI (.pair tI (.pair tI tI)))) a1]), (7, .one (.pair tI (.pair tI (.pair tI tI))) v79)])
noncomputable def count_Check_b13 (a0 : Int) (a1 : (List (Int × (Int × (Int × Int))))) (i76 : Int) (v79 : (Int × (Int × (Int × Int)))) (x77 : Unit) : Option (Flow Unit (Esc Int Unit)) :=
(bif v79.1 != (1 : Int) then
(some (v79.1 != (2 : Int)))
else
(some false)).bind fun v85 =>
bif v85 then
(some (.done (.ret (6 : Int))))
else
((bif decide (v79.2.1 < (0 : Int)) then
(some true)
else
(some (decide (v79.2.1 ≥ a0)))).bind fun v91 =>
bif v91 then
(some (.done (.ret (2 : Int))))
else
((count_Check_g9 a1 v79).bind fun v112 =>
bif v112 then
(some (.done (.ret (3 : Int))))
else
(some (.next ()))))
@[reducible] def count_Check_s14 (a0 : Int) (a1 : (List (Int × (Int × (Int × Int))))) (v : Int × Unit) : Fr × LL := ([(0, aI a0), (5, .one (.fn 53 [(3, 0)])), (25, aD (.slice (.pair tI (.pair tI (.pair tI tI)))) a1), (26, aI (List.length a1 : Int)), (27, aI v.1)], [(3, .cells [.dat (.slice (.pair tI (.pair tI (.pair tI tI)))) a1])])
@[reducible] def count_Check_s15 (v : Int) : Fr × LL := ([(4, aI v)], [])
@[reducible] def count_Check_s16 (v : Unit) : Fr × LL := ([], [])
noncomputable def count_Check (a0 : Int) (a1 : (List (Int × (Int × (Int × Int))))) : Option Int :=
bif (((decide (a0 < (1 : Int))) || (decide (a0 > (4 : Int)))) || (decide ((List.length a1 : Int) < (1 : Int)))) || (decide ((List.length a1 : Int) > (12 : Int))) then
(some (1 : Int))
else
((forL (count_Check_b13 a0 a1) (fun x77 => (.brk ())) a1 0 ()).bind fun v116 =>
match v116 with
| .ret v121 =>
(some v121)
| .brk v122 =>
(some (0 : Int)))
theorem count_Check_ok {a0 : Int} {a1 : (List (Int × (Int × (Int × Int))))} {r : Int} (h : count_Check a0 a1 = some r) : FnC Try.prog 38 [aI a0, aD (.slice (.pair tI (.pair tI (.pair tI tI)))) a1] [] (aI r) [] := by
  refine fnC_of_W (B := bodyOf Try.f38) (n := 69) Try.func38 (by kernel_rfl) (by kernel_rfl) (by kernel_rfl) (by kernel_rfl) (by kernel_rfl) ?_
  intro K
  refine W_seq (by kernel_rfl) ?_
  refine W_run 2 [] [0, 3] [3] (fr' := [(0, aI a0), (3, .one (.ptr 3 0))]) (L' := [(3, .cells [.dat (.slice (.pair tI (.pair tI (.pair tI tI)))) a1])]) (obs := []) (by kernel_rfl) (by kernel_rfl) (by kernel_rfl) allP0 ?_
  refine seqQ_norm ?_
  refine W_seq (by kernel_rfl) ?_
  refine W_seq (by kernel_rfl) ?_
  refine W_run 16 [] [0, 3, 23] [3] (fr' := [(0, aI a0), (3, .one (.ptr 3 0)), (23, aB ((((decide (a0 < (1 : Int))) || (decide (a0 > (4 : Int)))) || (decide ((List.length a1 : Int) < (1 : Int)))) || (decide ((List.length a1 : Int) > (12 : Int)))))]) (L' := [(3, .cells [.dat (.slice (.pair tI (.pair tI (.pair tI tI)))) a1])]) (obs := []) (by kernel_rfl) (by kernel_rfl) (by kernel_rfl) allP0 ?_
  refine seqQ_norm ?_
  refine W_cond (o := .tmp 23) (b := (((decide (a0 < (1 : Int))) || (decide (a0 > (4 : Int)))) || (decide ((List.length a1 : Int) < (1 : Int)))) || (decide ((List.length a1 : Int) > (12 : Int)))) (by kernel_rfl) (by kernel_rfl) (fun h1 => ?_) (fun h1 => ?_)
  · replace h := ofT h1 h
    refine W_seq (by kernel_rfl) ?_
    refine W_run 1 [] [4] [] (fr' := [(4, aI (1 : Int))]) (L' := []) (obs := []) (by kernel_rfl) (by kernel_rfl) (by kernel_rfl) allP0 ?_
    refine seqQ_norm ?_
    obtain rfl := Option.some.inj h
    refine W_ret [4] [] (fr' := [(4, aI (1 : Int))]) (L' := []) (by kernel_rfl) (by kernel_rfl) ?_
    refine seqQ_ret ?_
    exact retQ_mk (by kernel_rfl) (by kernel_rfl) (by kernel_rfl)
  · replace h := ofF h1 h
    refine W_skip [0, 3] [3] (fr' := [(0, aI a0), (3, .one (.ptr 3 0))]) (L' := [(3, .cells [.dat (.slice (.pair tI (.pair tI (.pair tI tI)))) a1])]) (by kernel_rfl) (by kernel_rfl) ?_
    refine seqQ_norm ?_
    refine W_seq (by kernel_rfl) ?_
    refine W_run 2 [] [0, 3, 5] [3] (fr' := [(0, aI a0), (3, .one (.ptr 3 0)), (5, .one (.fn 53 [(3, 0)]))]) (L' := [(3, .cells [.dat (.slice (.pair tI (.pair tI (.pair tI tI)))) a1])]) (obs := []) (by kernel_rfl) (by kernel_rfl) (by kernel_rfl) allP0 ?_
    refine seqQ_norm ?_
    refine W_seq (by kernel_rfl) ?_
    refine W_seq (by kernel_rfl) ?_
    refine W_run 3 [] [0, 5, 25, 26, 27] [3] (fr' := [(0, aI a0), (5, .one (.fn 53 [(3, 0)])), (25, aD (.slice (.pair tI (.pair tI (.pair tI tI)))) a1), (26, aI (List.length a1 : Int)), (27, aI (0 : Int))]) (L' := [(3, .cells [.dat (.slice (.pair tI (.pair tI (.pair tI tI)))) a1])]) (obs := []) (by kernel_rfl) (by kernel_rfl) (by kernel_rfl) allP0 ?_
    refine seqQ_norm ?_
    refine W_block (id := 0) (by kernel_rfl) ?_
    obtain ⟨v116, h117, h⟩ := bind_of h
    refine W_len (t := 25) (u := (.pair tI (.pair tI (.pair tI tI)))) (xs := a1) (by kernel_rfl) (fun h120 => ?_)
    obtain ⟨h118, h119⟩ := forL_iter h120 h117
    refine W_weaken [0, 5, 25, 26, 27] [3] (fr' := ((count_Check_s14 a0 a1) ((0 : Int), ())).1) (L' := ((count_Check_s14 a0 a1) ((0 : Int), ())).2) (by kernel_rfl) ?_
    refine W_cutK (W_loop (S := (count_Check_s14 a0 a1)) (J := (escQ (exQ .ret count_Check_s15) (exQ (.exit 0) count_Check_s16))) (by kernel_rfl) ?_ h118 _ v116 h119) ?_
    · rintro ⟨i76, x77⟩ s h
      refine W_seq (by kernel_rfl) ?_
      refine W_run 1 [] [0, 5, 25, 26, 27, 28] [3] (fr' := [(0, aI a0), (5, .one (.fn 53 [(3, 0)])), (25, aD (.slice (.pair tI (.pair tI (.pair tI tI)))) a1), (26, aI (List.length a1 : Int)), (27, aI i76), (28, aB (decide (i76 < (List.length a1 : Int))))]) (L' := [(3, .cells [.dat (.slice (.pair tI (.pair tI (.pair tI tI)))) a1])]) (obs := []) (by kernel_rfl) (by kernel_rfl) (by kernel_rfl) allP0 ?_
      refine seqQ_norm ?_
      refine W_seq (by kernel_rfl) ?_
      refine W_cond (o := .tmp 28) (b := decide (i76 < (List.length a1 : Int))) (by kernel_rfl) (by kernel_rfl) (fun h81 => ?_) (fun h81 => ?_)
      · replace h := stepL_true h81 h
        obtain ⟨v79, _, h80, h, rfl⟩ := h
        refine W_skip [0, 5, 25, 26, 27] [3] (fr' := [(0, aI a0), (5, .one (.fn 53 [(3, 0)])), (25, aD (.slice (.pair tI (.pair tI (.pair tI tI)))) a1), (26, aI (List.length a1 : Int)), (27, aI i76)]) (L' := [(3, .cells [.dat (.slice (.pair tI (.pair tI (.pair tI tI)))) a1])]) (by kernel_rfl) (by kernel_rfl) ?_
        refine seqQ_norm ?_
        refine W_seq (by kernel_rfl) ?_
        refine W_block (id := 1) (by kernel_rfl) ?_
        refine W_seq (by kernel_rfl) ?_
        refine W_run 4 [(1, .val (.dat (.pair tI (.pair tI (.pair tI tI))) v79)), (5, .typed)] [0, 5, 7, 25, 26, 27] [3, 7] (fr' := [(0, aI a0), (5, .one (.fn 53 [(3, 0)])), (7, .one (.ptr 7 0)), (25, aD (.slice (.pair tI (.pair tI (.pair tI tI)))) a1), (26, aI (List.length a1 : Int)), (27, aI i76)]) (L' := [(3, .cells [.dat (.slice (.pair tI (.pair tI (.pair tI tI)))) a1]), (7, .one (.pair tI (.pair tI (.pair tI tI))) v79)]) (obs := [Idx a1 i76 v79, True]) (by kernel_rfl) (by kernel_rfl) (by kernel_rfl) (allP2 (Idx.of h80) (allP1 trivial)) ?_
        refine seqQ_norm ?_
        refine W_block (id := 2) (by kernel_rfl) ?_
        refine W_seq (by kernel_rfl) ?_
        obtain ⟨v85, h86, h⟩ := bind_of h
        refine W_cutK (Q' := (exQ .normal (count_Check_s12 a0 a1 i76 v79)) v85) ?_ ?_
        · replace h := h86
          refine W_region (by kernel_rfl) ?_
          refine WO_run (j := 4) (k := 4) (orcs := []) (kF := [0, 5, 7, 25, 26, 27, 35]) (kL := [3, 7]) (fr' := [(0, aI a0), (5, .one (.fn 53 [(3, 0)])), (7, .one (.ptr 7 0)), (25, aD (.slice (.pair tI (.pair tI (.pair tI tI)))) a1), (26, aI (List.length a1 : Int)), (27, aI i76), (35, aB (v79.1 != (1 : Int)))]) (L' := [(3, .cells [.dat (.slice (.pair tI (.pair tI (.pair tI tI)))) a1]), (7, .one (.pair tI (.pair tI (.pair tI tI))) v79)]) (obs := []) rfl (by kernel_rfl) allP0 ?_
          rcases Bool.eq_false_or_eq_true (v79.1 != (1 : Int)) with h84 | h84
          · replace h := ofT h84 h
            refine WO_run (j := 9) (k := 5) (orcs := [(8, .known true), (10, .known true), (12, .known true), (15, .val (.dat .bool true))]) (kF := [0, 5, 7, 25, 26, 27, 31]) (kL := [3, 7]) (fr' := [(0, aI a0), (5, .one (.fn 53 [(3, 0)])), (7, .one (.ptr 7 0)), (25, aD (.slice (.pair tI (.pair tI (.pair tI tI)))) a1), (26, aI (List.length a1 : Int)), (27, aI i76), (31, aB (v79.1 != (2 : Int)))]) (L' := [(3, .cells [.dat (.slice (.pair tI (.pair tI (.pair tI tI)))) a1]), (7, .one (.pair tI (.pair tI (.pair tI tI))) v79)]) (obs := [((v79.1 != (1 : Int)) = true), ((v79.1 != (1 : Int)) = true), ((v79.1 != (1 : Int)) = true), ((v79.1 != (1 : Int)) = true)]) rfl (by kernel_rfl) (allP2 h84 (allP2 h84 (allP2 h84 (allP1 h84)))) ?_
            obtain rfl := Option.some.inj h
            refine WO_fin [0, 5, 7, 25, 26, 27, 31] [3, 7] (fr' := [(0, aI a0), (5, .one (.fn 53 [(3, 0)])), (7, .one (.ptr 7 0)), (25, aD (.slice (.pair tI (.pair tI (.pair tI tI)))) a1), (26, aI (List.length a1 : Int)), (27, aI i76), (31, aB (v79.1 != (2 : Int)))]) (L' := [(3, .cells [.dat (.slice (.pair tI (.pair tI (.pair tI tI)))) a1]), (7, .one (.pair tI (.pair tI (.pair tI tI))) v79)]) (by kernel_rfl) (by kernel_rfl) ?_
            exact exQ_mk (by kernel_rfl) (by kernel_rfl)
          · replace h := ofF h84 h
            refine WO_run (j := 9) (k := 5) (orcs := [(8, .known false), (10, .known false), (12, .known false), (15, .val (.dat .bool false))]) (kF := [0, 5, 7, 25, 26, 27, 31]) (kL := [3, 7]) (fr' := [(0, aI a0), (5, .one (.fn 53 [(3, 0)])), (7, .one (.ptr 7 0)), (25, aD (.slice (.pair tI (.pair tI (.pair tI tI)))) a1), (26, aI (List.length a1 : Int)), (27, aI i76), (31, aB false)]) (L' := [(3, .cells [.dat (.slice (.pair tI (.pair tI (.pair tI tI)))) a1]), (7, .one (.pair tI (.pair tI (.pair tI tI))) v79)]) (obs := [((v79.1 != (1 : Int)) = false), ((v79.1 != (1 : Int)) = false), ((v79.1 != (1 : Int)) = false), ((v79.1 != (1 : Int)) = false)]) rfl (by kernel_rfl) (allP2 h84 (allP2 h84 (allP2 h84 (allP1 h84)))) ?_
            obtain rfl := Option.some.inj h
            refine WO_fin [0, 5, 7, 25, 26, 27, 31] [3, 7] (fr' := [(0, aI a0), (5, .one (.fn 53 [(3, 0)])), (7, .one (.ptr 7 0)), (25, aD (.slice (.pair tI (.pair tI (.pair tI tI)))) a1), (26, aI (List.length a1 : Int)), (27, aI i76), (31, aB false)]) (L' := [(3, .cells [.dat (.slice (.pair tI (.pair tI (.pair tI tI)))) a1]), (7, .one (.pair tI (.pair tI (.pair tI tI))) v79)]) (by kernel_rfl) (by kernel_rfl) ?_
            exact exQ_mk (by kernel_rfl) (by kernel_rfl)
        · intro e fr L hJ
          obtain ⟨rfl, rfl, rfl⟩ := hJ
          refine LT_keep [0, 5, 7, 25, 26, 27, 31] [3, 7] (fr' := [(0, aI a0), (5, .one (.fn 53 [(3, 0)])), (7, .one (.ptr 7 0)), (25, aD (.slice (.pair tI (.pair tI (.pair tI tI)))) a1), (26, aI (List.length a1 : Int)), (27, aI i76), (31, aB v85)]) (L' := [(3, .cells [.dat (.slice (.pair tI (.pair tI (.pair tI tI)))) a1]), (7, .one (.pair tI (.pair tI (.pair tI tI))) v79)]) (by kernel_rfl) ?_
          refine seqQ_norm ?_
          refine W_cond (o := .tmp 31) (b := v85) (by kernel_rfl) (by kernel_rfl) (fun h87 => ?_) (fun h87 => ?_)
          · replace h := ofT h87 h
            refine W_seq (by kernel_rfl) ?_
            refine W_run 1 [] [4] [] (fr' := [(4, aI (6 : Int))]) (L' := []) (obs := []) (by kernel_rfl) (by kernel_rfl) (by kernel_rfl) allP0 ?_
            refine seqQ_norm ?_
            obtain rfl := Option.some.inj h
            refine W_ret [4] [] (fr' := [(4, aI (6 : Int))]) (L' := []) (by kernel_rfl) (by kernel_rfl) ?_
            refine blockQ_ret ?_
            refine blockQ_ret ?_
            refine seqQ_ret ?_
            refine round_ret ?_
            refine escQ_ret ?_
            exact exQ_mk (by kernel_rfl) (by kernel_rfl)
          · replace h := ofF h87 h
            refine W_seq (by kernel_rfl) ?_
            obtain ⟨v91, h92, h⟩ := bind_of h
            refine W_cutK (Q' := (exQ .normal (count_Check_s11 a0 a1 i76 v79)) v91) ?_ ?_
            · replace h := h92
              refine W_region (by kernel_rfl) ?_
              refine WO_run (j := 4) (k := 4) (orcs := []) (kF := [0, 5, 7, 25, 26, 27, 44]) (kL := [3, 7]) (fr' := [(0, aI a0), (5, .one (.fn 53 [(3, 0)])), (7, .one (.ptr 7 0)), (25, aD (.slice (.pair tI (.pair tI (.pair tI tI)))) a1), (26, aI (List.length a1 : Int)), (27, aI i76), (44, aB (decide (v79.2.1 < (0 : Int))))]) (L' := [(3, .cells [.dat (.slice (.pair tI (.pair tI (.pair tI tI)))) a1]), (7, .one (.pair tI (.pair tI (.pair tI tI))) v79)]) (obs := []) rfl (by kernel_rfl) allP0 ?_
              rcases Bool.eq_false_or_eq_true (decide (v79.2.1 < (0 : Int))) with h90 | h90
              · replace h := ofT h90 h
                refine WO_run (j := 10) (k := 6) (orcs := [(8, .known true), (10, .known true), (12, .known true), (14, .known true), (17, .val (.dat .bool true))]) (kF := [0, 5, 7, 25, 26, 27, 40]) (kL := [3, 7]) (fr' := [(0, aI a0), (5, .one (.fn 53 [(3, 0)])), (7, .one (.ptr 7 0)), (25, aD (.slice (.pair tI (.pair tI (.pair tI tI)))) a1), (26, aI (List.length a1 : Int)), (27, aI i76), (40, aB true)]) (L' := [(3, .cells [.dat (.slice (.pair tI (.pair tI (.pair tI tI)))) a1]), (7, .one (.pair tI (.pair tI (.pair tI tI))) v79)]) (obs := [((decide (v79.2.1 < (0 : Int))) = true), ((decide (v79.2.1 < (0 : Int))) = true), ((decide (v79.2.1 < (0 : Int))) = true), ((decide (v79.2.1 < (0 : Int))) = true), ((decide (v79.2.1 < (0 : Int))) = true)]) rfl (by kernel_rfl) (allP2 h90 (allP2 h90 (allP2 h90 (allP2 h90 (allP1 h90))))) ?_
                obtain rfl := Option.some.inj h
                refine WO_fin [0, 5, 7, 25, 26, 27, 40] [3, 7] (fr' := [(0, aI a0), (5, .one (.fn 53 [(3, 0)])), (7, .one (.ptr 7 0)), (25, aD (.slice (.pair tI (.pair tI (.pair tI tI)))) a1), (26, aI (List.length a1 : Int)), (27, aI i76), (40, aB true)]) (L' := [(3, .cells [.dat (.slice (.pair tI (.pair tI (.pair tI tI)))) a1]), (7, .one (.pair tI (.pair tI (.pair tI tI))) v79)]) (by kernel_rfl) (by kernel_rfl) ?_
                exact exQ_mk (by kernel_rfl) (by kernel_rfl)
              · replace h := ofF h90 h
                refine WO_run (j := 10) (k := 6) (orcs := [(8, .known false), (10, .known false), (12, .known false), (14, .known false), (17, .val (.dat .bool false))]) (kF := [0, 5, 7, 25, 26, 27, 40]) (kL := [3, 7]) (fr' := [(0, aI a0), (5, .one (.fn 53 [(3, 0)])), (7, .one (.ptr 7 0)), (25, aD (.slice (.pair tI (.pair tI (.pair tI tI)))) a1), (26, aI (List.length a1 : Int)), (27, aI i76), (40, aB (decide (v79.2.1 ≥ a0)))]) (L' := [(3, .cells [.dat (.slice (.pair tI (.pair tI (.pair tI tI)))) a1]), (7, .one (.pair tI (.pair tI (.pair tI tI))) v79)]) (obs := [((decide (v79.2.1 < (0 : Int))) = false), ((decide (v79.2.1 < (0 : Int))) = false), ((decide (v79.2.1 < (0 : Int))) = false), ((decide (v79.2.1 < (0 : Int))) = false), ((decide (v79.2.1 < (0 : Int))) = false)]) rfl (by kernel_rfl) (allP2 h90 (allP2 h90 (allP2 h90 (allP2 h90 (allP1 h90))))) ?_
                obtain rfl := Option.some.inj h
                refine WO_fin [0, 5, 7, 25, 26, 27, 40] [3, 7] (fr' := [(0, aI a0), (5, .one (.fn 53 [(3, 0)])), (7, .one (.ptr 7 0)), (25, aD (.slice (.pair tI (.pair tI (.pair tI tI)))) a1), (26, aI (List.length a1 : Int)), (27, aI i76), (40, aB (decide (v79.2.1 ≥ a0)))]) (L' := [(3, .cells [.dat (.slice (.pair tI (.pair tI (.pair tI tI)))) a1]), (7, .one (.pair tI (.pair tI (.pair tI tI))) v79)]) (by kernel_rfl) (by kernel_rfl) ?_
                exact exQ_mk (by kernel_rfl) (by kernel_rfl)
            · intro e fr L hJ
              obtain ⟨rfl, rfl, rfl⟩ := hJ
              refine LT_keep [0, 5, 7, 25, 26, 27, 40] [3, 7] (fr' := [(0, aI a0), (5, .one (.fn 53 [(3, 0)])), (7, .one (.ptr 7 0)), (25, aD (.slice (.pair tI (.pair tI (.pair tI tI)))) a1), (26, aI (List.length a1 : Int)), (27, aI i76), (40, aB v91)]) (L' := [(3, .cells [.dat (.slice (.pair tI (.pair tI (.pair tI tI)))) a1]), (7, .one (.pair tI (.pair tI (.pair tI tI))) v79)]) (by kernel_rfl) ?_
              refine seqQ_norm ?_
              refine W_cond (o := .tmp 40) (b := v91) (by kernel_rfl) (by kernel_rfl) (fun h93 => ?_) (fun h93 => ?_)
              · replace h := ofT h93 h
                refine W_seq (by kernel_rfl) ?_
                refine W_run 1 [] [4] [] (fr' := [(4, aI (2 : Int))]) (L' := []) (obs := []) (by kernel_rfl) (by kernel_rfl) (by kernel_rfl) allP0 ?_
                refine seqQ_norm ?_
                obtain rfl := Option.some.inj h
                refine W_ret [4] [] (fr' := [(4, aI (2 : Int))]) (L' := []) (by kernel_rfl) (by kernel_rfl) ?_
                refine blockQ_ret ?_
                refine blockQ_ret ?_
                refine seqQ_ret ?_
                refine round_ret ?_
                refine escQ_ret ?_
                exact exQ_mk (by kernel_rfl) (by kernel_rfl)
              · replace h := ofF h93 h
                refine W_seq (by kernel_rfl) ?_
                obtain ⟨v112, h113, h⟩ := bind_of h
                refine W_cutK (Q' := (exQ .normal (count_Check_s10 a0 a1 i76)) v112) ?_ ?_
                · replace h := h113
                  refine W_region (by kernel_rfl) ?_
                  refine WO_run (j := 3) (k := 3) (orcs := []) (kF := [0, 5, 7, 25, 26, 27, 51, 53]) (kL := [3, 7]) (fr' := [(0, aI a0), (5, .one (.fn 53 [(3, 0)])), (7, .one (.ptr 7 0)), (25, aD (.slice (.pair tI (.pair tI (.pair tI tI)))) a1), (26, aI (List.length a1 : Int)), (27, aI i76), (51, .one (.fn 53 [(3, 0)])), (53, aI v79.2.2.1)]) (L' := [(3, .cells [.dat (.slice (.pair tI (.pair tI (.pair tI tI)))) a1]), (7, .one (.pair tI (.pair tI (.pair tI tI))) v79)]) (obs := []) rfl (by kernel_rfl) allP0 ?_
                  obtain ⟨r106, h107, h⟩ := bind_of h
                  refine WO_lend [(1000, 3)] (us := [none, none]) (d := 54) (p := True) (j := 4) rfl ⟨by kernel_rfl, by kernel_rfl, by kernel_rfl⟩ trivial (count_Check_1_ok h107) (by kernel_rfl) (by kernel_rfl) ?_
                  refine WO_run (j := 6) (k := 2) (orcs := []) (kF := [0, 5, 7, 25, 26, 27, 56]) (kL := [3, 7]) (fr' := [(0, aI a0), (5, .one (.fn 53 [(3, 0)])), (7, .one (.ptr 7 0)), (25, aD (.slice (.pair tI (.pair tI (.pair tI tI)))) a1), (26, aI (List.length a1 : Int)), (27, aI i76), (56, aB (!r106))]) (L' := [(3, .cells [.dat (.slice (.pair tI (.pair tI (.pair tI tI)))) a1]), (7, .one (.pair tI (.pair tI (.pair tI tI))) v79)]) (obs := []) rfl (by kernel_rfl) allP0 ?_
                  rcases Bool.eq_false_or_eq_true (!r106) with h108 | h108
                  · replace h := ofT h108 h
                    refine WO_run (j := 18) (k := 12) (orcs := [(12, .known true), (14, .known true), (16, .known true), (18, .known true), (20, .known true), (22, .known true), (24, .known true), (26, .known true), (28, .known true), (30, .known true), (33, .val (.dat .bool true))]) (kF := [0, 5, 25, 26, 27, 50]) (kL := [3, 7]) (fr' := [(0, aI a0), (5, .one (.fn 53 [(3, 0)])), (25, aD (.slice (.pair tI (.pair tI (.pair tI tI)))) a1), (26, aI (List.length a1 : Int)), (27, aI i76), (50, aB true)]) (L' := [(3, .cells [.dat (.slice (.pair tI (.pair tI (.pair tI tI)))) a1]), (7, .one (.pair tI (.pair tI (.pair tI tI))) v79)]) (obs := [((!r106) = true), ((!r106) = true), ((!r106) = true), ((!r106) = true), ((!r106) = true), ((!r106) = true)]) rfl (by kernel_rfl) (allP2 h108 (allP2 h108 (allP2 h108 (allP2 h108 (allP2 h108 (allP1 h108)))))) ?_
                    obtain rfl := Option.some.inj h
                    refine WO_fin [0, 5, 25, 26, 27, 50] [3] (fr' := [(0, aI a0), (5, .one (.fn 53 [(3, 0)])), (25, aD (.slice (.pair tI (.pair tI (.pair tI tI)))) a1), (26, aI (List.length a1 : Int)), (27, aI i76), (50, aB true)]) (L' := [(3, .cells [.dat (.slice (.pair tI (.pair tI (.pair tI tI)))) a1])]) (by kernel_rfl) (by kernel_rfl) ?_
                    exact exQ_mk (by kernel_rfl) (by kernel_rfl)
                  · replace h := ofF h108 h
                    refine WO_run (j := 10) (k := 4) (orcs := [(12, .known false), (14, .known false), (16, .known false), (18, .known false)]) (kF := [0, 5, 7, 25, 26, 27, 56, 60]) (kL := [3, 7]) (fr' := [(0, aI a0), (5, .one (.fn 53 [(3, 0)])), (7, .one (.ptr 7 0)), (25, aD (.slice (.pair tI (.pair tI (.pair tI tI)))) a1), (26, aI (List.length a1 : Int)), (27, aI i76), (56, aB (!r106)), (60, aB (v79.1 == (2 : Int)))]) (L' := [(3, .cells [.dat (.slice (.pair tI (.pair tI (.pair tI tI)))) a1]), (7, .one (.pair tI (.pair tI (.pair tI tI))) v79)]) (obs := [((!r106) = false), ((!r106) = false), ((!r106) = false), ((!r106) = false)]) rfl (by kernel_rfl) (allP2 h108 (allP2 h108 (allP2 h108 (allP1 h108)))) ?_
                    rcases Bool.eq_false_or_eq_true (v79.1 == (2 : Int)) with h109 | h109
                    · replace h := ofT h109 h
                      refine WO_run (j := 13) (k := 3) (orcs := [(20, .known true), (22, .known true), (24, .known true)]) (kF := [0, 5, 25, 26, 27, 56, 60, 61, 63]) (kL := [3, 7]) (fr' := [(0, aI a0), (5, .one (.fn 53 [(3, 0)])), (25, aD (.slice (.pair tI (.pair tI (.pair tI tI)))) a1), (26, aI (List.length a1 : Int)), (27, aI i76), (56, aB (!r106)), (60, aB (v79.1 == (2 : Int))), (61, .one (.fn 53 [(3, 0)])), (63, aI v79.2.2.2)]) (L' := [(3, .cells [.dat (.slice (.pair tI (.pair tI (.pair tI tI)))) a1]), (7, .one (.pair tI (.pair tI (.pair tI tI))) v79)]) (obs := [((v79.1 == (2 : Int)) = true), ((v79.1 == (2 : Int)) = true), ((v79.1 == (2 : Int)) = true)]) rfl (by kernel_rfl) (allP2 h109 (allP2 h109 (allP1 h109))) ?_
                      obtain ⟨r110, h111, h⟩ := bind_of h
                      refine WO_lend [(1000, 3)] (us := [none, none]) (d := 64) (p := ((v79.1 == (2 : Int)) = true)) (j := 14) rfl ⟨by kernel_rfl, by kernel_rfl, by kernel_rfl⟩ h109 (count_Check_1_ok h111) (by kernel_rfl) (by kernel_rfl) ?_
                      refine WO_run (j := 18) (k := 4) (orcs := [(28, .known true), (30, .known false), (31, .val (.dat .bool true)), (33, .val (.dat .bool false))]) (kF := [0, 5, 25, 26, 27, 50]) (kL := [3, 7]) (fr' := [(0, aI a0), (5, .one (.fn 53 [(3, 0)])), (25, aD (.slice (.pair tI (.pair tI (.pair tI tI)))) a1), (26, aI (List.length a1 : Int)), (27, aI i76), (50, aB (!r110))]) (L' := [(3, .cells [.dat (.slice (.pair tI (.pair tI (.pair tI tI)))) a1]), (7, .one (.pair tI (.pair tI (.pair tI tI))) v79)]) (obs := [((v79.1 == (2 : Int)) = true), ((!r106) = false), ((v79.1 == (2 : Int)) = true), ((!r106) = false)]) rfl (by kernel_rfl) (allP2 h109 (allP2 h108 (allP2 h109 (allP1 h108)))) ?_
                      obtain rfl := Option.some.inj h
                      refine WO_fin [0, 5, 25, 26, 27, 50] [3] (fr' := [(0, aI a0), (5, .one (.fn 53 [(3, 0)])), (25, aD (.slice (.pair tI (.pair tI (.pair tI tI)))) a1), (26, aI (List.length a1 : Int)), (27, aI i76), (50, aB (!r110))]) (L' := [(3, .cells [.dat (.slice (.pair tI (.pair tI (.pair tI tI)))) a1])]) (by kernel_rfl) (by kernel_rfl) ?_
                      exact exQ_mk (by kernel_rfl) (by kernel_rfl)
                    · replace h := ofF h109 h
                      refine WO_run (j := 18) (k := 8) (orcs := [(20, .known false), (22, .known false), (24, .known false), (26, .known false), (28, .known false), (30, .known false), (31, .val (.dat .bool false)), (33, .val (.dat .bool false))]) (kF := [0, 5, 25, 26, 27, 50]) (kL := [3, 7]) (fr' := [(0, aI a0), (5, .one (.fn 53 [(3, 0)])), (25, aD (.slice (.pair tI (.pair tI (.pair tI tI)))) a1), (26, aI (List.length a1 : Int)), (27, aI i76), (50, aB false)]) (L' := [(3, .cells [.dat (.slice (.pair tI (.pair tI (.pair tI tI)))) a1]), (7, .one (.pair tI (.pair tI (.pair tI tI))) v79)]) (obs := [((v79.1 == (2 : Int)) = false), ((v79.1 == (2 : Int)) = false), ((v79.1 == (2 : Int)) = false), ((v79.1 == (2 : Int)) = false), ((v79.1 == (2 : Int)) = false), ((!r106) = false), ((v79.1 == (2 : Int)) = false), ((!r106) = false)]) rfl (by kernel_rfl) (allP2 h109 (allP2 h109 (allP2 h109 (allP2 h109 (allP2 h109 (allP2 h108 (allP2 h109 (allP1 h108)))))))) ?_
                      obtain rfl := Option.some.inj h
                      refine WO_fin [0, 5, 25, 26, 27, 50] [3] (fr' := [(0, aI a0), (5, .one (.fn 53 [(3, 0)])), (25, aD (.slice (.pair tI (.pair tI (.pair tI tI)))) a1), (26, aI (List.length a1 : Int)), (27, aI i76), (50, aB false)]) (L' := [(3, .cells [.dat (.slice (.pair tI (.pair tI (.pair tI tI)))) a1])]) (by kernel_rfl) (by kernel_rfl) ?_
                      exact exQ_mk (by kernel_rfl) (by kernel_rfl)
                · intro e fr L hJ
                  obtain ⟨rfl, rfl, rfl⟩ := hJ
                  refine LT_keep [0, 5, 25, 26, 27, 50] [3] (fr' := [(0, aI a0), (5, .one (.fn 53 [(3, 0)])), (25, aD (.slice (.pair tI (.pair tI (.pair tI tI)))) a1), (26, aI (List.length a1 : Int)), (27, aI i76), (50, aB v112)]) (L' := [(3, .cells [.dat (.slice (.pair tI (.pair tI (.pair tI tI)))) a1])]) (by kernel_rfl) ?_
                  refine seqQ_norm ?_
                  refine W_cond (o := .tmp 50) (b := v112) (by kernel_rfl) (by kernel_rfl) (fun h114 => ?_) (fun h114 => ?_)
                  · replace h := ofT h114 h
                    refine W_seq (by kernel_rfl) ?_
                    refine W_run 1 [] [4] [] (fr' := [(4, aI (3 : Int))]) (L' := []) (obs := []) (by kernel_rfl) (by kernel_rfl) (by kernel_rfl) allP0 ?_
                    refine seqQ_norm ?_
                    obtain rfl := Option.some.inj h
                    refine W_ret [4] [] (fr' := [(4, aI (3 : Int))]) (L' := []) (by kernel_rfl) (by kernel_rfl) ?_
                    refine blockQ_ret ?_
                    refine blockQ_ret ?_
                    refine seqQ_ret ?_
                    refine round_ret ?_
                    refine escQ_ret ?_
                    exact exQ_mk (by kernel_rfl) (by kernel_rfl)
                  · replace h := ofF h114 h
                    refine W_skip [0, 5, 25, 26, 27] [3] (fr' := [(0, aI a0), (5, .one (.fn 53 [(3, 0)])), (25, aD (.slice (.pair tI (.pair tI (.pair tI tI)))) a1), (26, aI (List.length a1 : Int)), (27, aI i76)]) (L' := [(3, .cells [.dat (.slice (.pair tI (.pair tI (.pair tI tI)))) a1])]) (by kernel_rfl) (by kernel_rfl) ?_
                    refine blockQ_norm ?_
                    refine blockQ_norm ?_
                    refine seqQ_norm ?_
                    obtain rfl := Option.some.inj h
                    refine W_run 2 [] [0, 5, 25, 26, 27] [3] (fr' := [(0, aI a0), (5, .one (.fn 53 [(3, 0)])), (25, aD (.slice (.pair tI (.pair tI (.pair tI tI)))) a1), (26, aI (List.length a1 : Int)), (27, aI (w64 (i76 + (1 : Int))))]) (L' := [(3, .cells [.dat (.slice (.pair tI (.pair tI (.pair tI tI)))) a1])]) (obs := []) (by kernel_rfl) (by kernel_rfl) (by kernel_rfl) allP0 ?_
                    exact round_next' (by kernel_rfl) (by kernel_rfl)
      · obtain rfl := stepL_false h81 h
        refine W_exit (id := 0) [] [] (fr' := []) (L' := []) (by kernel_rfl) (by kernel_rfl) ?_
        refine seqQ_exit ?_
        refine round_exit ?_
        refine escQ_brk ?_
        exact exQ_mk (by kernel_rfl) (by kernel_rfl)
    · intro e fr L hJ
      rcases v116 with v121 | v122
      · obtain ⟨rfl, rfl, rfl⟩ := hJ
        obtain rfl := Option.some.inj h
        refine LT_keep [4] [] (fr' := [(4, aI v121)]) (L' := []) (by kernel_rfl) ?_
        refine blockQ_ret ?_
        refine seqQ_ret ?_
        exact retQ_mk (by kernel_rfl) (by kernel_rfl) (by kernel_rfl)
      · obtain ⟨rfl, rfl, rfl⟩ := hJ
        refine LT_keep [] [] (fr' := []) (L' := []) (by kernel_rfl) ?_
        refine blockQ_hit ?_
        refine seqQ_norm ?_
        refine W_seq (by kernel_rfl) ?_
        refine W_run 1 [] [4] [] (fr' := [(4, aI (0 : Int))]) (L' := []) (obs := []) (by kernel_rfl) (by kernel_rfl) (by kernel_rfl) allP0 ?_
        refine seqQ_norm ?_
        obtain rfl := Option.some.inj h
        refine W_ret [4] [] (fr' := [(4, aI (0 : Int))]) (L' := []) (by kernel_rfl) (by kernel_rfl) ?_
        exact retQ_mk (by kernel_rfl) (by kernel_rfl) (by kernel_rfl)

noncomputable def two_prime (a0 : Int) : Option Int :=
(idx [(2 : Int), (3 : Int), (5 : Int), (7 : Int)] a0).bind fun v1 =>
some v1
theorem two_prime_ok {a0 : Int} {r : Int} (h : two_prime a0 = some r) : FnC Try.prog 42 [aI a0] [] (aI r) [] := by
  refine fnC_of_W (B := bodyOf Try.f42) (n := 7) Try.func42 (by kernel_rfl) (by kernel_rfl) (by kernel_rfl) (by kernel_rfl) (by kernel_rfl) ?_
  intro K
  refine W_seq (by kernel_rfl) ?_
  refine W_run 1 [] [0] [] (fr' := [(0, aI a0)]) (L' := []) (obs := []) (by kernel_rfl) (by kernel_rfl) (by kernel_rfl) allP0 ?_
  refine seqQ_norm ?_
  refine W_seq (by kernel_rfl) ?_
  obtain ⟨v1, h2, h⟩ := bind_of h
  refine W_run 5 [(7, .val (.dat tI v1))] [2] [] (fr' := [(2, aI v1)]) (L' := []) (obs := [InR a0 (List.length [(2 : Int), (3 : Int), (5 : Int), (7 : Int)]), Idx [(2 : Int), (3 : Int), (5 : Int), (7 : Int)] a0 v1]) (by kernel_rfl) (by kernel_rfl) (by kernel_rfl) (allP2 (InR.of h2) (allP1 (Idx.of h2))) ?_
  refine seqQ_norm ?_
  obtain rfl := Option.some.inj h
  refine W_ret [2] [] (fr' := [(2, aI v1)]) (L' := []) (by kernel_rfl) (by kernel_rfl) ?_
  exact retQ_mk (by kernel_rfl) (by kernel_rfl) (by kernel_rfl)

noncomputable def two_maker_put_i3 (a1 : Int) (a2 : Int) (c0 : (List (Int × (Int × (Int × Int))))) : Option (Int × (List (Int × (Int × (Int × Int))))) :=
(ck ((List.length c0 : Int) + 1 ≤ 4294967296)).bind fun _ =>
some (w64 ((List.length (c0 ++ [(a1, a2, w64 ((List.length c0 : Int) + (1 : Int)), (0 : Int))]) : Int) - (1 : Int)), c0 ++ [(a1, a2, w64 ((List.length c0 : Int) + (1 : Int)), (0 : Int))])
theorem two_maker_put_i3_ok {a1 : Int} {a2 : Int} {c0 : (List (Int × (Int × (Int × Int))))} {r : (Int × (List (Int × (Int × (Int × Int)))))} (h : two_maker_put_i3 a1 a2 c0 = some r) : FnC Try.prog 54 [.one (.ptr 1000 0), aI a1, aI a2] [(1000, .cells [.slc 2001]), (2001, .seq (.pair tI (.pair tI (.pair tI tI))) c0)] (aI r.1) [(1000, .cells [.slc 2001]), (2001, .seq (.pair tI (.pair tI (.pair tI tI))) r.2)] := by
  refine fnC_of_W (B := bodyOf Try.f54) (n := 31) Try.func54 (by kernel_rfl) (by kernel_rfl) (by kernel_rfl) (by kernel_rfl) (by kernel_rfl) ?_
  intro K
  refine W_seq (by kernel_rfl) ?_
  refine W_run 1 [] [0, 1, 2] [1000, 2001] (fr' := [(0, .one (.ptr 1000 0)), (1, aI a1), (2, aI a2)]) (L' := [(1000, .cells [.slc 2001]), (2001, .seq (.pair tI (.pair tI (.pair tI tI))) c0)]) (obs := []) (by kernel_rfl) (by kernel_rfl) (by kernel_rfl) allP0 ?_
  refine seqQ_norm ?_
  refine W_seq (by kernel_rfl) ?_
  obtain ⟨_, h1, h⟩ := bind_of h
  replace h1 := ck_some h1
  refine W_draw5 15 [0] [] [] [0] [1000, 2001] (fr' := [(0, .one (.ptr 1000 0))]) (L' := [(1000, .cells [.slc 2001]), (2001, .seq (.pair tI (.pair tI (.pair tI tI))) (c0 ++ [(a1, a2, w64 ((List.length c0 : Int) + (1 : Int)), (0 : Int))]))]) (out := [(7, .one (.ptr 1000 0)), (8, .one (.ptr 1000 0)), (9, .one (.ptr 1000 0)), (10, .one (.ptr 1000 0)), (11, .one (.slc 2001)), (12, aI a1), (13, aI a2), (14, .one (.ptr 1000 0)), (15, .one (.ptr 1000 0)), (16, .one (.ptr 1000 0)), (17, .one (.slc 2001)), (18, aI (List.length c0 : Int)), (19, aI (w64 ((List.length c0 : Int) + (1 : Int)))), (20, aD (.pair tI (.pair tI (.pair tI tI))) (a1, a2, w64 ((List.length c0 : Int) + (1 : Int)), (0 : Int))), (21, aD (.slice (.pair tI (.pair tI (.pair tI tI)))) [(a1, a2, w64 ((List.length c0 : Int) + (1 : Int)), (0 : Int))])]) (obs := [True]) (obs2 := [SmallLen (List.length c0 + List.length [(a1, a2, w64 ((List.length c0 : Int) + (1 : Int)), (0 : Int))]), True]) (calls := []) (by kernel_rfl) (by kernel_rfl) (by kernel_rfl) (by kernel_rfl) (allP1 trivial) allD0 (by kernel_rfl) (allP2 h1 (allP1 trivial)) ?_
  refine seqQ_norm ?_
  refine W_seq (by kernel_rfl) ?_
  refine W_run 7 [] [6] [1000, 2001] (fr' := [(6, aI (w64 ((List.length (c0 ++ [(a1, a2, w64 ((List.length c0 : Int) + (1 : Int)), (0 : Int))]) : Int) - (1 : Int))))]) (L' := [(1000, .cells [.slc 2001]), (2001, .seq (.pair tI (.pair tI (.pair tI tI))) (c0 ++ [(a1, a2, w64 ((List.length c0 : Int) + (1 : Int)), (0 : Int))]))]) (obs := []) (by kernel_rfl) (by kernel_rfl) (by kernel_rfl) allP0 ?_
  refine seqQ_norm ?_
  obtain rfl := Option.some.inj h
  refine W_ret [6] [1000, 2001] (fr' := [(6, aI (w64 ((List.length (c0 ++ [(a1, a2, w64 ((List.length c0 : Int) + (1 : Int)), (0 : Int))]) : Int) - (1 : Int))))]) (L' := [(1000, .cells [.slc 2001]), (2001, .seq (.pair tI (.pair tI (.pair tI tI))) (c0 ++ [(a1, a2, w64 ((List.length c0 : Int) + (1 : Int)), (0 : Int))]))]) (by kernel_rfl) (by kernel_rfl) ?_
  exact retQ_mk (by kernel_rfl) (by kernel_rfl) (by kernel_rfl)

noncomputable def two_maker_back_i2 (c0 : (List (Int × (Int × (Int × Int))))) : Option (Int × (List (Int × (Int × (Int × Int))))) :=
(two_maker_put_i3 (2 : Int) (1 : Int) c0).bind fun r1 =>
(two_maker_put_i3 (1 : Int) (0 : Int) r1.2).bind fun r3 =>
(idx r3.2 r3.1).bind fun v5 =>
some (r1.1, List.set r3.2 (Int.toNat r3.1) (v5.1, v5.2.1, r1.1, v5.2.2.2))
theorem two_maker_back_i2_ok {c0 : (List (Int × (Int × (Int × Int))))} {r : (Int × (List (Int × (Int × (Int × Int)))))} (h : two_maker_back_i2 c0 = some r) : FnC Try.prog 55 [.one (.ptr 1000 0)] [(1000, .cells [.slc 2001]), (2001, .seq (.pair tI (.pair tI (.pair tI tI))) c0)] (aI r.1) [(1000, .cells [.slc 2001]), (2001, .seq (.pair tI (.pair tI (.pair tI tI))) r.2)] := by
  refine fnC_of_W (B := bodyOf Try.f55) (n := 18) Try.func55 (by kernel_rfl) (by kernel_rfl) (by kernel_rfl) (by kernel_rfl) (by kernel_rfl) ?_
  intro K
  refine W_seq (by kernel_rfl) ?_
  refine W_run 1 [] [0] [1000, 2001] (fr' := [(0, .one (.ptr 1000 0))]) (L' := [(1000, .cells [.slc 2001]), (2001, .seq (.pair tI (.pair tI (.pair tI tI))) c0)]) (obs := []) (by kernel_rfl) (by kernel_rfl) (by kernel_rfl) allP0 ?_
  refine seqQ_norm ?_
  refine W_seq (by kernel_rfl) ?_
  refine W_region (by kernel_rfl) ?_
  refine WO_run (j := 1) (k := 1) (orcs := []) (kF := [0, 5]) (kL := [1000, 2001]) (fr' := [(0, .one (.ptr 1000 0)), (5, .one (.ptr 1000 0))]) (L' := [(1000, .cells [.slc 2001]), (2001, .seq (.pair tI (.pair tI (.pair tI tI))) c0)]) (obs := []) rfl (by kernel_rfl) allP0 ?_
  obtain ⟨r1, h2, h⟩ := bind_of h
  refine WO_lend2 [(1000, 1000), (2001, 2001)] (us := [none, none, none]) (d := 6) (p := True) (j := 2) rfl ⟨by kernel_rfl, by kernel_rfl, by kernel_rfl⟩ trivial (two_maker_put_i3_ok h2) (by kernel_rfl) (by kernel_rfl) ?_
  refine WO_run (j := 3) (k := 1) (orcs := []) (kF := [0, 3]) (kL := [1000, 2001]) (fr' := [(0, .one (.ptr 1000 0)), (3, aI r1.1)]) (L' := [(1000, .cells [.slc 2001]), (2001, .seq (.pair tI (.pair tI (.pair tI tI))) r1.2)]) (obs := []) rfl (by kernel_rfl) allP0 ?_
  refine WO_fin [0, 3] [1000, 2001] (fr' := [(0, .one (.ptr 1000 0)), (3, aI r1.1)]) (L' := [(1000, .cells [.slc 2001]), (2001, .seq (.pair tI (.pair tI (.pair tI tI))) r1.2)]) (by kernel_rfl) (by kernel_rfl) ?_
  refine seqQ_norm ?_
  refine W_seq (by kernel_rfl) ?_
  refine W_region (by kernel_rfl) ?_
  refine WO_run (j := 1) (k := 1) (orcs := []) (kF := [0, 3, 7]) (kL := [1000, 2001]) (fr' := [(0, .one (.ptr 1000 0)), (3, aI r1.1), (7, .one (.ptr 1000 0))]) (L' := [(1000, .cells [.slc 2001]), (2001, .seq (.pair tI (.pair tI (.pair tI tI))) r1.2)]) (obs := []) rfl (by kernel_rfl) allP0 ?_
  obtain ⟨r3, h4, h⟩ := bind_of h
  refine WO_lend2 [(1000, 1000), (2001, 2001)] (us := [none, none, none]) (d := 8) (p := True) (j := 2) rfl ⟨by kernel_rfl, by kernel_rfl, by kernel_rfl⟩ trivial (two_maker_put_i3_ok h4) (by kernel_rfl) (by kernel_rfl) ?_
  refine WO_run (j := 3) (k := 1) (orcs := []) (kF := [0, 3, 4]) (kL := [1000, 2001]) (fr' := [(0, .one (.ptr 1000 0)), (3, aI r1.1), (4, aI r3.1)]) (L' := [(1000, .cells [.slc 2001]), (2001, .seq (.pair tI (.pair tI (.pair tI tI))) r3.2)]) (obs := []) rfl (by kernel_rfl) allP0 ?_
  refine WO_fin [0, 3, 4] [1000, 2001] (fr' := [(0, .one (.ptr 1000 0)), (3, aI r1.1), (4, aI r3.1)]) (L' := [(1000, .cells [.slc 2001]), (2001, .seq (.pair tI (.pair tI (.pair tI tI))) r3.2)]) (by kernel_rfl) (by kernel_rfl) ?_
  refine seqQ_norm ?_
  refine W_seq (by kernel_rfl) ?_
  obtain ⟨v5, h6, h⟩ := bind_of h
  refine W_run 9 [(17, .val (.dat (.pair tI (.pair tI (.pair tI tI))) v5))] [3] [1000, 2001] (fr' := [(3, aI r1.1)]) (L' := [(1000, .cells [.slc 2001]), (2001, .seq (.pair tI (.pair tI (.pair tI tI))) (List.set r3.2 (Int.toNat r3.1) (v5.1, v5.2.1, r1.1, v5.2.2.2)))]) (obs := [InR r3.1 (List.length r3.2), Idx r3.2 r3.1 v5]) (by kernel_rfl) (by kernel_rfl) (by kernel_rfl) (allP2 (InR.of h6) (allP1 (Idx.of h6))) ?_
  refine seqQ_norm ?_
  refine W_seq (by kernel_rfl) ?_
  refine W_run 2 [] [2] [1000, 2001] (fr' := [(2, aI r1.1)]) (L' := [(1000, .cells [.slc 2001]), (2001, .seq (.pair tI (.pair tI (.pair tI tI))) (List.set r3.2 (Int.toNat r3.1) (v5.1, v5.2.1, r1.1, v5.2.2.2)))]) (obs := []) (by kernel_rfl) (by kernel_rfl) (by kernel_rfl) allP0 ?_
  refine seqQ_norm ?_
  obtain rfl := Option.some.inj h
  refine W_ret [2] [1000, 2001] (fr' := [(2, aI r1.1)]) (L' := [(1000, .cells [.slc 2001]), (2001, .seq (.pair tI (.pair tI (.pair tI tI))) (List.set r3.2 (Int.toNat r3.1) (v5.1, v5.2.1, r1.1, v5.2.2.2)))]) (by kernel_rfl) (by kernel_rfl) ?_
  exact retQ_mk (by kernel_rfl) (by kernel_rfl) (by kernel_rfl)

noncomputable def two_maker_more_i3_b1 (i11 : Int) (x12 : (List (Int × (Int × (Int × Int))))) : Option (Flow (List (Int × (Int × (Int × Int)))) (List (Int × (Int × (Int × Int))))) :=
(two_maker_put_i3 (1 : Int) (1 : Int) x12).bind fun r15 =>
some (.next r15.2)
@[reducible] def two_maker_more_i3_s2 (a1 : Int) (r1 : (Int × (List (Int × (Int × (Int × Int)))))) (v : Int × (List (Int × (Int × (Int × Int))))) : Fr × LL := ([(0, .one (.ptr 1000 0)), (5, aI r1.1), (8, aI a1), (9, aI v.1)], [(1000, .cells [.slc 2001]), (2001, .seq (.pair tI (.pair tI (.pair tI tI))) v.2)])
@[reducible] def two_maker_more_i3_s3 (r1 : (Int × (List (Int × (Int × (Int × Int)))))) (v : (List (Int × (Int × (Int × Int))))) : Fr × LL := ([(0, .one (.ptr 1000 0)), (5, aI r1.1)], [(1000, .cells [.slc 2001]), (2001, .seq (.pair tI (.pair tI (.pair tI tI))) v)])
noncomputable def two_maker_more_i3 (a1 : Int) (c0 : (List (Int × (Int × (Int × Int))))) : Option ((List Int) × (List (Int × (Int × (Int × Int))))) :=
(two_maker_put_i3 (2 : Int) (0 : Int) c0).bind fun r1 =>
(forI (0 : Int) a1 two_maker_more_i3_b1 (fun x12 => x12) r1.2).bind fun v18 =>
(idx v18 (w64 ((List.length v18 : Int) - (1 : Int)))).bind fun v22 =>
(idx (List.set v18 (Int.toNat (w64 ((List.length v18 : Int) - (1 : Int)))) (v22.1, v22.2.1, r1.1, v22.2.2.2)) r1.1).bind fun v24 =>
(two_maker_back_i2 (List.set (List.set v18 (Int.toNat (w64 ((List.length v18 : Int) - (1 : Int)))) (v22.1, v22.2.1, r1.1, v22.2.2.2)) (Int.toNat r1.1) (v24.1, v24.2.1, v24.2.2.1, (List.length (List.set v18 (Int.toNat (w64 ((List.length v18 : Int) - (1 : Int)))) (v22.1, v22.2.1, r1.1, v22.2.2.2)) : Int)))).bind fun r26 =>
some ([r26.1], r26.2)
theorem two_maker_more_i3_ok {a1 : Int} {c0 : (List (Int × (Int × (Int × Int))))} {r : ((List Int) × (List (Int × (Int × (Int × Int)))))} (h : two_maker_more_i3 a1 c0 = some r) : FnC Try.prog 43 [.one (.ptr 1000 0), aI a1] [(1000, .cells [.slc 2001]), (2001, .seq (.pair tI (.pair tI (.pair tI tI))) c0)] (aD (.slice tI) r.1) [(1000, .cells [.slc 2001]), (2001, .seq (.pair tI (.pair tI (.pair tI tI))) r.2)] := by
  refine fnC_of_W (B := bodyOf Try.f43) (n := 42) Try.func43 (by kernel_rfl) (by kernel_rfl) (by kernel_rfl) (by kernel_rfl) (by kernel_rfl) ?_
  intro K
  refine W_seq (by kernel_rfl) ?_
  refine W_run 1 [] [0, 1] [1000, 2001] (fr' := [(0, .one (.ptr 1000 0)), (1, aI a1)]) (L' := [(1000, .cells [.slc 2001]), (2001, .seq (.pair tI (.pair tI (.pair tI tI))) c0)]) (obs := []) (by kernel_rfl) (by kernel_rfl) (by kernel_rfl) allP0 ?_
  refine seqQ_norm ?_
  refine W_seq (by kernel_rfl) ?_
  refine W_region (by kernel_rfl) ?_
  refine WO_run (j := 1) (k := 1) (orcs := []) (kF := [0, 1, 6]) (kL := [1000, 2001]) (fr' := [(0, .one (.ptr 1000 0)), (1, aI a1), (6, .one (.ptr 1000 0))]) (L' := [(1000, .cells [.slc 2001]), (2001, .seq (.pair tI (.pair tI (.pair tI tI))) c0)]) (obs := []) rfl (by kernel_rfl) allP0 ?_
  obtain ⟨r1, h2, h⟩ := bind_of h
  refine WO_lend2 [(1000, 1000), (2001, 2001)] (us := [none, none, none]) (d := 7) (p := True) (j := 2) rfl ⟨by kernel_rfl, by kernel_rfl, by kernel_rfl⟩ trivial (two_maker_put_i3_ok h2) (by kernel_rfl) (by kernel_rfl) ?_
  refine WO_run (j := 3) (k := 1) (orcs := []) (kF := [0, 1, 5]) (kL := [1000, 2001]) (fr' := [(0, .one (.ptr 1000 0)), (1, aI a1), (5, aI r1.1)]) (L' := [(1000, .cells [.slc 2001]), (2001, .seq (.pair tI (.pair tI (.pair tI tI))) r1.2)]) (obs := []) rfl (by kernel_rfl) allP0 ?_
  refine WO_fin [0, 1, 5] [1000, 2001] (fr' := [(0, .one (.ptr 1000 0)), (1, aI a1), (5, aI r1.1)]) (L' := [(1000, .cells [.slc 2001]), (2001, .seq (.pair tI (.pair tI (.pair tI tI))) r1.2)]) (by kernel_rfl) (by kernel_rfl) ?_
  refine seqQ_norm ?_
  refine W_seq (by kernel_rfl) ?_
  refine W_seq (by kernel_rfl) ?_
  refine W_run 2 [] [0, 5, 8, 9] [1000, 2001] (fr' := [(0, .one (.ptr 1000 0)), (5, aI r1.1), (8, aI a1), (9, aI (0 : Int))]) (L' := [(1000, .cells [.slc 2001]), (2001, .seq (.pair tI (.pair tI (.pair tI tI))) r1.2)]) (obs := []) (by kernel_rfl) (by kernel_rfl) (by kernel_rfl) allP0 ?_
  refine seqQ_norm ?_
  refine W_block (id := 0) (by kernel_rfl) ?_
  obtain ⟨v18, h19, h⟩ := bind_of h
  obtain ⟨h20, h21⟩ := forI_iter h19
  refine W_weaken [0, 5, 8, 9] [1000, 2001] (fr' := ((two_maker_more_i3_s2 a1 r1) ((0 : Int), r1.2)).1) (L' := ((two_maker_more_i3_s2 a1 r1) ((0 : Int), r1.2)).2) (by kernel_rfl) ?_
  refine W_cutK (W_loop (S := (two_maker_more_i3_s2 a1 r1)) (J := (exQ (.exit 0) (two_maker_more_i3_s3 r1))) (by kernel_rfl) ?_ h20 _ v18 h21) ?_
  · rintro ⟨i11, x12⟩ s h
    refine W_seq (by kernel_rfl) ?_
    refine W_run 1 [] [0, 5, 8, 9, 10] [1000, 2001] (fr' := [(0, .one (.ptr 1000 0)), (5, aI r1.1), (8, aI a1), (9, aI i11), (10, aB (decide (i11 < a1)))]) (L' := [(1000, .cells [.slc 2001]), (2001, .seq (.pair tI (.pair tI (.pair tI tI))) x12)]) (obs := []) (by kernel_rfl) (by kernel_rfl) (by kernel_rfl) allP0 ?_
    refine seqQ_norm ?_
    refine W_seq (by kernel_rfl) ?_
    refine W_cond (o := .tmp 10) (b := decide (i11 < a1)) (by kernel_rfl) (by kernel_rfl) (fun h14 => ?_) (fun h14 => ?_)
    · replace h := stepI_true h14 h
      obtain ⟨_, h, rfl⟩ := h
      refine W_skip [0, 5, 8, 9] [1000, 2001] (fr' := [(0, .one (.ptr 1000 0)), (5, aI r1.1), (8, aI a1), (9, aI i11)]) (L' := [(1000, .cells [.slc 2001]), (2001, .seq (.pair tI (.pair tI (.pair tI tI))) x12)]) (by kernel_rfl) (by kernel_rfl) ?_
      refine seqQ_norm ?_
      refine W_seq (by kernel_rfl) ?_
      refine W_block (id := 1) (by kernel_rfl) ?_
      refine W_region (by kernel_rfl) ?_
      refine WO_run (j := 1) (k := 1) (orcs := []) (kF := [0, 5, 8, 9, 11]) (kL := [1000, 2001]) (fr' := [(0, .one (.ptr 1000 0)), (5, aI r1.1), (8, aI a1), (9, aI i11), (11, .one (.ptr 1000 0))]) (L' := [(1000, .cells [.slc 2001]), (2001, .seq (.pair tI (.pair tI (.pair tI tI))) x12)]) (obs := []) rfl (by kernel_rfl) allP0 ?_
      obtain ⟨r15, h16, h⟩ := bind_of h
      refine WO_lend2 [(1000, 1000), (2001, 2001)] (us := [none, none, none]) (d := 12) (p := True) (j := 2) rfl ⟨by kernel_rfl, by kernel_rfl, by kernel_rfl⟩ trivial (two_maker_put_i3_ok h16) (by kernel_rfl) (by kernel_rfl) ?_
      refine WO_fin [0, 5, 8, 9] [1000, 2001] (fr' := [(0, .one (.ptr 1000 0)), (5, aI r1.1), (8, aI a1), (9, aI i11)]) (L' := [(1000, .cells [.slc 2001]), (2001, .seq (.pair tI (.pair tI (.pair tI tI))) r15.2)]) (by kernel_rfl) (by kernel_rfl) ?_
      refine blockQ_norm ?_
      refine seqQ_norm ?_
      obtain rfl := Option.some.inj h
      refine W_run 2 [] [0, 5, 8, 9] [1000, 2001] (fr' := [(0, .one (.ptr 1000 0)), (5, aI r1.1), (8, aI a1), (9, aI (w64 (i11 + (1 : Int))))]) (L' := [(1000, .cells [.slc 2001]), (2001, .seq (.pair tI (.pair tI (.pair tI tI))) r15.2)]) (obs := []) (by kernel_rfl) (by kernel_rfl) (by kernel_rfl) allP0 ?_
      exact round_next' (by kernel_rfl) (by kernel_rfl)
    · obtain rfl := stepI_false h14 h
      refine W_exit (id := 0) [0, 5] [1000, 2001] (fr' := [(0, .one (.ptr 1000 0)), (5, aI r1.1)]) (L' := [(1000, .cells [.slc 2001]), (2001, .seq (.pair tI (.pair tI (.pair tI tI))) x12)]) (by kernel_rfl) (by kernel_rfl) ?_
      refine seqQ_exit ?_
      refine round_exit ?_
      exact exQ_mk (by kernel_rfl) (by kernel_rfl)
  · intro e fr L hJ
    obtain ⟨rfl, rfl, rfl⟩ := hJ
    refine LT_keep [0, 5] [1000, 2001] (fr' := [(0, .one (.ptr 1000 0)), (5, aI r1.1)]) (L' := [(1000, .cells [.slc 2001]), (2001, .seq (.pair tI (.pair tI (.pair tI tI))) v18)]) (by kernel_rfl) ?_
    refine blockQ_hit ?_
    refine seqQ_norm ?_
    refine W_seq (by kernel_rfl) ?_
    obtain ⟨v22, h23, h⟩ := bind_of h
    refine W_draw3 11 [] [(27, .val (.dat (.pair tI (.pair tI (.pair tI tI))) v22))] [] [0, 5] [1000, 2001] (fr' := [(0, .one (.ptr 1000 0)), (5, aI r1.1)]) (L' := [(1000, .cells [.slc 2001]), (2001, .seq (.pair tI (.pair tI (.pair tI tI))) (List.set v18 (Int.toNat (w64 ((List.length v18 : Int) - (1 : Int)))) (v22.1, v22.2.1, r1.1, v22.2.2.2)))]) (out := [(14, .one (.ptr 1000 0)), (15, .one (.ptr 1000 0)), (16, .one (.ptr 1000 0)), (17, .one (.slc 2001)), (18, .one (.ptr 1000 0)), (19, .one (.ptr 1000 0)), (20, .one (.ptr 1000 0)), (21, .one (.slc 2001)), (22, aI (List.length v18 : Int)), (23, aI (w64 ((List.length v18 : Int) - (1 : Int)))), (24, aI r1.1)]) (obs := []) (obs2 := [InR (w64 ((List.length v18 : Int) - (1 : Int))) (List.length v18), Idx v18 (w64 ((List.length v18 : Int) - (1 : Int))) v22]) (calls := []) (by kernel_rfl) (by kernel_rfl) (by kernel_rfl) (by kernel_rfl) allP0 allC0 (by kernel_rfl) (allP2 (InR.of h23) (allP1 (Idx.of h23))) ?_
    refine seqQ_norm ?_
    refine W_seq (by kernel_rfl) ?_
    obtain ⟨v24, h25, h⟩ := bind_of h
    refine W_draw3 10 [] [(25, .val (.dat (.pair tI (.pair tI (.pair tI tI))) v24))] [] [0] [1000, 2001] (fr' := [(0, .one (.ptr 1000 0))]) (L' := [(1000, .cells [.slc 2001]), (2001, .seq (.pair tI (.pair tI (.pair tI tI))) (List.set (List.set v18 (Int.toNat (w64 ((List.length v18 : Int) - (1 : Int)))) (v22.1, v22.2.1, r1.1, v22.2.2.2)) (Int.toNat r1.1) (v24.1, v24.2.1, v24.2.2.1, (List.length (List.set v18 (Int.toNat (w64 ((List.length v18 : Int) - (1 : Int)))) (v22.1, v22.2.1, r1.1, v22.2.2.2)) : Int))))]) (out := [(27, .one (.ptr 1000 0)), (28, .one (.ptr 1000 0)), (29, .one (.ptr 1000 0)), (30, .one (.slc 2001)), (31, aI r1.1), (32, .one (.ptr 1000 0)), (33, .one (.ptr 1000 0)), (34, .one (.ptr 1000 0)), (35, .one (.slc 2001)), (36, aI (List.length (List.set v18 (Int.toNat (w64 ((List.length v18 : Int) - (1 : Int)))) (v22.1, v22.2.1, r1.1, v22.2.2.2)) : Int))]) (obs := []) (obs2 := [InR r1.1 (List.length (List.set v18 (Int.toNat (w64 ((List.length v18 : Int) - (1 : Int)))) (v22.1, v22.2.1, r1.1, v22.2.2.2))), Idx (List.set v18 (Int.toNat (w64 ((List.length v18 : Int) - (1 : Int)))) (v22.1, v22.2.1, r1.1, v22.2.2.2)) r1.1 v24]) (calls := []) (by kernel_rfl) (by kernel_rfl) (by kernel_rfl) (by kernel_rfl) allP0 allC0 (by kernel_rfl) (allP2 (InR.of h25) (allP1 (Idx.of h25))) ?_
    refine seqQ_norm ?_
    refine W_seq (by kernel_rfl) ?_
    refine W_region (by kernel_rfl) ?_
    refine WO_run (j := 1) (k := 1) (orcs := []) (kF := [39]) (kL := [1000, 2001]) (fr' := [(39, .one (.ptr 1000 0))]) (L' := [(1000, .cells [.slc 2001]), (2001, .seq (.pair tI (.pair tI (.pair tI tI))) (List.set (List.set v18 (Int.toNat (w64 ((List.length v18 : Int) - (1 : Int)))) (v22.1, v22.2.1, r1.1, v22.2.2.2)) (Int.toNat r1.1) (v24.1, v24.2.1, v24.2.2.1, (List.length (List.set v18 (Int.toNat (w64 ((List.length v18 : Int) - (1 : Int)))) (v22.1, v22.2.1, r1.1, v22.2.2.2)) : Int))))]) (obs := []) rfl (by kernel_rfl) allP0 ?_
    obtain ⟨r26, h27, h⟩ := bind_of h
    refine WO_lend2 [(1000, 1000), (2001, 2001)] (us := [none]) (d := 40) (p := True) (j := 2) rfl ⟨by kernel_rfl, by kernel_rfl, by kernel_rfl⟩ trivial (two_maker_back_i2_ok h27) (by kernel_rfl) (by kernel_rfl) ?_
    refine WO_run (j := 4) (k := 2) (orcs := []) (kF := [4]) (kL := [41, 1000, 2001]) (fr' := [(4, .one (.slc 41))]) (L' := [(41, .seq tI [r26.1]), (1000, .cells [.slc 2001]), (2001, .seq (.pair tI (.pair tI (.pair tI tI))) r26.2)]) (obs := []) rfl (by kernel_rfl) allP0 ?_
    refine WO_fin [4] [41, 1000, 2001] (fr' := [(4, .one (.slc 41))]) (L' := [(41, .seq tI [r26.1]), (1000, .cells [.slc 2001]), (2001, .seq (.pair tI (.pair tI (.pair tI tI))) r26.2)]) (by kernel_rfl) (by kernel_rfl) ?_
    refine seqQ_norm ?_
    obtain rfl := Option.some.inj h
    refine W_frz 41 (by kernel_rfl) ?_
    refine W_ret [4] [1000, 2001] (fr' := [(4, aD (.slice tI) [r26.1])]) (L' := [(1000, .cells [.slc 2001]), (2001, .seq (.pair tI (.pair tI (.pair tI tI))) r26.2)]) (by kernel_rfl) (by kernel_rfl) ?_
    exact retQ_mk (by kernel_rfl) (by kernel_rfl) (by kernel_rfl)

noncomputable def two_maker_less_i2_b1 (i10 : Int) (x11 : ((List Int) × (List (Int × (Int × (Int × Int)))))) : Option (Flow ((List Int) × (List (Int × (Int × (Int × Int))))) ((List Int) × (List (Int × (Int × (Int × Int)))))) :=
(two_maker_put_i3 (2 : Int) (0 : Int) x11.2).bind fun r14 =>
(ck ((List.length x11.1 : Int) + 1 ≤ 4294967296)).bind fun _ =>
some (.next (x11.1 ++ [r14.1], r14.2))
@[reducible] def two_maker_less_i2_s2 (a1 : Int) (c0 : (List (Int × (Int × (Int × Int))))) (v : Int × ((List Int) × (List (Int × (Int × (Int × Int)))))) : Fr × LL := ([(0, .one (.ptr 1000 0)), (1, aI a1), (6, aI (List.length c0 : Int)), (7, .one (.slc 26)), (19, aI a1), (20, aI v.1)], [(1000, .cells [.slc 2001]), (26, .seq tI v.2.1), (2001, .seq (.pair tI (.pair tI (.pair tI tI))) v.2.2)])
@[reducible] def two_maker_less_i2_s3 (a1 : Int) (c0 : (List (Int × (Int × (Int × Int))))) (v : ((List Int) × (List (Int × (Int × (Int × Int)))))) : Fr × LL := ([(0, .one (.ptr 1000 0)), (1, aI a1), (6, aI (List.length c0 : Int)), (7, .one (.slc 26))], [(1000, .cells [.slc 2001]), (26, .seq tI v.1), (2001, .seq (.pair tI (.pair tI (.pair tI tI))) v.2)])
noncomputable def two_maker_less_i2_b4 (i42 : Int) (x43 : (List (Int × (Int × (Int × Int))))) : Option (Flow (List (Int × (Int × (Int × Int)))) (List (Int × (Int × (Int × Int))))) :=
(two_maker_put_i3 (1 : Int) (0 : Int) x43).bind fun r46 =>
some (.next r46.2)
@[reducible] def two_maker_less_i2_s5 (a1 : Int) (v18 : ((List Int) × (List (Int × (Int × (Int × Int)))))) (r30 : (Int × (List (Int × (Int × (Int × Int)))))) (r32 : (Int × (List (Int × (Int × (Int × Int)))))) (v : Int × (List (Int × (Int × (Int × Int))))) : Fr × LL := ([(0, .one (.ptr 1000 0)), (1, aI a1), (7, .one (.slc 26)), (9, aI r30.1), (10, .one (.nilS)), (11, aI (List.length r30.2 : Int)), (12, aI r32.1), (61, aI a1), (62, aI v.1)], [(1000, .cells [.slc 2001]), (26, .seq tI v18.1), (2001, .seq (.pair tI (.pair tI (.pair tI tI))) v.2)])
@[reducible] def two_maker_less_i2_s6 (a1 : Int) (v18 : ((List Int) × (List (Int × (Int × (Int × Int)))))) (r30 : (Int × (List (Int × (Int × (Int × Int)))))) (r32 : (Int × (List (Int × (Int × (Int × Int)))))) (v : (List (Int × (Int × (Int × Int))))) : Fr × LL := ([(0, .one (.ptr 1000 0)), (1, aI a1), (7, .one (.slc 26)), (9, aI r30.1), (10, .one (.nilS)), (11, aI (List.length r30.2 : Int)), (12, aI r32.1)], [(1000, .cells [.slc 2001]), (26, .seq tI v18.1), (2001, .seq (.pair tI (.pair tI (.pair tI tI))) v)])
noncomputable def two_maker_less_i2_b13 (i125 : Int) (x126 : (List (Int × (Int × (Int × Int))))) : Option (Flow (List (Int × (Int × (Int × Int)))) (List (Int × (Int × (Int × Int))))) :=
(two_maker_put_i3 (1 : Int) (0 : Int) x126).bind fun r129 =>
some (.next r129.2)
@[reducible] def two_maker_less_i2_s14 (a1 : Int) (v18 : ((List Int) × (List (Int × (Int × (Int × Int)))))) (r30 : (Int × (List (Int × (Int × (Int × Int)))))) (r32 : (Int × (List (Int × (Int × (Int × Int)))))) (i109 : Int) (v : Int × (List (Int × (Int × (Int × Int))))) : Fr × LL := ([(0, .one (.ptr 1000 0)), (1, aI a1), (7, .one (.slc 26)), (9, aI r30.1), (10, .one (.slc 83)), (11, aI (List.length r30.2 : Int)), (13, aI i109), (104, aI i109), (105, aI v.1)], [(1000, .cells [.slc 2001]), (26, .seq tI v18.1), (83, .seq tI [r32.1]), (2001, .seq (.pair tI (.pair tI (.pair tI tI))) v.2)])
@[reducible] def two_maker_less_i2_s15 (a1 : Int) (v18 : ((List Int) × (List (Int × (Int × (Int × Int)))))) (r30 : (Int × (List (Int × (Int × (Int × Int)))))) (r32 : (Int × (List (Int × (Int × (Int × Int)))))) (i109 : Int) (v : (List (Int × (Int × (Int × Int))))) : Fr × LL := ([(0, .one (.ptr 1000 0)), (1, aI a1), (7, .one (.slc 26)), (9, aI r30.1), (10, .one (.slc 83)), (11, aI (List.length r30.2 : Int)), (13, aI i109)], [(1000, .cells [.slc 2001]), (26, .seq tI v18.1), (83, .seq tI [r32.1]), (2001, .seq (.pair tI (.pair tI (.pair tI tI))) v)])
noncomputable def two_maker_less_i2_b16 (v18 : ((List Int) × (List (Int × (Int × (Int × Int)))))) (r30 : (Int × (List (Int × (Int × (Int × Int)))))) (i109 : Int) (x110 : (List (Int × (Int × (Int × Int))))) : Option (Flow (List (Int × (Int × (Int × Int)))) (List (Int × (Int × (Int × Int))))) :=
(idx v18.1 i109).bind fun v113 =>
(idx x110 v113).bind fun v115 =>
(forI (0 : Int) i109 two_maker_less_i2_b13 (fun x126 => x126) (List.set x110 (Int.toNat v113) (v115.1, v115.2.1, v115.2.2.1, (List.length x110 : Int)))).bind fun v132 =>
(idx v132 (w64 ((List.length v132 : Int) - (1 : Int)))).bind fun v136 =>
some (.next (List.set v132 (Int.toNat (w64 ((List.length v132 : Int) - (1 : Int)))) (v136.1, v136.2.1, (List.length r30.2 : Int), v136.2.2.2)))
@[reducible] def two_maker_less_i2_s17 (a1 : Int) (v18 : ((List Int) × (List (Int × (Int × (Int × Int)))))) (r30 : (Int × (List (Int × (Int × (Int × Int)))))) (r32 : (Int × (List (Int × (Int × (Int × Int)))))) (v : Int × (List (Int × (Int × (Int × Int))))) : Fr × LL := ([(0, .one (.ptr 1000 0)), (1, aI a1), (7, .one (.slc 26)), (9, aI r30.1), (10, .one (.slc 83)), (11, aI (List.length r30.2 : Int)), (13, aI v.1)], [(1000, .cells [.slc 2001]), (26, .seq tI v18.1), (83, .seq tI [r32.1]), (2001, .seq (.pair tI (.pair tI (.pair tI tI))) v.2)])
@[reducible] def two_maker_less_i2_s18 (r30 : (Int × (List (Int × (Int × (Int × Int)))))) (r32 : (Int × (List (Int × (Int × (Int × Int)))))) (v : (List (Int × (Int × (Int × Int))))) : Fr × LL := ([(9, aI r30.1), (10, .one (.slc 83))], [(1000, .cells [.slc 2001]), (83, .seq tI [r32.1]), (2001, .seq (.pair tI (.pair tI (.pair tI tI))) v)])
noncomputable def two_maker_less_i2 (a1 : Int) (c0 : (List (Int × (Int × (Int × Int))))) : Option ((List Int) × (List Int) × (List (Int × (Int × (Int × Int))))) :=
(forI (0 : Int) a1 two_maker_less_i2_b1 (fun x11 => (x11.1, x11.2)) ([], c0)).bind fun v18 =>
(two_maker_put_i3 (1 : Int) (1 : Int) v18.2).bind fun r22 =>
(idx r22.2 r22.1).bind fun v24 =>
(idx v18.1 (0 : Int)).bind fun v26 =>
(idx (List.set r22.2 (Int.toNat r22.1) (v24.1, v24.2.1, (List.length c0 : Int), v24.2.2.2)) v26).bind fun v28 =>
(two_maker_back_i2 (List.set (List.set r22.2 (Int.toNat r22.1) (v24.1, v24.2.1, (List.length c0 : Int), v24.2.2.2)) (Int.toNat v26) (v28.1, v28.2.1, v28.2.2.1, (List.length (List.set r22.2 (Int.toNat r22.1) (v24.1, v24.2.1, (List.length c0 : Int), v24.2.2.2)) : Int)))).bind fun r30 =>
(two_maker_put_i3 (2 : Int) (1 : Int) r30.2).bind fun r32 =>
(forI (0 : Int) a1 two_maker_less_i2_b4 (fun x43 => x43) r32.2).bind fun v49 =>
(idx v49 (w64 ((List.length v49 : Int) - (1 : Int)))).bind fun v53 =>
(forI (1 : Int) a1 (two_maker_less_i2_b16 v18 r30) (fun x110 => x110) (List.set v49 (Int.toNat (w64 ((List.length v49 : Int) - (1 : Int)))) (v53.1, v53.2.1, r32.1, v53.2.2.2))).bind fun v139 =>
some ([r30.1], [r32.1], v139)
theorem two_maker_less_i2_ok {a1 : Int} {c0 : (List (Int × (Int × (Int × Int))))} {r : ((List Int) × (List Int) × (List (Int × (Int × (Int × Int)))))} (h : two_maker_less_i2 a1 c0 = some r) : FnC Try.prog 44 [.one (.ptr 1000 0), aI a1] [(1000, .cells [.slc 2001]), (2001, .seq (.pair tI (.pair tI (.pair tI tI))) c0)] (.tup [.dat (.slice tI) r.1, .dat (.slice tI) r.2.1]) [(1000, .cells [.slc 2001]), (2001, .seq (.pair tI (.pair tI (.pair tI tI))) r.2.2)] := by
  refine fnC_of_W (B := bodyOf Try.f44) (n := 126) Try.func44 (by kernel_rfl) (by kernel_rfl) (by kernel_rfl) (by kernel_rfl) (by kernel_rfl) ?_
  intro K
  refine W_seq (by kernel_rfl) ?_
  refine W_run 2 [] [0, 1] [1000, 2001] (fr' := [(0, .one (.ptr 1000 0)), (1, aI a1)]) (L' := [(1000, .cells [.slc 2001]), (2001, .seq (.pair tI (.pair tI (.pair tI tI))) c0)]) (obs := []) (by kernel_rfl) (by kernel_rfl) (by kernel_rfl) allP0 ?_
  refine seqQ_norm ?_
  refine W_seq (by kernel_rfl) ?_
  refine W_run 6 [] [0, 1, 6] [1000, 2001] (fr' := [(0, .one (.ptr 1000 0)), (1, aI a1), (6, aI (List.length c0 : Int))]) (L' := [(1000, .cells [.slc 2001]), (2001, .seq (.pair tI (.pair tI (.pair tI tI))) c0)]) (obs := []) (by kernel_rfl) (by kernel_rfl) (by kernel_rfl) allP0 ?_
  refine seqQ_norm ?_
  refine W_seq (by kernel_rfl) ?_
  refine W_run 1 [] [0, 1, 6, 7] [1000, 2001] (fr' := [(0, .one (.ptr 1000 0)), (1, aI a1), (6, aI (List.length c0 : Int)), (7, .one (.nilS))]) (L' := [(1000, .cells [.slc 2001]), (2001, .seq (.pair tI (.pair tI (.pair tI tI))) c0)]) (obs := []) (by kernel_rfl) (by kernel_rfl) (by kernel_rfl) allP0 ?_
  refine seqQ_norm ?_
  refine W_seq (by kernel_rfl) ?_
  refine W_seq (by kernel_rfl) ?_
  refine W_run 2 [] [0, 1, 6, 7, 19, 20] [1000, 2001] (fr' := [(0, .one (.ptr 1000 0)), (1, aI a1), (6, aI (List.length c0 : Int)), (7, .one (.nilS)), (19, aI a1), (20, aI (0 : Int))]) (L' := [(1000, .cells [.slc 2001]), (2001, .seq (.pair tI (.pair tI (.pair tI tI))) c0)]) (obs := []) (by kernel_rfl) (by kernel_rfl) (by kernel_rfl) allP0 ?_
  refine seqQ_norm ?_
  refine W_block (id := 0) (by kernel_rfl) ?_
  obtain ⟨v18, h19, h⟩ := bind_of h
  obtain ⟨h20, h21⟩ := forI_iter h19
  refine W_mine 7 26 tI (by kernel_rfl) ?_
  refine W_weaken [0, 1, 6, 7, 19, 20] [1000, 26, 2001] (fr' := ((two_maker_less_i2_s2 a1 c0) ((0 : Int), ([], c0))).1) (L' := ((two_maker_less_i2_s2 a1 c0) ((0 : Int), ([], c0))).2) (by kernel_rfl) ?_
  refine W_cutK (W_loop (S := (two_maker_less_i2_s2 a1 c0)) (J := (exQ (.exit 0) (two_maker_less_i2_s3 a1 c0))) (by kernel_rfl) ?_ h20 _ v18 h21) ?_
  · rintro ⟨i10, x11⟩ s h
    refine W_seq (by kernel_rfl) ?_
    refine W_run 1 [] [0, 1, 6, 7, 19, 20, 21] [1000, 26, 2001] (fr' := [(0, .one (.ptr 1000 0)), (1, aI a1), (6, aI (List.length c0 : Int)), (7, .one (.slc 26)), (19, aI a1), (20, aI i10), (21, aB (decide (i10 < a1)))]) (L' := [(1000, .cells [.slc 2001]), (26, .seq tI x11.1), (2001, .seq (.pair tI (.pair tI (.pair tI tI))) x11.2)]) (obs := []) (by kernel_rfl) (by kernel_rfl) (by kernel_rfl) allP0 ?_
    refine seqQ_norm ?_
    refine W_seq (by kernel_rfl) ?_
    refine W_cond (o := .tmp 21) (b := decide (i10 < a1)) (by kernel_rfl) (by kernel_rfl) (fun h13 => ?_) (fun h13 => ?_)
    · replace h := stepI_true h13 h
      obtain ⟨_, h, rfl⟩ := h
      refine W_skip [0, 1, 6, 7, 19, 20] [1000, 26, 2001] (fr' := [(0, .one (.ptr 1000 0)), (1, aI a1), (6, aI (List.length c0 : Int)), (7, .one (.slc 26)), (19, aI a1), (20, aI i10)]) (L' := [(1000, .cells [.slc 2001]), (26, .seq tI x11.1), (2001, .seq (.pair tI (.pair tI (.pair tI tI))) x11.2)]) (by kernel_rfl) (by kernel_rfl) ?_
      refine seqQ_norm ?_
      refine W_seq (by kernel_rfl) ?_
      refine W_block (id := 1) (by kernel_rfl) ?_
      refine W_region (by kernel_rfl) ?_
      refine WO_run (j := 2) (k := 2) (orcs := []) (kF := [0, 1, 6, 7, 19, 20, 22, 23]) (kL := [26, 1000, 2001]) (fr' := [(0, .one (.ptr 1000 0)), (1, aI a1), (6, aI (List.length c0 : Int)), (7, .one (.slc 26)), (19, aI a1), (20, aI i10), (22, .one (.slc 26)), (23, .one (.ptr 1000 0))]) (L' := [(26, .seq tI x11.1), (1000, .cells [.slc 2001]), (2001, .seq (.pair tI (.pair tI (.pair tI tI))) x11.2)]) (obs := []) rfl (by kernel_rfl) allP0 ?_
      obtain ⟨r14, h15, h⟩ := bind_of h
      refine WO_lend2 [(1000, 1000), (2001, 2001)] (us := [none, none, none]) (d := 24) (p := True) (j := 3) rfl ⟨by kernel_rfl, by kernel_rfl, by kernel_rfl⟩ trivial (two_maker_put_i3_ok h15) (by kernel_rfl) (by kernel_rfl) ?_
      obtain ⟨_, h16, h⟩ := bind_of h
      replace h16 := ck_some h16
      refine WO_run (j := 6) (k := 3) (orcs := []) (kF := [0, 1, 6, 7, 19, 20]) (kL := [25, 26, 1000, 2001]) (fr' := [(0, .one (.ptr 1000 0)), (1, aI a1), (6, aI (List.length c0 : Int)), (7, .one (.slc 26)), (19, aI a1), (20, aI i10)]) (L' := [(25, .seq tI [r14.1]), (26, .seq tI (x11.1 ++ [r14.1])), (1000, .cells [.slc 2001]), (2001, .seq (.pair tI (.pair tI (.pair tI tI))) r14.2)]) (obs := [SmallLen (List.length x11.1 + List.length [r14.1])]) rfl (by kernel_rfl) (allP1 h16) ?_
      refine WO_fin [0, 1, 6, 7, 19, 20] [1000, 26, 2001] (fr' := [(0, .one (.ptr 1000 0)), (1, aI a1), (6, aI (List.length c0 : Int)), (7, .one (.slc 26)), (19, aI a1), (20, aI i10)]) (L' := [(1000, .cells [.slc 2001]), (26, .seq tI (x11.1 ++ [r14.1])), (2001, .seq (.pair tI (.pair tI (.pair tI tI))) r14.2)]) (by kernel_rfl) (by kernel_rfl) ?_
      refine blockQ_norm ?_
      refine seqQ_norm ?_
      obtain rfl := Option.some.inj h
      refine W_run 2 [] [0, 1, 6, 7, 19, 20] [1000, 26, 2001] (fr' := [(0, .one (.ptr 1000 0)), (1, aI a1), (6, aI (List.length c0 : Int)), (7, .one (.slc 26)), (19, aI a1), (20, aI (w64 (i10 + (1 : Int))))]) (L' := [(1000, .cells [.slc 2001]), (26, .seq tI (x11.1 ++ [r14.1])), (2001, .seq (.pair tI (.pair tI (.pair tI tI))) r14.2)]) (obs := []) (by kernel_rfl) (by kernel_rfl) (by kernel_rfl) allP0 ?_
      exact round_next' (by kernel_rfl) (by kernel_rfl)
    · obtain rfl := stepI_false h13 h
      refine W_exit (id := 0) [0, 1, 6, 7] [1000, 26, 2001] (fr' := [(0, .one (.ptr 1000 0)), (1, aI a1), (6, aI (List.length c0 : Int)), (7, .one (.slc 26))]) (L' := [(1000, .cells [.slc 2001]), (26, .seq tI x11.1), (2001, .seq (.pair tI (.pair tI (.pair tI tI))) x11.2)]) (by kernel_rfl) (by kernel_rfl) ?_
      refine seqQ_exit ?_
      refine round_exit ?_
      exact exQ_mk (by kernel_rfl) (by kernel_rfl)
  · intro e fr L hJ
    obtain ⟨rfl, rfl, rfl⟩ := hJ
    refine LT_keep [0, 1, 6, 7] [1000, 26, 2001] (fr' := [(0, .one (.ptr 1000 0)), (1, aI a1), (6, aI (List.length c0 : Int)), (7, .one (.slc 26))]) (L' := [(1000, .cells [.slc 2001]), (26, .seq tI v18.1), (2001, .seq (.pair tI (.pair tI (.pair tI tI))) v18.2)]) (by kernel_rfl) ?_
    refine blockQ_hit ?_
    refine seqQ_norm ?_
    refine W_seq (by kernel_rfl) ?_
    refine W_region (by kernel_rfl) ?_
    refine WO_run (j := 1) (k := 1) (orcs := []) (kF := [0, 1, 6, 7, 28]) (kL := [26, 1000, 2001]) (fr' := [(0, .one (.ptr 1000 0)), (1, aI a1), (6, aI (List.length c0 : Int)), (7, .one (.slc 26)), (28, .one (.ptr 1000 0))]) (L' := [(26, .seq tI v18.1), (1000, .cells [.slc 2001]), (2001, .seq (.pair tI (.pair tI (.pair tI tI))) v18.2)]) (obs := []) rfl (by kernel_rfl) allP0 ?_
    obtain ⟨r22, h23, h⟩ := bind_of h
    refine WO_lend2 [(1000, 1000), (2001, 2001)] (us := [none, none, none]) (d := 29) (p := True) (j := 2) rfl ⟨by kernel_rfl, by kernel_rfl, by kernel_rfl⟩ trivial (two_maker_put_i3_ok h23) (by kernel_rfl) (by kernel_rfl) ?_
    refine WO_run (j := 3) (k := 1) (orcs := []) (kF := [0, 1, 6, 7, 8]) (kL := [26, 1000, 2001]) (fr' := [(0, .one (.ptr 1000 0)), (1, aI a1), (6, aI (List.length c0 : Int)), (7, .one (.slc 26)), (8, aI r22.1)]) (L' := [(26, .seq tI v18.1), (1000, .cells [.slc 2001]), (2001, .seq (.pair tI (.pair tI (.pair tI tI))) r22.2)]) (obs := []) rfl (by kernel_rfl) allP0 ?_
    refine WO_fin [0, 1, 6, 7, 8] [1000, 26, 2001] (fr' := [(0, .one (.ptr 1000 0)), (1, aI a1), (6, aI (List.length c0 : Int)), (7, .one (.slc 26)), (8, aI r22.1)]) (L' := [(1000, .cells [.slc 2001]), (26, .seq tI v18.1), (2001, .seq (.pair tI (.pair tI (.pair tI tI))) r22.2)]) (by kernel_rfl) (by kernel_rfl) ?_
    refine seqQ_norm ?_
    refine W_seq (by kernel_rfl) ?_
    obtain ⟨v24, h25, h⟩ := bind_of h
    refine W_run 9 [(17, .val (.dat (.pair tI (.pair tI (.pair tI tI))) v24))] [0, 1, 7] [1000, 26, 2001] (fr' := [(0, .one (.ptr 1000 0)), (1, aI a1), (7, .one (.slc 26))]) (L' := [(1000, .cells [.slc 2001]), (26, .seq tI v18.1), (2001, .seq (.pair tI (.pair tI (.pair tI tI))) (List.set r22.2 (Int.toNat r22.1) (v24.1, v24.2.1, (List.length c0 : Int), v24.2.2.2)))]) (obs := [InR r22.1 (List.length r22.2), Idx r22.2 r22.1 v24]) (by kernel_rfl) (by kernel_rfl) (by kernel_rfl) (allP2 (InR.of h25) (allP1 (Idx.of h25))) ?_
    refine seqQ_norm ?_
    refine W_seq (by kernel_rfl) ?_
    obtain ⟨v26, h27, h⟩ := bind_of h
    obtain ⟨v28, h29, h⟩ := bind_of h
    refine W_draw3 12 [] [(13, .val (.dat tI v26)), (29, .val (.dat (.pair tI (.pair tI (.pair tI tI))) v28))] [] [0, 1, 7] [1000, 26, 2001] (fr' := [(0, .one (.ptr 1000 0)), (1, aI a1), (7, .one (.slc 26))]) (L' := [(1000, .cells [.slc 2001]), (26, .seq tI v18.1), (2001, .seq (.pair tI (.pair tI (.pair tI tI))) (List.set (List.set r22.2 (Int.toNat r22.1) (v24.1, v24.2.1, (List.length c0 : Int), v24.2.2.2)) (Int.toNat v26) (v28.1, v28.2.1, v28.2.2.1, (List.length (List.set r22.2 (Int.toNat r22.1) (v24.1, v24.2.1, (List.length c0 : Int), v24.2.2.2)) : Int))))]) (out := [(38, .one (.ptr 1000 0)), (39, .one (.ptr 1000 0)), (40, .one (.ptr 1000 0)), (41, .one (.slc 2001)), (42, .one (.slc 26)), (43, .one (.eptr 26 1 (0 : Int) 0)), (44, aI v26), (45, .one (.ptr 1000 0)), (46, .one (.ptr 1000 0)), (47, .one (.ptr 1000 0)), (48, .one (.slc 2001)), (49, aI (List.length (List.set r22.2 (Int.toNat r22.1) (v24.1, v24.2.1, (List.length c0 : Int), v24.2.2.2)) : Int))]) (obs := [InR (0 : Int) (List.length v18.1), Idx v18.1 (0 : Int) v26]) (obs2 := [InR v26 (List.length (List.set r22.2 (Int.toNat r22.1) (v24.1, v24.2.1, (List.length c0 : Int), v24.2.2.2))), Idx (List.set r22.2 (Int.toNat r22.1) (v24.1, v24.2.1, (List.length c0 : Int), v24.2.2.2)) v26 v28]) (calls := []) (by kernel_rfl) (by kernel_rfl) (by kernel_rfl) (by kernel_rfl) (allP2 (InR.of h27) (allP1 (Idx.of h27))) allC0 (by kernel_rfl) (allP2 (InR.of h29) (allP1 (Idx.of h29))) ?_
    refine seqQ_norm ?_
    refine W_seq (by kernel_rfl) ?_
    refine W_region (by kernel_rfl) ?_
    refine WO_run (j := 1) (k := 1) (orcs := []) (kF := [0, 1, 7, 52]) (kL := [26, 1000, 2001]) (fr' := [(0, .one (.ptr 1000 0)), (1, aI a1), (7, .one (.slc 26)), (52, .one (.ptr 1000 0))]) (L' := [(26, .seq tI v18.1), (1000, .cells [.slc 2001]), (2001, .seq (.pair tI (.pair tI (.pair tI tI))) (List.set (List.set r22.2 (Int.toNat r22.1) (v24.1, v24.2.1, (List.length c0 : Int), v24.2.2.2)) (Int.toNat v26) (v28.1, v28.2.1, v28.2.2.1, (List.length (List.set r22.2 (Int.toNat r22.1) (v24.1, v24.2.1, (List.length c0 : Int), v24.2.2.2)) : Int))))]) (obs := []) rfl (by kernel_rfl) allP0 ?_
    obtain ⟨r30, h31, h⟩ := bind_of h
    refine WO_lend2 [(1000, 1000), (2001, 2001)] (us := [none]) (d := 53) (p := True) (j := 2) rfl ⟨by kernel_rfl, by kernel_rfl, by kernel_rfl⟩ trivial (two_maker_back_i2_ok h31) (by kernel_rfl) (by kernel_rfl) ?_
    refine WO_run (j := 3) (k := 1) (orcs := []) (kF := [0, 1, 7, 9]) (kL := [26, 1000, 2001]) (fr' := [(0, .one (.ptr 1000 0)), (1, aI a1), (7, .one (.slc 26)), (9, aI r30.1)]) (L' := [(26, .seq tI v18.1), (1000, .cells [.slc 2001]), (2001, .seq (.pair tI (.pair tI (.pair tI tI))) r30.2)]) (obs := []) rfl (by kernel_rfl) allP0 ?_
    refine WO_fin [0, 1, 7, 9] [1000, 26, 2001] (fr' := [(0, .one (.ptr 1000 0)), (1, aI a1), (7, .one (.slc 26)), (9, aI r30.1)]) (L' := [(1000, .cells [.slc 2001]), (26, .seq tI v18.1), (2001, .seq (.pair tI (.pair tI (.pair tI tI))) r30.2)]) (by kernel_rfl) (by kernel_rfl) ?_
    refine seqQ_norm ?_
    refine W_seq (by kernel_rfl) ?_
    refine W_run 1 [] [0, 1, 7, 9, 10] [1000, 26, 2001] (fr' := [(0, .one (.ptr 1000 0)), (1, aI a1), (7, .one (.slc 26)), (9, aI r30.1), (10, .one (.nilS))]) (L' := [(1000, .cells [.slc 2001]), (26, .seq tI v18.1), (2001, .seq (.pair tI (.pair tI (.pair tI tI))) r30.2)]) (obs := []) (by kernel_rfl) (by kernel_rfl) (by kernel_rfl) allP0 ?_
    refine seqQ_norm ?_
    refine W_seq (by kernel_rfl) ?_
    refine W_run 6 [] [0, 1, 7, 9, 10, 11] [1000, 26, 2001] (fr' := [(0, .one (.ptr 1000 0)), (1, aI a1), (7, .one (.slc 26)), (9, aI r30.1), (10, .one (.nilS)), (11, aI (List.length r30.2 : Int))]) (L' := [(1000, .cells [.slc 2001]), (26, .seq tI v18.1), (2001, .seq (.pair tI (.pair tI (.pair tI tI))) r30.2)]) (obs := []) (by kernel_rfl) (by kernel_rfl) (by kernel_rfl) allP0 ?_
    refine seqQ_norm ?_
    refine W_seq (by kernel_rfl) ?_
    refine W_region (by kernel_rfl) ?_
    refine WO_run (j := 1) (k := 1) (orcs := []) (kF := [0, 1, 7, 9, 10, 11, 59]) (kL := [26, 1000, 2001]) (fr' := [(0, .one (.ptr 1000 0)), (1, aI a1), (7, .one (.slc 26)), (9, aI r30.1), (10, .one (.nilS)), (11, aI (List.length r30.2 : Int)), (59, .one (.ptr 1000 0))]) (L' := [(26, .seq tI v18.1), (1000, .cells [.slc 2001]), (2001, .seq (.pair tI (.pair tI (.pair tI tI))) r30.2)]) (obs := []) rfl (by kernel_rfl) allP0 ?_
    obtain ⟨r32, h33, h⟩ := bind_of h
    refine WO_lend2 [(1000, 1000), (2001, 2001)] (us := [none, none, none]) (d := 60) (p := True) (j := 2) rfl ⟨by kernel_rfl, by kernel_rfl, by kernel_rfl⟩ trivial (two_maker_put_i3_ok h33) (by kernel_rfl) (by kernel_rfl) ?_
    refine WO_run (j := 3) (k := 1) (orcs := []) (kF := [0, 1, 7, 9, 10, 11, 12]) (kL := [26, 1000, 2001]) (fr' := [(0, .one (.ptr 1000 0)), (1, aI a1), (7, .one (.slc 26)), (9, aI r30.1), (10, .one (.nilS)), (11, aI (List.length r30.2 : Int)), (12, aI r32.1)]) (L' := [(26, .seq tI v18.1), (1000, .cells [.slc 2001]), (2001, .seq (.pair tI (.pair tI (.pair tI tI))) r32.2)]) (obs := []) rfl (by kernel_rfl) allP0 ?_
    refine WO_fin [0, 1, 7, 9, 10, 11, 12] [1000, 26, 2001] (fr' := [(0, .one (.ptr 1000 0)), (1, aI a1), (7, .one (.slc 26)), (9, aI r30.1), (10, .one (.nilS)), (11, aI (List.length r30.2 : Int)), (12, aI r32.1)]) (L' := [(1000, .cells [.slc 2001]), (26, .seq tI v18.1), (2001, .seq (.pair tI (.pair tI (.pair tI tI))) r32.2)]) (by kernel_rfl) (by kernel_rfl) ?_
    refine seqQ_norm ?_
    refine W_seq (by kernel_rfl) ?_
    refine W_seq (by kernel_rfl) ?_
    refine W_run 2 [] [0, 1, 7, 9, 10, 11, 12, 61, 62] [1000, 26, 2001] (fr' := [(0, .one (.ptr 1000 0)), (1, aI a1), (7, .one (.slc 26)), (9, aI r30.1), (10, .one (.nilS)), (11, aI (List.length r30.2 : Int)), (12, aI r32.1), (61, aI a1), (62, aI (0 : Int))]) (L' := [(1000, .cells [.slc 2001]), (26, .seq tI v18.1), (2001, .seq (.pair tI (.pair tI (.pair tI tI))) r32.2)]) (obs := []) (by kernel_rfl) (by kernel_rfl) (by kernel_rfl) allP0 ?_
    refine seqQ_norm ?_
    refine W_block (id := 2) (by kernel_rfl) ?_
    obtain ⟨v49, h50, h⟩ := bind_of h
    obtain ⟨h51, h52⟩ := forI_iter h50
    refine W_weaken [0, 1, 7, 9, 10, 11, 12, 61, 62] [1000, 26, 2001] (fr' := ((two_maker_less_i2_s5 a1 v18 r30 r32) ((0 : Int), r32.2)).1) (L' := ((two_maker_less_i2_s5 a1 v18 r30 r32) ((0 : Int), r32.2)).2) (by kernel_rfl) ?_
    refine W_cutK (W_loop (S := (two_maker_less_i2_s5 a1 v18 r30 r32)) (J := (exQ (.exit 2) (two_maker_less_i2_s6 a1 v18 r30 r32))) (by kernel_rfl) ?_ h51 _ v49 h52) ?_
    · rintro ⟨i42, x43⟩ s h
      refine W_seq (by kernel_rfl) ?_
      refine W_run 1 [] [0, 1, 7, 9, 10, 11, 12, 61, 62, 63] [1000, 26, 2001] (fr' := [(0, .one (.ptr 1000 0)), (1, aI a1), (7, .one (.slc 26)), (9, aI r30.1), (10, .one (.nilS)), (11, aI (List.length r30.2 : Int)), (12, aI r32.1), (61, aI a1), (62, aI i42), (63, aB (decide (i42 < a1)))]) (L' := [(1000, .cells [.slc 2001]), (26, .seq tI v18.1), (2001, .seq (.pair tI (.pair tI (.pair tI tI))) x43)]) (obs := []) (by kernel_rfl) (by kernel_rfl) (by kernel_rfl) allP0 ?_
      refine seqQ_norm ?_
      refine W_seq (by kernel_rfl) ?_
      refine W_cond (o := .tmp 63) (b := decide (i42 < a1)) (by kernel_rfl) (by kernel_rfl) (fun h45 => ?_) (fun h45 => ?_)
      · replace h := stepI_true h45 h
        obtain ⟨_, h, rfl⟩ := h
        refine W_skip [0, 1, 7, 9, 10, 11, 12, 61, 62] [1000, 26, 2001] (fr' := [(0, .one (.ptr 1000 0)), (1, aI a1), (7, .one (.slc 26)), (9, aI r30.1), (10, .one (.nilS)), (11, aI (List.length r30.2 : Int)), (12, aI r32.1), (61, aI a1), (62, aI i42)]) (L' := [(1000, .cells [.slc 2001]), (26, .seq tI v18.1), (2001, .seq (.pair tI (.pair tI (.pair tI tI))) x43)]) (by kernel_rfl) (by kernel_rfl) ?_
        refine seqQ_norm ?_
        refine W_seq (by kernel_rfl) ?_
        refine W_block (id := 3) (by kernel_rfl) ?_
        refine W_region (by kernel_rfl) ?_
        refine WO_run (j := 1) (k := 1) (orcs := []) (kF := [0, 1, 7, 9, 10, 11, 12, 61, 62, 64]) (kL := [26, 1000, 2001]) (fr' := [(0, .one (.ptr 1000 0)), (1, aI a1), (7, .one (.slc 26)), (9, aI r30.1), (10, .one (.nilS)), (11, aI (List.length r30.2 : Int)), (12, aI r32.1), (61, aI a1), (62, aI i42), (64, .one (.ptr 1000 0))]) (L' := [(26, .seq tI v18.1), (1000, .cells [.slc 2001]), (2001, .seq (.pair tI (.pair tI (.pair tI tI))) x43)]) (obs := []) rfl (by kernel_rfl) allP0 ?_
        obtain ⟨r46, h47, h⟩ := bind_of h
        refine WO_lend2 [(1000, 1000), (2001, 2001)] (us := [none, none, none]) (d := 65) (p := True) (j := 2) rfl ⟨by kernel_rfl, by kernel_rfl, by kernel_rfl⟩ trivial (two_maker_put_i3_ok h47) (by kernel_rfl) (by kernel_rfl) ?_
        refine WO_fin [0, 1, 7, 9, 10, 11, 12, 61, 62] [1000, 26, 2001] (fr' := [(0, .one (.ptr 1000 0)), (1, aI a1), (7, .one (.slc 26)), (9, aI r30.1), (10, .one (.nilS)), (11, aI (List.length r30.2 : Int)), (12, aI r32.1), (61, aI a1), (62, aI i42)]) (L' := [(1000, .cells [.slc 2001]), (26, .seq tI v18.1), (2001, .seq (.pair tI (.pair tI (.pair tI tI))) r46.2)]) (by kernel_rfl) (by kernel_rfl) ?_
        refine blockQ_norm ?_
        refine seqQ_norm ?_
        obtain rfl := Option.some.inj h
        refine W_run 2 [] [0, 1, 7, 9, 10, 11, 12, 61, 62] [1000, 26, 2001] (fr' := [(0, .one (.ptr 1000 0)), (1, aI a1), (7, .one (.slc 26)), (9, aI r30.1), (10, .one (.nilS)), (11, aI (List.length r30.2 : Int)), (12, aI r32.1), (61, aI a1), (62, aI (w64 (i42 + (1 : Int))))]) (L' := [(1000, .cells [.slc 2001]), (26, .seq tI v18.1), (2001, .seq (.pair tI (.pair tI (.pair tI tI))) r46.2)]) (obs := []) (by kernel_rfl) (by kernel_rfl) (by kernel_rfl) allP0 ?_
        exact round_next' (by kernel_rfl) (by kernel_rfl)
      · obtain rfl := stepI_false h45 h
        refine W_exit (id := 2) [0, 1, 7, 9, 10, 11, 12] [1000, 26, 2001] (fr' := [(0, .one (.ptr 1000 0)), (1, aI a1), (7, .one (.slc 26)), (9, aI r30.1), (10, .one (.nilS)), (11, aI (List.length r30.2 : Int)), (12, aI r32.1)]) (L' := [(1000, .cells [.slc 2001]), (26, .seq tI v18.1), (2001, .seq (.pair tI (.pair tI (.pair tI tI))) x43)]) (by kernel_rfl) (by kernel_rfl) ?_
        refine seqQ_exit ?_
        refine round_exit ?_
        exact exQ_mk (by kernel_rfl) (by kernel_rfl)
    · intro e fr L hJ
      obtain ⟨rfl, rfl, rfl⟩ := hJ
      refine LT_keep [0, 1, 7, 9, 10, 11, 12] [1000, 26, 2001] (fr' := [(0, .one (.ptr 1000 0)), (1, aI a1), (7, .one (.slc 26)), (9, aI r30.1), (10, .one (.nilS)), (11, aI (List.length r30.2 : Int)), (12, aI r32.1)]) (L' := [(1000, .cells [.slc 2001]), (26, .seq tI v18.1), (2001, .seq (.pair tI (.pair tI (.pair tI tI))) v49)]) (by kernel_rfl) ?_
      refine blockQ_hit ?_
      refine seqQ_norm ?_
      refine W_seq (by kernel_rfl) ?_
      obtain ⟨v53, h54, h⟩ := bind_of h
      refine W_draw3 11 [] [(27, .val (.dat (.pair tI (.pair tI (.pair tI tI))) v53))] [] [0, 1, 7, 9, 10, 11, 12] [1000, 26, 2001] (fr' := [(0, .one (.ptr 1000 0)), (1, aI a1), (7, .one (.slc 26)), (9, aI r30.1), (10, .one (.nilS)), (11, aI (List.length r30.2 : Int)), (12, aI r32.1)]) (L' := [(1000, .cells [.slc 2001]), (26, .seq tI v18.1), (2001, .seq (.pair tI (.pair tI (.pair tI tI))) (List.set v49 (Int.toNat (w64 ((List.length v49 : Int) - (1 : Int)))) (v53.1, v53.2.1, r32.1, v53.2.2.2)))]) (out := [(67, .one (.ptr 1000 0)), (68, .one (.ptr 1000 0)), (69, .one (.ptr 1000 0)), (70, .one (.slc 2001)), (71, .one (.ptr 1000 0)), (72, .one (.ptr 1000 0)), (73, .one (.ptr 1000 0)), (74, .one (.slc 2001)), (75, aI (List.length v49 : Int)), (76, aI (w64 ((List.length v49 : Int) - (1 : Int)))), (77, aI r32.1)]) (obs := []) (obs2 := [InR (w64 ((List.length v49 : Int) - (1 : Int))) (List.length v49), Idx v49 (w64 ((List.length v49 : Int) - (1 : Int))) v53]) (calls := []) (by kernel_rfl) (by kernel_rfl) (by kernel_rfl) (by kernel_rfl) allP0 allC0 (by kernel_rfl) (allP2 (InR.of h54) (allP1 (Idx.of h54))) ?_
      refine seqQ_norm ?_
      refine W_seq (by kernel_rfl) ?_
      refine W_run 5 [] [0, 1, 7, 9, 10, 11] [1000, 26, 83, 2001] (fr' := [(0, .one (.ptr 1000 0)), (1, aI a1), (7, .one (.slc 26)), (9, aI r30.1), (10, .one (.slc 83)), (11, aI (List.length r30.2 : Int))]) (L' := [(1000, .cells [.slc 2001]), (26, .seq tI v18.1), (83, .seq tI [r32.1]), (2001, .seq (.pair tI (.pair tI (.pair tI tI))) (List.set v49 (Int.toNat (w64 ((List.length v49 : Int) - (1 : Int)))) (v53.1, v53.2.1, r32.1, v53.2.2.2)))]) (obs := [SmallLen (List.length [r32.1])]) (by kernel_rfl) (by kernel_rfl) (by kernel_rfl) (allP1 (by unfold SmallLen; exact of_decide_eq_true (by kernel_rfl))) ?_
      refine seqQ_norm ?_
      refine W_seq (by kernel_rfl) ?_
      refine W_seq (by kernel_rfl) ?_
      refine W_run 1 [] [0, 1, 7, 9, 10, 11, 13] [1000, 26, 83, 2001] (fr' := [(0, .one (.ptr 1000 0)), (1, aI a1), (7, .one (.slc 26)), (9, aI r30.1), (10, .one (.slc 83)), (11, aI (List.length r30.2 : Int)), (13, aI (1 : Int))]) (L' := [(1000, .cells [.slc 2001]), (26, .seq tI v18.1), (83, .seq tI [r32.1]), (2001, .seq (.pair tI (.pair tI (.pair tI tI))) (List.set v49 (Int.toNat (w64 ((List.length v49 : Int) - (1 : Int)))) (v53.1, v53.2.1, r32.1, v53.2.2.2)))]) (obs := []) (by kernel_rfl) (by kernel_rfl) (by kernel_rfl) allP0 ?_
      refine seqQ_norm ?_
      refine W_block (id := 4) (by kernel_rfl) ?_
      obtain ⟨v139, h140, h⟩ := bind_of h
      obtain ⟨h141, h142⟩ := forI_iter h140
      refine W_weaken [0, 1, 7, 9, 10, 11, 13] [1000, 26, 83, 2001] (fr' := ((two_maker_less_i2_s17 a1 v18 r30 r32) ((1 : Int), List.set v49 (Int.toNat (w64 ((List.length v49 : Int) - (1 : Int)))) (v53.1, v53.2.1, r32.1, v53.2.2.2))).1) (L' := ((two_maker_less_i2_s17 a1 v18 r30 r32) ((1 : Int), List.set v49 (Int.toNat (w64 ((List.length v49 : Int) - (1 : Int)))) (v53.1, v53.2.1, r32.1, v53.2.2.2))).2) (by kernel_rfl) ?_
      refine W_cutK (W_loop (S := (two_maker_less_i2_s17 a1 v18 r30 r32)) (J := (exQ (.exit 4) (two_maker_less_i2_s18 r30 r32))) (by kernel_rfl) ?_ h141 _ v139 h142) ?_
      · rintro ⟨i109, x110⟩ s h
        refine W_seq (by kernel_rfl) ?_
        refine W_seq (by kernel_rfl) ?_
        refine W_run 3 [] [0, 1, 7, 9, 10, 11, 13, 86] [1000, 26, 83, 2001] (fr' := [(0, .one (.ptr 1000 0)), (1, aI a1), (7, .one (.slc 26)), (9, aI r30.1), (10, .one (.slc 83)), (11, aI (List.length r30.2 : Int)), (13, aI i109), (86, aB (decide (i109 < a1)))]) (L' := [(1000, .cells [.slc 2001]), (26, .seq tI v18.1), (83, .seq tI [r32.1]), (2001, .seq (.pair tI (.pair tI (.pair tI tI))) x110)]) (obs := []) (by kernel_rfl) (by kernel_rfl) (by kernel_rfl) allP0 ?_
        refine seqQ_norm ?_
        refine W_cond (o := .tmp 86) (b := decide (i109 < a1)) (by kernel_rfl) (by kernel_rfl) (fun h112 => ?_) (fun h112 => ?_)
        · replace h := stepI_true h112 h
          obtain ⟨_, h, rfl⟩ := h
          refine W_skip [0, 1, 7, 9, 10, 11, 13] [1000, 26, 83, 2001] (fr' := [(0, .one (.ptr 1000 0)), (1, aI a1), (7, .one (.slc 26)), (9, aI r30.1), (10, .one (.slc 83)), (11, aI (List.length r30.2 : Int)), (13, aI i109)]) (L' := [(1000, .cells [.slc 2001]), (26, .seq tI v18.1), (83, .seq tI [r32.1]), (2001, .seq (.pair tI (.pair tI (.pair tI tI))) x110)]) (by kernel_rfl) (by kernel_rfl) ?_
          refine seqQ_norm ?_
          refine W_seq (by kernel_rfl) ?_
          refine W_block (id := 5) (by kernel_rfl) ?_
          refine W_seq (by kernel_rfl) ?_
          obtain ⟨v113, h114, h⟩ := bind_of h
          obtain ⟨v115, h116, h⟩ := bind_of h
          refine W_draw3 13 [] [(15, .val (.dat tI v113)), (31, .val (.dat (.pair tI (.pair tI (.pair tI tI))) v115))] [] [0, 1, 7, 9, 10, 11, 13] [1000, 26, 83, 2001] (fr' := [(0, .one (.ptr 1000 0)), (1, aI a1), (7, .one (.slc 26)), (9, aI r30.1), (10, .one (.slc 83)), (11, aI (List.length r30.2 : Int)), (13, aI i109)]) (L' := [(1000, .cells [.slc 2001]), (26, .seq tI v18.1), (83, .seq tI [r32.1]), (2001, .seq (.pair tI (.pair tI (.pair tI tI))) (List.set x110 (Int.toNat v113) (v115.1, v115.2.1, v115.2.2.1, (List.length x110 : Int))))]) (out := [(89, .one (.ptr 1000 0)), (90, .one (.ptr 1000 0)), (91, .one (.ptr 1000 0)), (92, .one (.slc 2001)), (93, .one (.slc 26)), (94, aI i109), (95, .one (.eptr 26 1 i109 0)), (96, aI v113), (97, .one (.ptr 1000 0)), (98, .one (.ptr 1000 0)), (99, .one (.ptr 1000 0)), (100, .one (.slc 2001)), (101, aI (List.length x110 : Int))]) (obs := [InR i109 (List.length v18.1), Idx v18.1 i109 v113]) (obs2 := [InR v113 (List.length x110), Idx x110 v113 v115]) (calls := []) (by kernel_rfl) (by kernel_rfl) (by kernel_rfl) (by kernel_rfl) (allP2 (InR.of h114) (allP1 (Idx.of h114))) allC0 (by kernel_rfl) (allP2 (InR.of h116) (allP1 (Idx.of h116))) ?_
          refine seqQ_norm ?_
          refine W_seq (by kernel_rfl) ?_
          refine W_seq (by kernel_rfl) ?_
          refine W_run 2 [] [0, 1, 7, 9, 10, 11, 13, 104, 105] [1000, 26, 83, 2001] (fr' := [(0, .one (.ptr 1000 0)), (1, aI a1), (7, .one (.slc 26)), (9, aI r30.1), (10, .one (.slc 83)), (11, aI (List.length r30.2 : Int)), (13, aI i109), (104, aI i109), (105, aI (0 : Int))]) (L' := [(1000, .cells [.slc 2001]), (26, .seq tI v18.1), (83, .seq tI [r32.1]), (2001, .seq (.pair tI (.pair tI (.pair tI tI))) (List.set x110 (Int.toNat v113) (v115.1, v115.2.1, v115.2.2.1, (List.length x110 : Int))))]) (obs := []) (by kernel_rfl) (by kernel_rfl) (by kernel_rfl) allP0 ?_
          refine seqQ_norm ?_
          refine W_block (id := 6) (by kernel_rfl) ?_
          obtain ⟨v132, h133, h⟩ := bind_of h
          obtain ⟨h134, h135⟩ := forI_iter h133
          refine W_weaken [0, 1, 7, 9, 10, 11, 13, 104, 105] [1000, 26, 83, 2001] (fr' := ((two_maker_less_i2_s14 a1 v18 r30 r32 i109) ((0 : Int), List.set x110 (Int.toNat v113) (v115.1, v115.2.1, v115.2.2.1, (List.length x110 : Int)))).1) (L' := ((two_maker_less_i2_s14 a1 v18 r30 r32 i109) ((0 : Int), List.set x110 (Int.toNat v113) (v115.1, v115.2.1, v115.2.2.1, (List.length x110 : Int)))).2) (by kernel_rfl) ?_
          refine W_cutK (W_loop (S := (two_maker_less_i2_s14 a1 v18 r30 r32 i109)) (J := (exQ (.exit 6) (two_maker_less_i2_s15 a1 v18 r30 r32 i109))) (by kernel_rfl) ?_ h134 _ v132 h135) ?_
          · rintro ⟨i125, x126⟩ s h
            refine W_seq (by kernel_rfl) ?_
            refine W_run 1 [] [0, 1, 7, 9, 10, 11, 13, 104, 105, 106] [1000, 26, 83, 2001] (fr' := [(0, .one (.ptr 1000 0)), (1, aI a1), (7, .one (.slc 26)), (9, aI r30.1), (10, .one (.slc 83)), (11, aI (List.length r30.2 : Int)), (13, aI i109), (104, aI i109), (105, aI i125), (106, aB (decide (i125 < i109)))]) (L' := [(1000, .cells [.slc 2001]), (26, .seq tI v18.1), (83, .seq tI [r32.1]), (2001, .seq (.pair tI (.pair tI (.pair tI tI))) x126)]) (obs := []) (by kernel_rfl) (by kernel_rfl) (by kernel_rfl) allP0 ?_
            refine seqQ_norm ?_
            refine W_seq (by kernel_rfl) ?_
            refine W_cond (o := .tmp 106) (b := decide (i125 < i109)) (by kernel_rfl) (by kernel_rfl) (fun h128 => ?_) (fun h128 => ?_)
            · replace h := stepI_true h128 h
              obtain ⟨_, h, rfl⟩ := h
              refine W_skip [0, 1, 7, 9, 10, 11, 13, 104, 105] [1000, 26, 83, 2001] (fr' := [(0, .one (.ptr 1000 0)), (1, aI a1), (7, .one (.slc 26)), (9, aI r30.1), (10, .one (.slc 83)), (11, aI (List.length r30.2 : Int)), (13, aI i109), (104, aI i109), (105, aI i125)]) (L' := [(1000, .cells [.slc 2001]), (26, .seq tI v18.1), (83, .seq tI [r32.1]), (2001, .seq (.pair tI (.pair tI (.pair tI tI))) x126)]) (by kernel_rfl) (by kernel_rfl) ?_
              refine seqQ_norm ?_
              refine W_seq (by kernel_rfl) ?_
              refine W_block (id := 7) (by kernel_rfl) ?_
              refine W_region (by kernel_rfl) ?_
              refine WO_run (j := 1) (k := 1) (orcs := []) (kF := [0, 1, 7, 9, 10, 11, 13, 104, 105, 107]) (kL := [26, 83, 1000, 2001]) (fr' := [(0, .one (.ptr 1000 0)), (1, aI a1), (7, .one (.slc 26)), (9, aI r30.1), (10, .one (.slc 83)), (11, aI (List.length r30.2 : Int)), (13, aI i109), (104, aI i109), (105, aI i125), (107, .one (.ptr 1000 0))]) (L' := [(26, .seq tI v18.1), (83, .seq tI [r32.1]), (1000, .cells [.slc 2001]), (2001, .seq (.pair tI (.pair tI (.pair tI tI))) x126)]) (obs := []) rfl (by kernel_rfl) allP0 ?_
              obtain ⟨r129, h130, h⟩ := bind_of h
              refine WO_lend2 [(1000, 1000), (2001, 2001)] (us := [none, none, none]) (d := 108) (p := True) (j := 2) rfl ⟨by kernel_rfl, by kernel_rfl, by kernel_rfl⟩ trivial (two_maker_put_i3_ok h130) (by kernel_rfl) (by kernel_rfl) ?_
              refine WO_fin [0, 1, 7, 9, 10, 11, 13, 104, 105] [1000, 26, 83, 2001] (fr' := [(0, .one (.ptr 1000 0)), (1, aI a1), (7, .one (.slc 26)), (9, aI r30.1), (10, .one (.slc 83)), (11, aI (List.length r30.2 : Int)), (13, aI i109), (104, aI i109), (105, aI i125)]) (L' := [(1000, .cells [.slc 2001]), (26, .seq tI v18.1), (83, .seq tI [r32.1]), (2001, .seq (.pair tI (.pair tI (.pair tI tI))) r129.2)]) (by kernel_rfl) (by kernel_rfl) ?_
              refine blockQ_norm ?_
              refine seqQ_norm ?_
              obtain rfl := Option.some.inj h
              refine W_run 2 [] [0, 1, 7, 9, 10, 11, 13, 104, 105] [1000, 26, 83, 2001] (fr' := [(0, .one (.ptr 1000 0)), (1, aI a1), (7, .one (.slc 26)), (9, aI r30.1), (10, .one (.slc 83)), (11, aI (List.length r30.2 : Int)), (13, aI i109), (104, aI i109), (105, aI (w64 (i125 + (1 : Int))))]) (L' := [(1000, .cells [.slc 2001]), (26, .seq tI v18.1), (83, .seq tI [r32.1]), (2001, .seq (.pair tI (.pair tI (.pair tI tI))) r129.2)]) (obs := []) (by kernel_rfl) (by kernel_rfl) (by kernel_rfl) allP0 ?_
              exact round_next' (by kernel_rfl) (by kernel_rfl)
            · obtain rfl := stepI_false h128 h
              refine W_exit (id := 6) [0, 1, 7, 9, 10, 11, 13] [1000, 26, 83, 2001] (fr' := [(0, .one (.ptr 1000 0)), (1, aI a1), (7, .one (.slc 26)), (9, aI r30.1), (10, .one (.slc 83)), (11, aI (List.length r30.2 : Int)), (13, aI i109)]) (L' := [(1000, .cells [.slc 2001]), (26, .seq tI v18.1), (83, .seq tI [r32.1]), (2001, .seq (.pair tI (.pair tI (.pair tI tI))) x126)]) (by kernel_rfl) (by kernel_rfl) ?_
              refine seqQ_exit ?_
              refine round_exit ?_
              exact exQ_mk (by kernel_rfl) (by kernel_rfl)
          · intro e fr L hJ
            obtain ⟨rfl, rfl, rfl⟩ := hJ
            refine LT_keep [0, 1, 7, 9, 10, 11, 13] [1000, 26, 83, 2001] (fr' := [(0, .one (.ptr 1000 0)), (1, aI a1), (7, .one (.slc 26)), (9, aI r30.1), (10, .one (.slc 83)), (11, aI (List.length r30.2 : Int)), (13, aI i109)]) (L' := [(1000, .cells [.slc 2001]), (26, .seq tI v18.1), (83, .seq tI [r32.1]), (2001, .seq (.pair tI (.pair tI (.pair tI tI))) v132)]) (by kernel_rfl) ?_
            refine blockQ_hit ?_
            refine seqQ_norm ?_
            obtain ⟨v136, h137, h⟩ := bind_of h
            refine W_draw3 11 [] [(27, .val (.dat (.pair tI (.pair tI (.pair tI tI))) v136))] [] [0, 1, 7, 9, 10, 11, 13] [1000, 26, 83, 2001] (fr' := [(0, .one (.ptr 1000 0)), (1, aI a1), (7, .one (.slc 26)), (9, aI r30.1), (10, .one (.slc 83)), (11, aI (List.length r30.2 : Int)), (13, aI i109)]) (L' := [(1000, .cells [.slc 2001]), (26, .seq tI v18.1), (83, .seq tI [r32.1]), (2001, .seq (.pair tI (.pair tI (.pair tI tI))) (List.set v132 (Int.toNat (w64 ((List.length v132 : Int) - (1 : Int)))) (v136.1, v136.2.1, (List.length r30.2 : Int), v136.2.2.2)))]) (out := [(110, .one (.ptr 1000 0)), (111, .one (.ptr 1000 0)), (112, .one (.ptr 1000 0)), (113, .one (.slc 2001)), (114, .one (.ptr 1000 0)), (115, .one (.ptr 1000 0)), (116, .one (.ptr 1000 0)), (117, .one (.slc 2001)), (118, aI (List.length v132 : Int)), (119, aI (w64 ((List.length v132 : Int) - (1 : Int)))), (120, aI (List.length r30.2 : Int))]) (obs := []) (obs2 := [InR (w64 ((List.length v132 : Int) - (1 : Int))) (List.length v132), Idx v132 (w64 ((List.length v132 : Int) - (1 : Int))) v136]) (calls := []) (by kernel_rfl) (by kernel_rfl) (by kernel_rfl) (by kernel_rfl) allP0 allC0 (by kernel_rfl) (allP2 (InR.of h137) (allP1 (Idx.of h137))) ?_
            refine blockQ_norm ?_
            refine seqQ_norm ?_
            obtain rfl := Option.some.inj h
            refine W_run 3 [] [0, 1, 7, 9, 10, 11, 13] [1000, 26, 83, 2001] (fr' := [(0, .one (.ptr 1000 0)), (1, aI a1), (7, .one (.slc 26)), (9, aI r30.1), (10, .one (.slc 83)), (11, aI (List.length r30.2 : Int)), (13, aI (w64 (i109 + (1 : Int))))]) (L' := [(1000, .cells [.slc 2001]), (26, .seq tI v18.1), (83, .seq tI [r32.1]), (2001, .seq (.pair tI (.pair tI (.pair tI tI))) (List.set v132 (Int.toNat (w64 ((List.length v132 : Int) - (1 : Int)))) (v136.1, v136.2.1, (List.length r30.2 : Int), v136.2.2.2)))]) (obs := []) (by kernel_rfl) (by kernel_rfl) (by kernel_rfl) allP0 ?_
            exact round_next' (by kernel_rfl) (by kernel_rfl)
        · obtain rfl := stepI_false h112 h
          refine W_exit (id := 4) [9, 10] [1000, 83, 2001] (fr' := [(9, aI r30.1), (10, .one (.slc 83))]) (L' := [(1000, .cells [.slc 2001]), (83, .seq tI [r32.1]), (2001, .seq (.pair tI (.pair tI (.pair tI tI))) x110)]) (by kernel_rfl) (by kernel_rfl) ?_
          refine seqQ_exit ?_
          refine round_exit ?_
          exact exQ_mk (by kernel_rfl) (by kernel_rfl)
      · intro e fr L hJ
        obtain ⟨rfl, rfl, rfl⟩ := hJ
        refine LT_keep [9, 10] [83, 1000, 2001] (fr' := [(9, aI r30.1), (10, .one (.slc 83))]) (L' := [(83, .seq tI [r32.1]), (1000, .cells [.slc 2001]), (2001, .seq (.pair tI (.pair tI (.pair tI tI))) v139)]) (by kernel_rfl) ?_
        refine blockQ_hit ?_
        refine seqQ_norm ?_
        refine W_seq (by kernel_rfl) ?_
        refine W_run 5 [] [4, 5] [124, 83, 1000, 2001] (fr' := [(4, .one (.slc 124)), (5, .one (.slc 83))]) (L' := [(124, .seq tI [r30.1]), (83, .seq tI [r32.1]), (1000, .cells [.slc 2001]), (2001, .seq (.pair tI (.pair tI (.pair tI tI))) v139)]) (obs := []) (by kernel_rfl) (by kernel_rfl) (by kernel_rfl) allP0 ?_
        refine seqQ_norm ?_
        obtain rfl := Option.some.inj h
        refine W_frz 124 (by kernel_rfl) ?_
        refine W_frz 83 (by kernel_rfl) ?_
        refine W_ret [4, 5] [1000, 2001] (fr' := [(4, aD (.slice tI) [r30.1]), (5, aD (.slice tI) [r32.1])]) (L' := [(1000, .cells [.slc 2001]), (2001, .seq (.pair tI (.pair tI (.pair tI tI))) v139)]) (by kernel_rfl) (by kernel_rfl) ?_
        exact retQ_mk (by kernel_rfl) (by kernel_rfl) (by kernel_rfl)

noncomputable def two_Build_b77 (v480 : (Int × (Int × (Int × Int)))) (i653 : Int) (v656 : Int) (x654 : (Option (List (Int × Int)))) : Option (Flow (Option (List (Int × Int))) (Option (List (Int × Int)))) :=
(ck (Option.isSome x654 = true)).bind fun _ =>
some (.next (Option.map (fun l => mPut (deqT tI) l v656 v480.2.2.1) x654))
@[reducible] def two_Build_s78 (a1 : (List (Int × (Int × (Int × Int))))) (i477 : Int) (x478 : ((List Int) × (Option (List (Int × Int))) × (List (Int × (Int × (Int × Int)))))) (v480 : (Int × (Int × (Int × Int)))) (r641 : ((List Int) × (List (Int × (Int × (Int × Int)))))) (v : Int × (Option (List (Int × Int)))) : Fr × LL := ([(8, .one (.ptr 31 0)), (9, .one (.slc 46)), (10, .one (.slc 32)), (12, .one (.ptr 12 0)), (33, aD (.slice (.pair tI (.pair tI (.pair tI tI)))) a1), (34, aI (List.length a1 : Int)), (35, aI i477), (55, aD (.slice tI) r641.1), (56, aI (List.length r641.1 : Int)), (57, aI v.1)], [(31, .cells [.slc 998]), (12, .cells [.dat tI v480.1, .dat tI v480.2.1, .dat tI v480.2.2.1, .dat tI v480.2.2.2]), (46, .seq tI (x478.1 ++ [(List.length x478.2.2 : Int)])), (32, .map tI tI v.2), (998, .seq (.pair tI (.pair tI (.pair tI tI))) r641.2)])
@[reducible] def two_Build_s79 (a1 : (List (Int × (Int × (Int × Int))))) (i477 : Int) (x478 : ((List Int) × (Option (List (Int × Int))) × (List (Int × (Int × (Int × Int)))))) (r641 : ((List Int) × (List (Int × (Int × (Int × Int)))))) (v : (Option (List (Int × Int)))) : Fr × LL := ([(8, .one (.ptr 31 0)), (9, .one (.slc 46)), (10, .one (.slc 32)), (33, aD (.slice (.pair tI (.pair tI (.pair tI tI)))) a1), (34, aI (List.length a1 : Int)), (35, aI i477)], [(31, .cells [.slc 998]), (46, .seq tI (x478.1 ++ [(List.length x478.2.2 : Int)])), (32, .map tI tI v), (998, .seq (.pair tI (.pair tI (.pair tI tI))) r641.2)])
noncomputable def two_Build_b80 (v480 : (Int × (Int × (Int × Int)))) (i678 : Int) (v681 : Int) (x679 : (Option (List (Int × Int)))) : Option (Flow (Option (List (Int × Int))) (Option (List (Int × Int)))) :=
(ck (Option.isSome x679 = true)).bind fun _ =>
some (.next (Option.map (fun l => mPut (deqT tI) l v681 v480.2.2.1) x679))
@[reducible] def two_Build_s81 (a1 : (List (Int × (Int × (Int × Int))))) (i477 : Int) (x478 : ((List Int) × (Option (List (Int × Int))) × (List (Int × (Int × (Int × Int)))))) (v480 : (Int × (Int × (Int × Int)))) (r666 : ((List Int) × (List Int) × (List (Int × (Int × (Int × Int)))))) (v : Int × (Option (List (Int × Int)))) : Fr × LL := ([(8, .one (.ptr 31 0)), (9, .one (.slc 46)), (10, .one (.slc 32)), (12, .one (.ptr 12 0)), (17, aD (.slice tI) r666.2.1), (33, aD (.slice (.pair tI (.pair tI (.pair tI tI)))) a1), (34, aI (List.length a1 : Int)), (35, aI i477), (72, aD (.slice tI) r666.1), (73, aI (List.length r666.1 : Int)), (74, aI v.1)], [(31, .cells [.slc 998]), (12, .cells [.dat tI v480.1, .dat tI v480.2.1, .dat tI v480.2.2.1, .dat tI v480.2.2.2]), (46, .seq tI (x478.1 ++ [(List.length x478.2.2 : Int)])), (32, .map tI tI v.2), (998, .seq (.pair tI (.pair tI (.pair tI tI))) r666.2.2)])
@[reducible] def two_Build_s82 (a1 : (List (Int × (Int × (Int × Int))))) (i477 : Int) (x478 : ((List Int) × (Option (List (Int × Int))) × (List (Int × (Int × (Int × Int)))))) (v480 : (Int × (Int × (Int × Int)))) (r666 : ((List Int) × (List Int) × (List (Int × (Int × (Int × Int)))))) (v : (Option (List (Int × Int)))) : Fr × LL := ([(8, .one (.ptr 31 0)), (9, .one (.slc 46)), (10, .one (.slc 32)), (12, .one (.ptr 12 0)), (17, aD (.slice tI) r666.2.1), (33, aD (.slice (.pair tI (.pair tI (.pair tI tI)))) a1), (34, aI (List.length a1 : Int)), (35, aI i477)], [(31, .cells [.slc 998]), (12, .cells [.dat tI v480.1, .dat tI v480.2.1, .dat tI v480.2.2.1, .dat tI v480.2.2.2]), (46, .seq tI (x478.1 ++ [(List.length x478.2.2 : Int)])), (32, .map tI tI v), (998, .seq (.pair tI (.pair tI (.pair tI tI))) r666.2.2)])
noncomputable def two_Build_b83 (v480 : (Int × (Int × (Int × Int)))) (i701 : Int) (v704 : Int) (x702 : (Option (List (Int × Int)))) : Option (Flow (Option (List (Int × Int))) (Option (List (Int × Int)))) :=
(ck (Option.isSome x702 = true)).bind fun _ =>
some (.next (Option.map (fun l => mPut (deqT tI) l v704 v480.2.2.2) x702))
@[reducible] def two_Build_s84 (a1 : (List (Int × (Int × (Int × Int))))) (i477 : Int) (x478 : ((List Int) × (Option (List (Int × Int))) × (List (Int × (Int × (Int × Int)))))) (v480 : (Int × (Int × (Int × Int)))) (r666 : ((List Int) × (List Int) × (List (Int × (Int × (Int × Int)))))) (v : Int × (Option (List (Int × Int)))) : Fr × LL := ([(8, .one (.ptr 31 0)), (9, .one (.slc 46)), (10, .one (.slc 32)), (12, .one (.ptr 12 0)), (33, aD (.slice (.pair tI (.pair tI (.pair tI tI)))) a1), (34, aI (List.length a1 : Int)), (35, aI i477), (83, aD (.slice tI) r666.2.1), (84, aI (List.length r666.2.1 : Int)), (85, aI v.1)], [(31, .cells [.slc 998]), (12, .cells [.dat tI v480.1, .dat tI v480.2.1, .dat tI v480.2.2.1, .dat tI v480.2.2.2]), (46, .seq tI (x478.1 ++ [(List.length x478.2.2 : Int)])), (32, .map tI tI v.2), (998, .seq (.pair tI (.pair tI (.pair tI tI))) r666.2.2)])
@[reducible] def two_Build_s85 (a1 : (List (Int × (Int × (Int × Int))))) (i477 : Int) (x478 : ((List Int) × (Option (List (Int × Int))) × (List (Int × (Int × (Int × Int)))))) (r666 : ((List Int) × (List Int) × (List (Int × (Int × (Int × Int)))))) (v : (Option (List (Int × Int)))) : Fr × LL := ([(8, .one (.ptr 31 0)), (9, .one (.slc 46)), (10, .one (.slc 32)), (33, aD (.slice (.pair tI (.pair tI (.pair tI tI)))) a1), (34, aI (List.length a1 : Int)), (35, aI i477)], [(31, .cells [.slc 998]), (46, .seq tI (x478.1 ++ [(List.length x478.2.2 : Int)])), (32, .map tI tI v), (998, .seq (.pair tI (.pair tI (.pair tI tI))) r666.2.2)])
noncomputable def two_Build_g86 (x478 : ((List Int) × (Option (List (Int × Int))) × (List (Int × (Int × (Int × Int)))))) (v480 : (Int × (Int × (Int × Int)))) : Option ((Option (List (Int × Int))) × (List (Int × (Int × (Int × Int))))) :=
(ck ((List.length x478.1 : Int) + 1 ≤ 4294967296)).bind fun _ =>
(two_prime v480.2.1).bind fun r638 =>
bif v480.1 == (1 : Int) then
((two_maker_more_i3 r638 x478.2.2).bind fun r641 =>
(forL (two_Build_b77 v480) (fun x654 => x654) r641.1 0 x478.2.1).bind fun v661 =>
some (v661, r641.2))
else
((two_maker_less_i2 r638 x478.2.2).bind fun r666 =>
(forL (two_Build_b80 v480) (fun x679 => x679) r666.1 0 x478.2.1).bind fun v686 =>
(forL (two_Build_b83 v480) (fun x702 => x702) r666.2.1 0 v686).bind fun v709 =>
some (v709, r666.2.2))
@[reducible] def two_Build_s87 (a1 : (List (Int × (Int × (Int × Int))))) (i477 : Int) (x478 : ((List Int) × (Option (List (Int × Int))) × (List (Int × (Int × (Int × Int)))))) (v : ((Option (List (Int × Int))) × (List (Int × (Int × (Int × Int)))))) : Fr × LL := ([(8, .one (.ptr 31 0)), (9, .one (.slc 46)), (10, .one (.slc 32)), (33, aD (.slice (.pair tI (.pair tI (.pair tI tI)))) a1), (34, aI (List.length a1 : Int)), (35, aI i477)], [(31, .cells [.slc 998]), (46, .seq tI (x478.1 ++ [(List.length x478.2.2 : Int)])), (32, .map tI tI v.1), (998, .seq (.pair tI (.pair tI (.pair tI tI))) v.2)])
noncomputable def two_Build_b88 (i477 : Int) (v480 : (Int × (Int × (Int × Int)))) (x478 : ((List Int) × (Option (List (Int × Int))) × (List (Int × (Int × (Int × Int)))))) : Option (Flow ((List Int) × (Option (List (Int × Int))) × (List (Int × (Int × (Int × Int))))) ((List Int) × (Option (List (Int × Int))) × (List (Int × (Int × (Int × Int)))))) :=
(two_Build_g86 x478 v480).bind fun v714 =>
some (.next (x478.1 ++ [(List.length x478.2.2 : Int)], v714.1, v714.2))
@[reducible] def two_Build_s89 (a1 : (List (Int × (Int × (Int × Int))))) (v : Int × ((List Int) × (Option (List (Int × Int))) × (List (Int × (Int × (Int × Int)))))) : Fr × LL := ([(8, .one (.ptr 31 0)), (9, .one (.slc 46)), (10, .one (.slc 32)), (33, aD (.slice (.pair tI (.pair tI (.pair tI tI)))) a1), (34, aI (List.length a1 : Int)), (35, aI v.1)], [(31, .cells [.slc 998]), (46, .seq tI v.2.1), (32, .map tI tI v.2.2.1), (998, .seq (.pair tI (.pair tI (.pair tI tI))) v.2.2.2)])
@[reducible] def two_Build_s90 (v : ((List Int) × (Option (List (Int × Int))) × (List (Int × (Int × (Int × Int)))))) : Fr × LL := ([(8, .one (.ptr 31 0)), (9, .one (.slc 46)), (10, .one (.slc 32))], [(31, .cells [.slc 998]), (46, .seq tI v.1), (32, .map tI tI v.2.1), (998, .seq (.pair tI (.pair tI (.pair tI tI))) v.2.2)])
noncomputable def two_Build_b91 (v717 : ((List Int) × (Option (List (Int × Int))) × (List (Int × (Int × (Int × Int)))))) (p734 : Int × Int) (x740 : (List (Int × (Int × (Int × Int))))) : Option (List (Int × (Int × (Int × Int)))) :=
(idx (v717.1 ++ [(List.length v717.2.2 : Int)]) p734.2).bind fun v745 =>
(idx x740 p734.1).bind fun v747 =>
some (List.set x740 (Int.toNat p734.1) (v747.1, v747.2.1, v747.2.2.1, v745))
@[reducible] def two_Build_s92 (v717 : ((List Int) × (Option (List (Int × Int))) × (List (Int × (Int × (Int × Int)))))) (bm725 : Nat) (bi726 : Nat) (ck727 : Nat) (es728 : Array MapEntry) (sn730 : Array Nat) (v : (List (Int × (Int × (Int × Int))))) : Fr × LL := ([(8, .one (.ptr 31 0)), (9, .one (.slc 46)), (104, .one (.ptr 104 0))], [(31, .cells [.slc 998]), (46, .seq tI (v717.1 ++ [(List.length v717.2.2 : Int)])), (104, .raw bi726 (.mapIter (some bm725) ck727 sn730 ck727)), (998, .seq (.pair tI (.pair tI (.pair tI tI))) v), (32, .raw bm725 (.map es728 ck727))])
@[reducible] def two_Build_s93 (v717 : ((List Int) × (Option (List (Int × Int))) × (List (Int × (Int × (Int × Int)))))) (l723 : List (Int × Int)) (v : (List (Int × (Int × (Int × Int))))) : Fr × LL := ([(8, .one (.ptr 31 0)), (9, .one (.slc 46))], [(31, .cells [.slc 998]), (46, .seq tI (v717.1 ++ [(List.length v717.2.2 : Int)])), (998, .seq (.pair tI (.pair tI (.pair tI tI))) v), (32, .map tI tI (some l723 : Option (List (Int × Int))))])
noncomputable def two_Build (a0 : Int) (a1 : (List (Int × (Int × (Int × Int))))) : Option ((List (Int × (Int × (Int × Int)))) × (List Int) × Int) :=
(count_Check a0 a1).bind fun r1 =>
bif r1 != (0 : Int) then
(some ([], [], r1))
else
((forL two_Build_b88 (fun x478 => (x478.1, x478.2.1, x478.2.2)) a1 0 ([], (some [] : Option (List (Int × Int))), [])).bind fun v717 =>
(ck ((List.length v717.1 : Int) + 1 ≤ 4294967296)).bind fun _ =>
(v717.2.1).bind fun l723 =>
(rangeM (two_Build_b91 v717) l723 v717.2.2).bind fun v749 =>
some (v749, v717.1 ++ [(List.length v717.2.2 : Int)], (0 : Int)))
theorem two_Build_ok {a0 : Int} {a1 : (List (Int × (Int × (Int × Int))))} {r : ((List (Int × (Int × (Int × Int)))) × (List Int) × Int)} (h : two_Build a0 a1 = some r) : FnC Try.prog 23 [aI a0, aD (.slice (.pair tI (.pair tI (.pair tI tI)))) a1] [] (.tup [.dat (.slice (.pair tI (.pair tI (.pair tI tI)))) r.1, .dat (.slice tI) r.2.1, .dat tI r.2.2]) [] := by
  refine fnC_of_W (B := bodyOf Try.f23) (n := 126) Try.func23 (by kernel_rfl) (by kernel_rfl) (by kernel_rfl) (by kernel_rfl) (by kernel_rfl) ?_
  intro K
  refine W_seq (by kernel_rfl) ?_
  refine W_run 3 [] [0, 1] [] (fr' := [(0, aI a0), (1, aD (.slice (.pair tI (.pair tI (.pair tI tI)))) a1)]) (L' := []) (obs := []) (by kernel_rfl) (by kernel_rfl) (by kernel_rfl) allP0 ?_
  refine seqQ_norm ?_
  refine W_seq (by kernel_rfl) ?_
  refine W_seq (by kernel_rfl) ?_
  refine W_region (by kernel_rfl) ?_
  refine WO_run (j := 2) (k := 2) (orcs := []) (kF := [1, 24, 25]) (kL := []) (fr' := [(1, aD (.slice (.pair tI (.pair tI (.pair tI tI)))) a1), (24, aI a0), (25, aD (.slice (.pair tI (.pair tI (.pair tI tI)))) a1)]) (L' := []) (obs := []) rfl (by kernel_rfl) allP0 ?_
  obtain ⟨r1, h2, h⟩ := bind_of h
  refine WO_call0 (us := [none, none]) (d := 26) (p := True) (j := 3) rfl ⟨by kernel_rfl, by kernel_rfl, by kernel_rfl⟩ trivial (count_Check_ok h2) (by kernel_rfl) ?_
  refine WO_run (j := 4) (k := 1) (orcs := []) (kF := [1, 7]) (kL := []) (fr' := [(1, aD (.slice (.pair tI (.pair tI (.pair tI tI)))) a1), (7, aI r1)]) (L' := []) (obs := []) rfl (by kernel_rfl) allP0 ?_
  refine WO_fin [1, 7] [] (fr' := [(1, aD (.slice (.pair tI (.pair tI (.pair tI tI)))) a1), (7, aI r1)]) (L' := []) (by kernel_rfl) (by kernel_rfl) ?_
  refine seqQ_norm ?_
  refine W_seq (by kernel_rfl) ?_
  refine W_run 2 [] [1, 7, 28] [] (fr' := [(1, aD (.slice (.pair tI (.pair tI (.pair tI tI)))) a1), (7, aI r1), (28, aB (r1 != (0 : Int)))]) (L' := []) (obs := []) (by kernel_rfl) (by kernel_rfl) (by kernel_rfl) allP0 ?_
  refine seqQ_norm ?_
  refine W_cond (o := .tmp 28) (b := r1 != (0 : Int)) (by kernel_rfl) (by kernel_rfl) (fun h3 => ?_) (fun h3 => ?_)
  · replace h := ofT h3 h
    refine W_seq (by kernel_rfl) ?_
    refine W_run 4 [] [4, 5, 6] [] (fr' := [(4, .one (.nilS)), (5, .one (.nilS)), (6, aI r1)]) (L' := []) (obs := []) (by kernel_rfl) (by kernel_rfl) (by kernel_rfl) allP0 ?_
    refine seqQ_norm ?_
    obtain rfl := Option.some.inj h
    refine W_cnv 4 (.slice (.pair tI (.pair tI (.pair tI tI)))) (by kernel_rfl) ?_
    refine W_cnv 5 (.slice tI) (by kernel_rfl) ?_
    refine W_ret [4, 5, 6] [] (fr' := [(4, aD (.slice (.pair tI (.pair tI (.pair tI tI)))) []), (5, aD (.slice tI) []), (6, aI r1)]) (L' := []) (by kernel_rfl) (by kernel_rfl) ?_
    refine seqQ_ret ?_
    exact retQ_mk (by kernel_rfl) (by kernel_rfl) (by kernel_rfl)
  · replace h := ofF h3 h
    refine W_skip [1] [] (fr' := [(1, aD (.slice (.pair tI (.pair tI (.pair tI tI)))) a1)]) (L' := []) (by kernel_rfl) (by kernel_rfl) ?_
    refine seqQ_norm ?_
    refine W_seq (by kernel_rfl) ?_
    refine W_run 3 [(1, .val .nilP)] [1, 8] [31] (fr' := [(1, aD (.slice (.pair tI (.pair tI (.pair tI tI)))) a1), (8, .one (.ptr 31 0))]) (L' := [(31, .cells [.nilS])]) (obs := []) (by kernel_rfl) (by kernel_rfl) (by kernel_rfl) allP0 ?_
    refine seqQ_norm ?_
    refine W_seq (by kernel_rfl) ?_
    refine W_run 1 [] [1, 8, 9] [31] (fr' := [(1, aD (.slice (.pair tI (.pair tI (.pair tI tI)))) a1), (8, .one (.ptr 31 0)), (9, .one (.nilS))]) (L' := [(31, .cells [.nilS])]) (obs := []) (by kernel_rfl) (by kernel_rfl) (by kernel_rfl) allP0 ?_
    refine seqQ_norm ?_
    refine W_seq (by kernel_rfl) ?_
    refine W_run 2 [] [1, 8, 9, 10] [31, 32] (fr' := [(1, aD (.slice (.pair tI (.pair tI (.pair tI tI)))) a1), (8, .one (.ptr 31 0)), (9, .one (.nilS)), (10, .one (.slc 32))]) (L' := [(31, .cells [.nilS]), (32, .map tI tI (some [] : Option (List (Int × Int))))]) (obs := []) (by kernel_rfl) (by kernel_rfl) (by kernel_rfl) allP0 ?_
    refine seqQ_norm ?_
    refine W_seq (by kernel_rfl) ?_
    refine W_seq (by kernel_rfl) ?_
    refine W_run 3 [] [8, 9, 10, 33, 34, 35] [31, 32] (fr' := [(8, .one (.ptr 31 0)), (9, .one (.nilS)), (10, .one (.slc 32)), (33, aD (.slice (.pair tI (.pair tI (.pair tI tI)))) a1), (34, aI (List.length a1 : Int)), (35, aI (0 : Int))]) (L' := [(31, .cells [.nilS]), (32, .map tI tI (some [] : Option (List (Int × Int))))]) (obs := []) (by kernel_rfl) (by kernel_rfl) (by kernel_rfl) allP0 ?_
    refine seqQ_norm ?_
    refine W_block (id := 0) (by kernel_rfl) ?_
    obtain ⟨v717, h718, h⟩ := bind_of h
    refine W_len (t := 33) (u := (.pair tI (.pair tI (.pair tI tI)))) (xs := a1) (by kernel_rfl) (fun h721 => ?_)
    obtain ⟨h719, h720⟩ := forL_iter h721 h718
    refine W_mine 9 46 tI (by kernel_rfl) ?_
    refine W_cellown 31 0 998 (.pair tI (.pair tI (.pair tI tI))) (by kernel_rfl) ?_
    refine W_weaken [8, 9, 10, 33, 34, 35] [31, 46, 32, 998] (fr' := ((two_Build_s89 a1) ((0 : Int), ([], (some [] : Option (List (Int × Int))), []))).1) (L' := ((two_Build_s89 a1) ((0 : Int), ([], (some [] : Option (List (Int × Int))), []))).2) (by kernel_rfl) ?_
    refine W_cutK (W_loop (S := (two_Build_s89 a1)) (J := (exQ (.exit 0) two_Build_s90)) (by kernel_rfl) ?_ h719 _ v717 h720) ?_
    · rintro ⟨i477, x478⟩ s h
      refine W_seq (by kernel_rfl) ?_
      refine W_run 1 [] [8, 9, 10, 33, 34, 35, 36] [31, 46, 32, 998] (fr' := [(8, .one (.ptr 31 0)), (9, .one (.slc 46)), (10, .one (.slc 32)), (33, aD (.slice (.pair tI (.pair tI (.pair tI tI)))) a1), (34, aI (List.length a1 : Int)), (35, aI i477), (36, aB (decide (i477 < (List.length a1 : Int))))]) (L' := [(31, .cells [.slc 998]), (46, .seq tI x478.1), (32, .map tI tI x478.2.1), (998, .seq (.pair tI (.pair tI (.pair tI tI))) x478.2.2)]) (obs := []) (by kernel_rfl) (by kernel_rfl) (by kernel_rfl) allP0 ?_
      refine seqQ_norm ?_
      refine W_seq (by kernel_rfl) ?_
      refine W_cond (o := .tmp 36) (b := decide (i477 < (List.length a1 : Int))) (by kernel_rfl) (by kernel_rfl) (fun h482 => ?_) (fun h482 => ?_)
      · replace h := stepL_true h482 h
        obtain ⟨v480, _, h481, h, rfl⟩ := h
        refine W_skip [8, 9, 10, 33, 34, 35] [31, 46, 32, 998] (fr' := [(8, .one (.ptr 31 0)), (9, .one (.slc 46)), (10, .one (.slc 32)), (33, aD (.slice (.pair tI (.pair tI (.pair tI tI)))) a1), (34, aI (List.length a1 : Int)), (35, aI i477)]) (L' := [(31, .cells [.slc 998]), (46, .seq tI x478.1), (32, .map tI tI x478.2.1), (998, .seq (.pair tI (.pair tI (.pair tI tI))) x478.2.2)]) (by kernel_rfl) (by kernel_rfl) ?_
        refine seqQ_norm ?_
        refine W_seq (by kernel_rfl) ?_
        obtain ⟨v714, h715, h⟩ := bind_of h
        refine W_cutK (Q' := (exQ .normal (two_Build_s87 a1 i477 x478)) v714) ?_ ?_
        · replace h := h715
          refine W_block (id := 1) (by kernel_rfl) ?_
          refine W_seq (by kernel_rfl) ?_
          refine W_run 4 [(1, .val (.dat (.pair tI (.pair tI (.pair tI tI))) v480))] [8, 9, 10, 12, 33, 34, 35] [31, 46, 32, 12, 998] (fr' := [(8, .one (.ptr 31 0)), (9, .one (.slc 46)), (10, .one (.slc 32)), (12, .one (.ptr 12 0)), (33, aD (.slice (.pair tI (.pair tI (.pair tI tI)))) a1), (34, aI (List.length a1 : Int)), (35, aI i477)]) (L' := [(31, .cells [.slc 998]), (46, .seq tI x478.1), (32, .map tI tI x478.2.1), (12, .cells [.dat tI v480.1, .dat tI v480.2.1, .dat tI v480.2.2.1, .dat tI v480.2.2.2]), (998, .seq (.pair tI (.pair tI (.pair tI tI))) x478.2.2)]) (obs := [Idx a1 i477 v480, True]) (by kernel_rfl) (by kernel_rfl) (by kernel_rfl) (allP2 (Idx.of h481) (allP1 trivial)) ?_
          refine seqQ_norm ?_
          refine W_seq (by kernel_rfl) ?_
          obtain ⟨_, h637, h⟩ := bind_of h
          replace h637 := ck_some h637
          refine W_run 9 [] [8, 9, 10, 12, 33, 34, 35] [31, 46, 32, 12, 998] (fr' := [(8, .one (.ptr 31 0)), (9, .one (.slc 46)), (10, .one (.slc 32)), (12, .one (.ptr 12 0)), (33, aD (.slice (.pair tI (.pair tI (.pair tI tI)))) a1), (34, aI (List.length a1 : Int)), (35, aI i477)]) (L' := [(31, .cells [.slc 998]), (46, .seq tI (x478.1 ++ [(List.length x478.2.2 : Int)])), (32, .map tI tI x478.2.1), (12, .cells [.dat tI v480.1, .dat tI v480.2.1, .dat tI v480.2.2.1, .dat tI v480.2.2.2]), (998, .seq (.pair tI (.pair tI (.pair tI tI))) x478.2.2)]) (obs := [SmallLen (List.length x478.1 + List.length [(List.length x478.2.2 : Int)])]) (by kernel_rfl) (by kernel_rfl) (by kernel_rfl) (allP1 h637) ?_
          refine seqQ_norm ?_
          refine W_seq (by kernel_rfl) ?_
          refine W_region (by kernel_rfl) ?_
          refine WO_run (j := 2) (k := 2) (orcs := []) (kF := [8, 9, 10, 12, 33, 34, 35, 48]) (kL := [12, 31, 32, 46, 998]) (fr' := [(8, .one (.ptr 31 0)), (9, .one (.slc 46)), (10, .one (.slc 32)), (12, .one (.ptr 12 0)), (33, aD (.slice (.pair tI (.pair tI (.pair tI tI)))) a1), (34, aI (List.length a1 : Int)), (35, aI i477), (48, aI v480.2.1)]) (L' := [(12, .cells [.dat tI v480.1, .dat tI v480.2.1, .dat tI v480.2.2.1, .dat tI v480.2.2.2]), (31, .cells [.slc 998]), (32, .map tI tI x478.2.1), (46, .seq tI (x478.1 ++ [(List.length x478.2.2 : Int)])), (998, .seq (.pair tI (.pair tI (.pair tI tI))) x478.2.2)]) (obs := []) rfl (by kernel_rfl) allP0 ?_
          obtain ⟨r638, h639, h⟩ := bind_of h
          refine WO_call0 (us := [none]) (d := 49) (p := True) (j := 3) rfl ⟨by kernel_rfl, by kernel_rfl, by kernel_rfl⟩ trivial (two_prime_ok h639) (by kernel_rfl) ?_
          refine WO_run (j := 4) (k := 1) (orcs := []) (kF := [8, 9, 10, 12, 13, 33, 34, 35]) (kL := [12, 31, 32, 46, 998]) (fr' := [(8, .one (.ptr 31 0)), (9, .one (.slc 46)), (10, .one (.slc 32)), (12, .one (.ptr 12 0)), (13, aI r638), (33, aD (.slice (.pair tI (.pair tI (.pair tI tI)))) a1), (34, aI (List.length a1 : Int)), (35, aI i477)]) (L' := [(12, .cells [.dat tI v480.1, .dat tI v480.2.1, .dat tI v480.2.2.1, .dat tI v480.2.2.2]), (31, .cells [.slc 998]), (32, .map tI tI x478.2.1), (46, .seq tI (x478.1 ++ [(List.length x478.2.2 : Int)])), (998, .seq (.pair tI (.pair tI (.pair tI tI))) x478.2.2)]) (obs := []) rfl (by kernel_rfl) allP0 ?_
          refine WO_fin [8, 9, 10, 12, 13, 33, 34, 35] [31, 46, 32, 12, 998] (fr' := [(8, .one (.ptr 31 0)), (9, .one (.slc 46)), (10, .one (.slc 32)), (12, .one (.ptr 12 0)), (13, aI r638), (33, aD (.slice (.pair tI (.pair tI (.pair tI tI)))) a1), (34, aI (List.length a1 : Int)), (35, aI i477)]) (L' := [(31, .cells [.slc 998]), (46, .seq tI (x478.1 ++ [(List.length x478.2.2 : Int)])), (32, .map tI tI x478.2.1), (12, .cells [.dat tI v480.1, .dat tI v480.2.1, .dat tI v480.2.2.1, .dat tI v480.2.2.2]), (998, .seq (.pair tI (.pair tI (.pair tI tI))) x478.2.2)]) (by kernel_rfl) (by kernel_rfl) ?_
          refine seqQ_norm ?_
          refine W_seq (by kernel_rfl) ?_
          refine W_seq (by kernel_rfl) ?_
          refine W_run 3 [] [8, 9, 10, 12, 13, 33, 34, 35, 52] [31, 46, 32, 12, 998] (fr' := [(8, .one (.ptr 31 0)), (9, .one (.slc 46)), (10, .one (.slc 32)), (12, .one (.ptr 12 0)), (13, aI r638), (33, aD (.slice (.pair tI (.pair tI (.pair tI tI)))) a1), (34, aI (List.length a1 : Int)), (35, aI i477), (52, aB (v480.1 == (1 : Int)))]) (L' := [(31, .cells [.slc 998]), (46, .seq tI (x478.1 ++ [(List.length x478.2.2 : Int)])), (32, .map tI tI x478.2.1), (12, .cells [.dat tI v480.1, .dat tI v480.2.1, .dat tI v480.2.2.1, .dat tI v480.2.2.2]), (998, .seq (.pair tI (.pair tI (.pair tI tI))) x478.2.2)]) (obs := []) (by kernel_rfl) (by kernel_rfl) (by kernel_rfl) allP0 ?_
          refine seqQ_norm ?_
          refine W_cond (o := .tmp 52) (b := v480.1 == (1 : Int)) (by kernel_rfl) (by kernel_rfl) (fun h640 => ?_) (fun h640 => ?_)
          · replace h := ofT h640 h
            refine W_seq (by kernel_rfl) ?_
            refine W_seq (by kernel_rfl) ?_
            refine W_region (by kernel_rfl) ?_
            refine WO_run (j := 2) (k := 2) (orcs := []) (kF := [8, 9, 10, 12, 33, 34, 35, 53, 54]) (kL := [12, 31, 32, 46, 998]) (fr' := [(8, .one (.ptr 31 0)), (9, .one (.slc 46)), (10, .one (.slc 32)), (12, .one (.ptr 12 0)), (33, aD (.slice (.pair tI (.pair tI (.pair tI tI)))) a1), (34, aI (List.length a1 : Int)), (35, aI i477), (53, .one (.ptr 31 0)), (54, aI r638)]) (L' := [(12, .cells [.dat tI v480.1, .dat tI v480.2.1, .dat tI v480.2.2.1, .dat tI v480.2.2.2]), (31, .cells [.slc 998]), (32, .map tI tI x478.2.1), (46, .seq tI (x478.1 ++ [(List.length x478.2.2 : Int)])), (998, .seq (.pair tI (.pair tI (.pair tI tI))) x478.2.2)]) (obs := []) rfl (by kernel_rfl) allP0 ?_
            obtain ⟨r641, h642, h⟩ := bind_of h
            refine WO_lend2 [(1000, 31), (2001, 998)] (us := [none, none]) (d := 55) (p := True) (j := 3) rfl ⟨by kernel_rfl, by kernel_rfl, by kernel_rfl⟩ trivial (two_maker_more_i3_ok h642) (by kernel_rfl) (by kernel_rfl) ?_
            refine WO_run (j := 5) (k := 2) (orcs := []) (kF := [8, 9, 10, 12, 33, 34, 35, 55, 56, 57]) (kL := [12, 31, 32, 46, 998]) (fr' := [(8, .one (.ptr 31 0)), (9, .one (.slc 46)), (10, .one (.slc 32)), (12, .one (.ptr 12 0)), (33, aD (.slice (.pair tI (.pair tI (.pair tI tI)))) a1), (34, aI (List.length a1 : Int)), (35, aI i477), (55, aD (.slice tI) r641.1), (56, aI (List.length r641.1 : Int)), (57, aI (0 : Int))]) (L' := [(12, .cells [.dat tI v480.1, .dat tI v480.2.1, .dat tI v480.2.2.1, .dat tI v480.2.2.2]), (31, .cells [.slc 998]), (32, .map tI tI x478.2.1), (46, .seq tI (x478.1 ++ [(List.length x478.2.2 : Int)])), (998, .seq (.pair tI (.pair tI (.pair tI tI))) r641.2)]) (obs := []) rfl (by kernel_rfl) allP0 ?_
            refine WO_fin [8, 9, 10, 12, 33, 34, 35, 55, 56, 57] [31, 46, 32, 12, 998] (fr' := [(8, .one (.ptr 31 0)), (9, .one (.slc 46)), (10, .one (.slc 32)), (12, .one (.ptr 12 0)), (33, aD (.slice (.pair tI (.pair tI (.pair tI tI)))) a1), (34, aI (List.length a1 : Int)), (35, aI i477), (55, aD (.slice tI) r641.1), (56, aI (List.length r641.1 : Int)), (57, aI (0 : Int))]) (L' := [(31, .cells [.slc 998]), (46, .seq tI (x478.1 ++ [(List.length x478.2.2 : Int)])), (32, .map tI tI x478.2.1), (12, .cells [.dat tI v480.1, .dat tI v480.2.1, .dat tI v480.2.2.1, .dat tI v480.2.2.2]), (998, .seq (.pair tI (.pair tI (.pair tI tI))) r641.2)]) (by kernel_rfl) (by kernel_rfl) ?_
            refine seqQ_norm ?_
            refine W_block (id := 2) (by kernel_rfl) ?_
            obtain ⟨v661, h662, h⟩ := bind_of h
            refine W_len (t := 55) (u := tI) (xs := r641.1) (by kernel_rfl) (fun h665 => ?_)
            obtain ⟨h663, h664⟩ := forL_iter h665 h662
            refine W_weaken [8, 9, 10, 12, 33, 34, 35, 55, 56, 57] [31, 12, 46, 32, 998] (fr' := ((two_Build_s78 a1 i477 x478 v480 r641) ((0 : Int), x478.2.1)).1) (L' := ((two_Build_s78 a1 i477 x478 v480 r641) ((0 : Int), x478.2.1)).2) (by kernel_rfl) ?_
            refine W_cutK (W_loop (S := (two_Build_s78 a1 i477 x478 v480 r641)) (J := (exQ (.exit 2) (two_Build_s79 a1 i477 x478 r641))) (by kernel_rfl) ?_ h663 _ v661 h664) ?_
            · rintro ⟨i653, x654⟩ s h
              refine W_seq (by kernel_rfl) ?_
              refine W_run 1 [] [8, 9, 10, 12, 33, 34, 35, 55, 56, 57, 58] [31, 46, 32, 12, 998] (fr' := [(8, .one (.ptr 31 0)), (9, .one (.slc 46)), (10, .one (.slc 32)), (12, .one (.ptr 12 0)), (33, aD (.slice (.pair tI (.pair tI (.pair tI tI)))) a1), (34, aI (List.length a1 : Int)), (35, aI i477), (55, aD (.slice tI) r641.1), (56, aI (List.length r641.1 : Int)), (57, aI i653), (58, aB (decide (i653 < (List.length r641.1 : Int))))]) (L' := [(31, .cells [.slc 998]), (46, .seq tI (x478.1 ++ [(List.length x478.2.2 : Int)])), (32, .map tI tI x654), (12, .cells [.dat tI v480.1, .dat tI v480.2.1, .dat tI v480.2.2.1, .dat tI v480.2.2.2]), (998, .seq (.pair tI (.pair tI (.pair tI tI))) r641.2)]) (obs := []) (by kernel_rfl) (by kernel_rfl) (by kernel_rfl) allP0 ?_
              refine seqQ_norm ?_
              refine W_seq (by kernel_rfl) ?_
              refine W_cond (o := .tmp 58) (b := decide (i653 < (List.length r641.1 : Int))) (by kernel_rfl) (by kernel_rfl) (fun h658 => ?_) (fun h658 => ?_)
              · replace h := stepL_true h658 h
                obtain ⟨v656, _, h657, h, rfl⟩ := h
                refine W_skip [8, 9, 10, 12, 33, 34, 35, 55, 56, 57] [31, 46, 32, 12, 998] (fr' := [(8, .one (.ptr 31 0)), (9, .one (.slc 46)), (10, .one (.slc 32)), (12, .one (.ptr 12 0)), (33, aD (.slice (.pair tI (.pair tI (.pair tI tI)))) a1), (34, aI (List.length a1 : Int)), (35, aI i477), (55, aD (.slice tI) r641.1), (56, aI (List.length r641.1 : Int)), (57, aI i653)]) (L' := [(31, .cells [.slc 998]), (46, .seq tI (x478.1 ++ [(List.length x478.2.2 : Int)])), (32, .map tI tI x654), (12, .cells [.dat tI v480.1, .dat tI v480.2.1, .dat tI v480.2.2.1, .dat tI v480.2.2.2]), (998, .seq (.pair tI (.pair tI (.pair tI tI))) r641.2)]) (by kernel_rfl) (by kernel_rfl) ?_
                refine seqQ_norm ?_
                refine W_seq (by kernel_rfl) ?_
                refine W_block (id := 3) (by kernel_rfl) ?_
                refine W_seq (by kernel_rfl) ?_
                refine W_run 3 [(1, .val (.dat tI v656))] [8, 9, 10, 12, 15, 33, 34, 35, 55, 56, 57] [31, 46, 32, 12, 998] (fr' := [(8, .one (.ptr 31 0)), (9, .one (.slc 46)), (10, .one (.slc 32)), (12, .one (.ptr 12 0)), (15, aI v656), (33, aD (.slice (.pair tI (.pair tI (.pair tI tI)))) a1), (34, aI (List.length a1 : Int)), (35, aI i477), (55, aD (.slice tI) r641.1), (56, aI (List.length r641.1 : Int)), (57, aI i653)]) (L' := [(31, .cells [.slc 998]), (46, .seq tI (x478.1 ++ [(List.length x478.2.2 : Int)])), (32, .map tI tI x654), (12, .cells [.dat tI v480.1, .dat tI v480.2.1, .dat tI v480.2.2.1, .dat tI v480.2.2.2]), (998, .seq (.pair tI (.pair tI (.pair tI tI))) r641.2)]) (obs := [Idx r641.1 i653 v656]) (by kernel_rfl) (by kernel_rfl) (by kernel_rfl) (allP1 (Idx.of h657)) ?_
                refine seqQ_norm ?_
                obtain ⟨_, h659, h⟩ := bind_of h
                replace h659 := ck_some h659
                refine W_run 5 [] [8, 9, 10, 12, 33, 34, 35, 55, 56, 57] [31, 46, 32, 12, 998] (fr' := [(8, .one (.ptr 31 0)), (9, .one (.slc 46)), (10, .one (.slc 32)), (12, .one (.ptr 12 0)), (33, aD (.slice (.pair tI (.pair tI (.pair tI tI)))) a1), (34, aI (List.length a1 : Int)), (35, aI i477), (55, aD (.slice tI) r641.1), (56, aI (List.length r641.1 : Int)), (57, aI i653)]) (L' := [(31, .cells [.slc 998]), (46, .seq tI (x478.1 ++ [(List.length x478.2.2 : Int)])), (32, .map tI tI (Option.map (fun l => mPut (deqT tI) l v656 v480.2.2.1) x654)), (12, .cells [.dat tI v480.1, .dat tI v480.2.1, .dat tI v480.2.2.1, .dat tI v480.2.2.2]), (998, .seq (.pair tI (.pair tI (.pair tI tI))) r641.2)]) (obs := [Option.isSome x654 = true]) (by kernel_rfl) (by kernel_rfl) (by kernel_rfl) (allP1 h659) ?_
                refine blockQ_norm ?_
                refine seqQ_norm ?_
                obtain rfl := Option.some.inj h
                refine W_run 2 [] [8, 9, 10, 12, 33, 34, 35, 55, 56, 57] [31, 12, 46, 32, 998] (fr' := [(8, .one (.ptr 31 0)), (9, .one (.slc 46)), (10, .one (.slc 32)), (12, .one (.ptr 12 0)), (33, aD (.slice (.pair tI (.pair tI (.pair tI tI)))) a1), (34, aI (List.length a1 : Int)), (35, aI i477), (55, aD (.slice tI) r641.1), (56, aI (List.length r641.1 : Int)), (57, aI (w64 (i653 + (1 : Int))))]) (L' := [(31, .cells [.slc 998]), (12, .cells [.dat tI v480.1, .dat tI v480.2.1, .dat tI v480.2.2.1, .dat tI v480.2.2.2]), (46, .seq tI (x478.1 ++ [(List.length x478.2.2 : Int)])), (32, .map tI tI (Option.map (fun l => mPut (deqT tI) l v656 v480.2.2.1) x654)), (998, .seq (.pair tI (.pair tI (.pair tI tI))) r641.2)]) (obs := []) (by kernel_rfl) (by kernel_rfl) (by kernel_rfl) allP0 ?_
                exact round_next' (by kernel_rfl) (by kernel_rfl)
              · obtain rfl := stepL_false h658 h
                refine W_exit (id := 2) [8, 9, 10, 33, 34, 35] [31, 46, 32, 998] (fr' := [(8, .one (.ptr 31 0)), (9, .one (.slc 46)), (10, .one (.slc 32)), (33, aD (.slice (.pair tI (.pair tI (.pair tI tI)))) a1), (34, aI (List.length a1 : Int)), (35, aI i477)]) (L' := [(31, .cells [.slc 998]), (46, .seq tI (x478.1 ++ [(List.length x478.2.2 : Int)])), (32, .map tI tI x654), (998, .seq (.pair tI (.pair tI (.pair tI tI))) r641.2)]) (by kernel_rfl) (by kernel_rfl) ?_
                refine seqQ_exit ?_
                refine round_exit ?_
                exact exQ_mk (by kernel_rfl) (by kernel_rfl)
            · intro e fr L hJ
              obtain ⟨rfl, rfl, rfl⟩ := hJ
              refine LT_keep [8, 9, 10, 33, 34, 35] [31, 46, 32, 998] (fr' := [(8, .one (.ptr 31 0)), (9, .one (.slc 46)), (10, .one (.slc 32)), (33, aD (.slice (.pair tI (.pair tI (.pair tI tI)))) a1), (34, aI (List.length a1 : Int)), (35, aI i477)]) (L' := [(31, .cells [.slc 998]), (46, .seq tI (x478.1 ++ [(List.length x478.2.2 : Int)])), (32, .map tI tI v661), (998, .seq (.pair tI (.pair tI (.pair tI tI))) r641.2)]) (by kernel_rfl) ?_
              refine blockQ_hit ?_
              refine seqQ_norm ?_
              obtain rfl := Option.some.inj h
              refine W_exit (id := 1) [8, 9, 10, 33, 34, 35] [31, 46, 32, 998] (fr' := [(8, .one (.ptr 31 0)), (9, .one (.slc 46)), (10, .one (.slc 32)), (33, aD (.slice (.pair tI (.pair tI (.pair tI tI)))) a1), (34, aI (List.length a1 : Int)), (35, aI i477)]) (L' := [(31, .cells [.slc 998]), (46, .seq tI (x478.1 ++ [(List.length x478.2.2 : Int)])), (32, .map tI tI v661), (998, .seq (.pair tI (.pair tI (.pair tI tI))) r641.2)]) (by kernel_rfl) (by kernel_rfl) ?_
              refine seqQ_exit ?_
              refine blockQ_hit ?_
              exact exQ_mk (by kernel_rfl) (by kernel_rfl)
          · replace h := ofF h640 h
            refine W_skip [8, 9, 10, 12, 13, 33, 34, 35] [31, 46, 32, 12, 998] (fr' := [(8, .one (.ptr 31 0)), (9, .one (.slc 46)), (10, .one (.slc 32)), (12, .one (.ptr 12 0)), (13, aI r638), (33, aD (.slice (.pair tI (.pair tI (.pair tI tI)))) a1), (34, aI (List.length a1 : Int)), (35, aI i477)]) (L' := [(31, .cells [.slc 998]), (46, .seq tI (x478.1 ++ [(List.length x478.2.2 : Int)])), (32, .map tI tI x478.2.1), (12, .cells [.dat tI v480.1, .dat tI v480.2.1, .dat tI v480.2.2.1, .dat tI v480.2.2.2]), (998, .seq (.pair tI (.pair tI (.pair tI tI))) x478.2.2)]) (by kernel_rfl) (by kernel_rfl) ?_
            refine seqQ_norm ?_
            refine W_seq (by kernel_rfl) ?_
            refine W_region (by kernel_rfl) ?_
            refine WO_run (j := 2) (k := 2) (orcs := []) (kF := [8, 9, 10, 12, 33, 34, 35, 67, 68]) (kL := [12, 31, 32, 46, 998]) (fr' := [(8, .one (.ptr 31 0)), (9, .one (.slc 46)), (10, .one (.slc 32)), (12, .one (.ptr 12 0)), (33, aD (.slice (.pair tI (.pair tI (.pair tI tI)))) a1), (34, aI (List.length a1 : Int)), (35, aI i477), (67, .one (.ptr 31 0)), (68, aI r638)]) (L' := [(12, .cells [.dat tI v480.1, .dat tI v480.2.1, .dat tI v480.2.2.1, .dat tI v480.2.2.2]), (31, .cells [.slc 998]), (32, .map tI tI x478.2.1), (46, .seq tI (x478.1 ++ [(List.length x478.2.2 : Int)])), (998, .seq (.pair tI (.pair tI (.pair tI tI))) x478.2.2)]) (obs := []) rfl (by kernel_rfl) allP0 ?_
            obtain ⟨r666, h667, h⟩ := bind_of h
            refine WO_lend2 [(1000, 31), (2001, 998)] (us := [none, none]) (d := 69) (p := True) (j := 3) rfl ⟨by kernel_rfl, by kernel_rfl, by kernel_rfl⟩ trivial (two_maker_less_i2_ok h667) (by kernel_rfl) (by kernel_rfl) ?_
            refine WO_run (j := 8) (k := 5) (orcs := []) (kF := [8, 9, 10, 12, 16, 17, 33, 34, 35]) (kL := [12, 31, 32, 46, 998]) (fr' := [(8, .one (.ptr 31 0)), (9, .one (.slc 46)), (10, .one (.slc 32)), (12, .one (.ptr 12 0)), (16, aD (.slice tI) r666.1), (17, aD (.slice tI) r666.2.1), (33, aD (.slice (.pair tI (.pair tI (.pair tI tI)))) a1), (34, aI (List.length a1 : Int)), (35, aI i477)]) (L' := [(12, .cells [.dat tI v480.1, .dat tI v480.2.1, .dat tI v480.2.2.1, .dat tI v480.2.2.2]), (31, .cells [.slc 998]), (32, .map tI tI x478.2.1), (46, .seq tI (x478.1 ++ [(List.length x478.2.2 : Int)])), (998, .seq (.pair tI (.pair tI (.pair tI tI))) r666.2.2)]) (obs := []) rfl (by kernel_rfl) allP0 ?_
            refine WO_fin [8, 9, 10, 12, 16, 17, 33, 34, 35] [31, 46, 32, 12, 998] (fr' := [(8, .one (.ptr 31 0)), (9, .one (.slc 46)), (10, .one (.slc 32)), (12, .one (.ptr 12 0)), (16, aD (.slice tI) r666.1), (17, aD (.slice tI) r666.2.1), (33, aD (.slice (.pair tI (.pair tI (.pair tI tI)))) a1), (34, aI (List.length a1 : Int)), (35, aI i477)]) (L' := [(31, .cells [.slc 998]), (46, .seq tI (x478.1 ++ [(List.length x478.2.2 : Int)])), (32, .map tI tI x478.2.1), (12, .cells [.dat tI v480.1, .dat tI v480.2.1, .dat tI v480.2.2.1, .dat tI v480.2.2.2]), (998, .seq (.pair tI (.pair tI (.pair tI tI))) r666.2.2)]) (by kernel_rfl) (by kernel_rfl) ?_
            refine seqQ_norm ?_
            refine W_seq (by kernel_rfl) ?_
            refine W_seq (by kernel_rfl) ?_
            refine W_run 3 [] [8, 9, 10, 12, 17, 33, 34, 35, 72, 73, 74] [31, 46, 32, 12, 998] (fr' := [(8, .one (.ptr 31 0)), (9, .one (.slc 46)), (10, .one (.slc 32)), (12, .one (.ptr 12 0)), (17, aD (.slice tI) r666.2.1), (33, aD (.slice (.pair tI (.pair tI (.pair tI tI)))) a1), (34, aI (List.length a1 : Int)), (35, aI i477), (72, aD (.slice tI) r666.1), (73, aI (List.length r666.1 : Int)), (74, aI (0 : Int))]) (L' := [(31, .cells [.slc 998]), (46, .seq tI (x478.1 ++ [(List.length x478.2.2 : Int)])), (32, .map tI tI x478.2.1), (12, .cells [.dat tI v480.1, .dat tI v480.2.1, .dat tI v480.2.2.1, .dat tI v480.2.2.2]), (998, .seq (.pair tI (.pair tI (.pair tI tI))) r666.2.2)]) (obs := []) (by kernel_rfl) (by kernel_rfl) (by kernel_rfl) allP0 ?_
            refine seqQ_norm ?_
            refine W_block (id := 4) (by kernel_rfl) ?_
            obtain ⟨v686, h687, h⟩ := bind_of h
            refine W_len (t := 72) (u := tI) (xs := r666.1) (by kernel_rfl) (fun h690 => ?_)
            obtain ⟨h688, h689⟩ := forL_iter h690 h687
            refine W_weaken [8, 9, 10, 12, 17, 33, 34, 35, 72, 73, 74] [31, 12, 46, 32, 998] (fr' := ((two_Build_s81 a1 i477 x478 v480 r666) ((0 : Int), x478.2.1)).1) (L' := ((two_Build_s81 a1 i477 x478 v480 r666) ((0 : Int), x478.2.1)).2) (by kernel_rfl) ?_
            refine W_cutK (W_loop (S := (two_Build_s81 a1 i477 x478 v480 r666)) (J := (exQ (.exit 4) (two_Build_s82 a1 i477 x478 v480 r666))) (by kernel_rfl) ?_ h688 _ v686 h689) ?_
            · rintro ⟨i678, x679⟩ s h
              refine W_seq (by kernel_rfl) ?_
              refine W_run 1 [] [8, 9, 10, 12, 17, 33, 34, 35, 72, 73, 74, 75] [31, 46, 32, 12, 998] (fr' := [(8, .one (.ptr 31 0)), (9, .one (.slc 46)), (10, .one (.slc 32)), (12, .one (.ptr 12 0)), (17, aD (.slice tI) r666.2.1), (33, aD (.slice (.pair tI (.pair tI (.pair tI tI)))) a1), (34, aI (List.length a1 : Int)), (35, aI i477), (72, aD (.slice tI) r666.1), (73, aI (List.length r666.1 : Int)), (74, aI i678), (75, aB (decide (i678 < (List.length r666.1 : Int))))]) (L' := [(31, .cells [.slc 998]), (46, .seq tI (x478.1 ++ [(List.length x478.2.2 : Int)])), (32, .map tI tI x679), (12, .cells [.dat tI v480.1, .dat tI v480.2.1, .dat tI v480.2.2.1, .dat tI v480.2.2.2]), (998, .seq (.pair tI (.pair tI (.pair tI tI))) r666.2.2)]) (obs := []) (by kernel_rfl) (by kernel_rfl) (by kernel_rfl) allP0 ?_
              refine seqQ_norm ?_
              refine W_seq (by kernel_rfl) ?_
              refine W_cond (o := .tmp 75) (b := decide (i678 < (List.length r666.1 : Int))) (by kernel_rfl) (by kernel_rfl) (fun h683 => ?_) (fun h683 => ?_)
              · replace h := stepL_true h683 h
                obtain ⟨v681, _, h682, h, rfl⟩ := h
                refine W_skip [8, 9, 10, 12, 17, 33, 34, 35, 72, 73, 74] [31, 46, 32, 12, 998] (fr' := [(8, .one (.ptr 31 0)), (9, .one (.slc 46)), (10, .one (.slc 32)), (12, .one (.ptr 12 0)), (17, aD (.slice tI) r666.2.1), (33, aD (.slice (.pair tI (.pair tI (.pair tI tI)))) a1), (34, aI (List.length a1 : Int)), (35, aI i477), (72, aD (.slice tI) r666.1), (73, aI (List.length r666.1 : Int)), (74, aI i678)]) (L' := [(31, .cells [.slc 998]), (46, .seq tI (x478.1 ++ [(List.length x478.2.2 : Int)])), (32, .map tI tI x679), (12, .cells [.dat tI v480.1, .dat tI v480.2.1, .dat tI v480.2.2.1, .dat tI v480.2.2.2]), (998, .seq (.pair tI (.pair tI (.pair tI tI))) r666.2.2)]) (by kernel_rfl) (by kernel_rfl) ?_
                refine seqQ_norm ?_
                refine W_seq (by kernel_rfl) ?_
                refine W_block (id := 5) (by kernel_rfl) ?_
                refine W_seq (by kernel_rfl) ?_
                refine W_run 3 [(1, .val (.dat tI v681))] [8, 9, 10, 12, 17, 19, 33, 34, 35, 72, 73, 74] [31, 46, 32, 12, 998] (fr' := [(8, .one (.ptr 31 0)), (9, .one (.slc 46)), (10, .one (.slc 32)), (12, .one (.ptr 12 0)), (17, aD (.slice tI) r666.2.1), (19, aI v681), (33, aD (.slice (.pair tI (.pair tI (.pair tI tI)))) a1), (34, aI (List.length a1 : Int)), (35, aI i477), (72, aD (.slice tI) r666.1), (73, aI (List.length r666.1 : Int)), (74, aI i678)]) (L' := [(31, .cells [.slc 998]), (46, .seq tI (x478.1 ++ [(List.length x478.2.2 : Int)])), (32, .map tI tI x679), (12, .cells [.dat tI v480.1, .dat tI v480.2.1, .dat tI v480.2.2.1, .dat tI v480.2.2.2]), (998, .seq (.pair tI (.pair tI (.pair tI tI))) r666.2.2)]) (obs := [Idx r666.1 i678 v681]) (by kernel_rfl) (by kernel_rfl) (by kernel_rfl) (allP1 (Idx.of h682)) ?_
                refine seqQ_norm ?_
                obtain ⟨_, h684, h⟩ := bind_of h
                replace h684 := ck_some h684
                refine W_run 5 [] [8, 9, 10, 12, 17, 33, 34, 35, 72, 73, 74] [31, 46, 32, 12, 998] (fr' := [(8, .one (.ptr 31 0)), (9, .one (.slc 46)), (10, .one (.slc 32)), (12, .one (.ptr 12 0)), (17, aD (.slice tI) r666.2.1), (33, aD (.slice (.pair tI (.pair tI (.pair tI tI)))) a1), (34, aI (List.length a1 : Int)), (35, aI i477), (72, aD (.slice tI) r666.1), (73, aI (List.length r666.1 : Int)), (74, aI i678)]) (L' := [(31, .cells [.slc 998]), (46, .seq tI (x478.1 ++ [(List.length x478.2.2 : Int)])), (32, .map tI tI (Option.map (fun l => mPut (deqT tI) l v681 v480.2.2.1) x679)), (12, .cells [.dat tI v480.1, .dat tI v480.2.1, .dat tI v480.2.2.1, .dat tI v480.2.2.2]), (998, .seq (.pair tI (.pair tI (.pair tI tI))) r666.2.2)]) (obs := [Option.isSome x679 = true]) (by kernel_rfl) (by kernel_rfl) (by kernel_rfl) (allP1 h684) ?_
                refine blockQ_norm ?_
                refine seqQ_norm ?_
                obtain rfl := Option.some.inj h
                refine W_run 2 [] [8, 9, 10, 12, 17, 33, 34, 35, 72, 73, 74] [31, 12, 46, 32, 998] (fr' := [(8, .one (.ptr 31 0)), (9, .one (.slc 46)), (10, .one (.slc 32)), (12, .one (.ptr 12 0)), (17, aD (.slice tI) r666.2.1), (33, aD (.slice (.pair tI (.pair tI (.pair tI tI)))) a1), (34, aI (List.length a1 : Int)), (35, aI i477), (72, aD (.slice tI) r666.1), (73, aI (List.length r666.1 : Int)), (74, aI (w64 (i678 + (1 : Int))))]) (L' := [(31, .cells [.slc 998]), (12, .cells [.dat tI v480.1, .dat tI v480.2.1, .dat tI v480.2.2.1, .dat tI v480.2.2.2]), (46, .seq tI (x478.1 ++ [(List.length x478.2.2 : Int)])), (32, .map tI tI (Option.map (fun l => mPut (deqT tI) l v681 v480.2.2.1) x679)), (998, .seq (.pair tI (.pair tI (.pair tI tI))) r666.2.2)]) (obs := []) (by kernel_rfl) (by kernel_rfl) (by kernel_rfl) allP0 ?_
                exact round_next' (by kernel_rfl) (by kernel_rfl)
              · obtain rfl := stepL_false h683 h
                refine W_exit (id := 4) [8, 9, 10, 12, 17, 33, 34, 35] [31, 12, 46, 32, 998] (fr' := [(8, .one (.ptr 31 0)), (9, .one (.slc 46)), (10, .one (.slc 32)), (12, .one (.ptr 12 0)), (17, aD (.slice tI) r666.2.1), (33, aD (.slice (.pair tI (.pair tI (.pair tI tI)))) a1), (34, aI (List.length a1 : Int)), (35, aI i477)]) (L' := [(31, .cells [.slc 998]), (12, .cells [.dat tI v480.1, .dat tI v480.2.1, .dat tI v480.2.2.1, .dat tI v480.2.2.2]), (46, .seq tI (x478.1 ++ [(List.length x478.2.2 : Int)])), (32, .map tI tI x679), (998, .seq (.pair tI (.pair tI (.pair tI tI))) r666.2.2)]) (by kernel_rfl) (by kernel_rfl) ?_
                refine seqQ_exit ?_
                refine round_exit ?_
                exact exQ_mk (by kernel_rfl) (by kernel_rfl)
            · intro e fr L hJ
              obtain ⟨rfl, rfl, rfl⟩ := hJ
              refine LT_keep [8, 9, 10, 12, 17, 33, 34, 35] [31, 46, 32, 12, 998] (fr' := [(8, .one (.ptr 31 0)), (9, .one (.slc 46)), (10, .one (.slc 32)), (12, .one (.ptr 12 0)), (17, aD (.slice tI) r666.2.1), (33, aD (.slice (.pair tI (.pair tI (.pair tI tI)))) a1), (34, aI (List.length a1 : Int)), (35, aI i477)]) (L' := [(31, .cells [.slc 998]), (46, .seq tI (x478.1 ++ [(List.length x478.2.2 : Int)])), (32, .map tI tI v686), (12, .cells [.dat tI v480.1, .dat tI v480.2.1, .dat tI v480.2.2.1, .dat tI v480.2.2.2]), (998, .seq (.pair tI (.pair tI (.pair tI tI))) r666.2.2)]) (by kernel_rfl) ?_
              refine blockQ_hit ?_
              refine seqQ_norm ?_
              refine W_seq (by kernel_rfl) ?_
              refine W_run 3 [] [8, 9, 10, 12, 33, 34, 35, 83, 84, 85] [31, 46, 32, 12, 998] (fr' := [(8, .one (.ptr 31 0)), (9, .one (.slc 46)), (10, .one (.slc 32)), (12, .one (.ptr 12 0)), (33, aD (.slice (.pair tI (.pair tI (.pair tI tI)))) a1), (34, aI (List.length a1 : Int)), (35, aI i477), (83, aD (.slice tI) r666.2.1), (84, aI (List.length r666.2.1 : Int)), (85, aI (0 : Int))]) (L' := [(31, .cells [.slc 998]), (46, .seq tI (x478.1 ++ [(List.length x478.2.2 : Int)])), (32, .map tI tI v686), (12, .cells [.dat tI v480.1, .dat tI v480.2.1, .dat tI v480.2.2.1, .dat tI v480.2.2.2]), (998, .seq (.pair tI (.pair tI (.pair tI tI))) r666.2.2)]) (obs := []) (by kernel_rfl) (by kernel_rfl) (by kernel_rfl) allP0 ?_
              refine seqQ_norm ?_
              refine W_block (id := 6) (by kernel_rfl) ?_
              obtain ⟨v709, h710, h⟩ := bind_of h
              refine W_len (t := 83) (u := tI) (xs := r666.2.1) (by kernel_rfl) (fun h713 => ?_)
              obtain ⟨h711, h712⟩ := forL_iter h713 h710
              refine W_weaken [8, 9, 10, 12, 33, 34, 35, 83, 84, 85] [31, 12, 46, 32, 998] (fr' := ((two_Build_s84 a1 i477 x478 v480 r666) ((0 : Int), v686)).1) (L' := ((two_Build_s84 a1 i477 x478 v480 r666) ((0 : Int), v686)).2) (by kernel_rfl) ?_
              refine W_cutK (W_loop (S := (two_Build_s84 a1 i477 x478 v480 r666)) (J := (exQ (.exit 6) (two_Build_s85 a1 i477 x478 r666))) (by kernel_rfl) ?_ h711 _ v709 h712) ?_
              · rintro ⟨i701, x702⟩ s h
                refine W_seq (by kernel_rfl) ?_
                refine W_run 1 [] [8, 9, 10, 12, 33, 34, 35, 83, 84, 85, 86] [31, 46, 32, 12, 998] (fr' := [(8, .one (.ptr 31 0)), (9, .one (.slc 46)), (10, .one (.slc 32)), (12, .one (.ptr 12 0)), (33, aD (.slice (.pair tI (.pair tI (.pair tI tI)))) a1), (34, aI (List.length a1 : Int)), (35, aI i477), (83, aD (.slice tI) r666.2.1), (84, aI (List.length r666.2.1 : Int)), (85, aI i701), (86, aB (decide (i701 < (List.length r666.2.1 : Int))))]) (L' := [(31, .cells [.slc 998]), (46, .seq tI (x478.1 ++ [(List.length x478.2.2 : Int)])), (32, .map tI tI x702), (12, .cells [.dat tI v480.1, .dat tI v480.2.1, .dat tI v480.2.2.1, .dat tI v480.2.2.2]), (998, .seq (.pair tI (.pair tI (.pair tI tI))) r666.2.2)]) (obs := []) (by kernel_rfl) (by kernel_rfl) (by kernel_rfl) allP0 ?_
                refine seqQ_norm ?_
                refine W_seq (by kernel_rfl) ?_
                refine W_cond (o := .tmp 86) (b := decide (i701 < (List.length r666.2.1 : Int))) (by kernel_rfl) (by kernel_rfl) (fun h706 => ?_) (fun h706 => ?_)
                · replace h := stepL_true h706 h
                  obtain ⟨v704, _, h705, h, rfl⟩ := h
                  refine W_skip [8, 9, 10, 12, 33, 34, 35, 83, 84, 85] [31, 46, 32, 12, 998] (fr' := [(8, .one (.ptr 31 0)), (9, .one (.slc 46)), (10, .one (.slc 32)), (12, .one (.ptr 12 0)), (33, aD (.slice (.pair tI (.pair tI (.pair tI tI)))) a1), (34, aI (List.length a1 : Int)), (35, aI i477), (83, aD (.slice tI) r666.2.1), (84, aI (List.length r666.2.1 : Int)), (85, aI i701)]) (L' := [(31, .cells [.slc 998]), (46, .seq tI (x478.1 ++ [(List.length x478.2.2 : Int)])), (32, .map tI tI x702), (12, .cells [.dat tI v480.1, .dat tI v480.2.1, .dat tI v480.2.2.1, .dat tI v480.2.2.2]), (998, .seq (.pair tI (.pair tI (.pair tI tI))) r666.2.2)]) (by kernel_rfl) (by kernel_rfl) ?_
                  refine seqQ_norm ?_
                  refine W_seq (by kernel_rfl) ?_
                  refine W_block (id := 7) (by kernel_rfl) ?_
                  refine W_seq (by kernel_rfl) ?_
                  refine W_run 3 [(1, .val (.dat tI v704))] [8, 9, 10, 12, 21, 33, 34, 35, 83, 84, 85] [31, 46, 32, 12, 998] (fr' := [(8, .one (.ptr 31 0)), (9, .one (.slc 46)), (10, .one (.slc 32)), (12, .one (.ptr 12 0)), (21, aI v704), (33, aD (.slice (.pair tI (.pair tI (.pair tI tI)))) a1), (34, aI (List.length a1 : Int)), (35, aI i477), (83, aD (.slice tI) r666.2.1), (84, aI (List.length r666.2.1 : Int)), (85, aI i701)]) (L' := [(31, .cells [.slc 998]), (46, .seq tI (x478.1 ++ [(List.length x478.2.2 : Int)])), (32, .map tI tI x702), (12, .cells [.dat tI v480.1, .dat tI v480.2.1, .dat tI v480.2.2.1, .dat tI v480.2.2.2]), (998, .seq (.pair tI (.pair tI (.pair tI tI))) r666.2.2)]) (obs := [Idx r666.2.1 i701 v704]) (by kernel_rfl) (by kernel_rfl) (by kernel_rfl) (allP1 (Idx.of h705)) ?_
                  refine seqQ_norm ?_
                  obtain ⟨_, h707, h⟩ := bind_of h
                  replace h707 := ck_some h707
                  refine W_run 5 [] [8, 9, 10, 12, 33, 34, 35, 83, 84, 85] [31, 46, 32, 12, 998] (fr' := [(8, .one (.ptr 31 0)), (9, .one (.slc 46)), (10, .one (.slc 32)), (12, .one (.ptr 12 0)), (33, aD (.slice (.pair tI (.pair tI (.pair tI tI)))) a1), (34, aI (List.length a1 : Int)), (35, aI i477), (83, aD (.slice tI) r666.2.1), (84, aI (List.length r666.2.1 : Int)), (85, aI i701)]) (L' := [(31, .cells [.slc 998]), (46, .seq tI (x478.1 ++ [(List.length x478.2.2 : Int)])), (32, .map tI tI (Option.map (fun l => mPut (deqT tI) l v704 v480.2.2.2) x702)), (12, .cells [.dat tI v480.1, .dat tI v480.2.1, .dat tI v480.2.2.1, .dat tI v480.2.2.2]), (998, .seq (.pair tI (.pair tI (.pair tI tI))) r666.2.2)]) (obs := [Option.isSome x702 = true]) (by kernel_rfl) (by kernel_rfl) (by kernel_rfl) (allP1 h707) ?_
                  refine blockQ_norm ?_
                  refine seqQ_norm ?_
                  obtain rfl := Option.some.inj h
                  refine W_run 2 [] [8, 9, 10, 12, 33, 34, 35, 83, 84, 85] [31, 12, 46, 32, 998] (fr' := [(8, .one (.ptr 31 0)), (9, .one (.slc 46)), (10, .one (.slc 32)), (12, .one (.ptr 12 0)), (33, aD (.slice (.pair tI (.pair tI (.pair tI tI)))) a1), (34, aI (List.length a1 : Int)), (35, aI i477), (83, aD (.slice tI) r666.2.1), (84, aI (List.length r666.2.1 : Int)), (85, aI (w64 (i701 + (1 : Int))))]) (L' := [(31, .cells [.slc 998]), (12, .cells [.dat tI v480.1, .dat tI v480.2.1, .dat tI v480.2.2.1, .dat tI v480.2.2.2]), (46, .seq tI (x478.1 ++ [(List.length x478.2.2 : Int)])), (32, .map tI tI (Option.map (fun l => mPut (deqT tI) l v704 v480.2.2.2) x702)), (998, .seq (.pair tI (.pair tI (.pair tI tI))) r666.2.2)]) (obs := []) (by kernel_rfl) (by kernel_rfl) (by kernel_rfl) allP0 ?_
                  exact round_next' (by kernel_rfl) (by kernel_rfl)
                · obtain rfl := stepL_false h706 h
                  refine W_exit (id := 6) [8, 9, 10, 33, 34, 35] [31, 46, 32, 998] (fr' := [(8, .one (.ptr 31 0)), (9, .one (.slc 46)), (10, .one (.slc 32)), (33, aD (.slice (.pair tI (.pair tI (.pair tI tI)))) a1), (34, aI (List.length a1 : Int)), (35, aI i477)]) (L' := [(31, .cells [.slc 998]), (46, .seq tI (x478.1 ++ [(List.length x478.2.2 : Int)])), (32, .map tI tI x702), (998, .seq (.pair tI (.pair tI (.pair tI tI))) r666.2.2)]) (by kernel_rfl) (by kernel_rfl) ?_
                  refine seqQ_exit ?_
                  refine round_exit ?_
                  exact exQ_mk (by kernel_rfl) (by kernel_rfl)
              · intro e fr L hJ
                obtain ⟨rfl, rfl, rfl⟩ := hJ
                obtain rfl := Option.some.inj h
                refine LT_keep [8, 9, 10, 33, 34, 35] [31, 46, 32, 998] (fr' := [(8, .one (.ptr 31 0)), (9, .one (.slc 46)), (10, .one (.slc 32)), (33, aD (.slice (.pair tI (.pair tI (.pair tI tI)))) a1), (34, aI (List.length a1 : Int)), (35, aI i477)]) (L' := [(31, .cells [.slc 998]), (46, .seq tI (x478.1 ++ [(List.length x478.2.2 : Int)])), (32, .map tI tI v709), (998, .seq (.pair tI (.pair tI (.pair tI tI))) r666.2.2)]) (by kernel_rfl) ?_
                refine blockQ_hit ?_
                refine blockQ_norm ?_
                exact exQ_mk (by kernel_rfl) (by kernel_rfl)
        · intro e fr L hJ
          obtain ⟨rfl, rfl, rfl⟩ := hJ
          refine LT_keep [8, 9, 10, 33, 34, 35] [31, 46, 32, 998] (fr' := [(8, .one (.ptr 31 0)), (9, .one (.slc 46)), (10, .one (.slc 32)), (33, aD (.slice (.pair tI (.pair tI (.pair tI tI)))) a1), (34, aI (List.length a1 : Int)), (35, aI i477)]) (L' := [(31, .cells [.slc 998]), (46, .seq tI (x478.1 ++ [(List.length x478.2.2 : Int)])), (32, .map tI tI v714.1), (998, .seq (.pair tI (.pair tI (.pair tI tI))) v714.2)]) (by kernel_rfl) ?_
          refine seqQ_norm ?_
          obtain rfl := Option.some.inj h
          refine W_run 2 [] [8, 9, 10, 33, 34, 35] [31, 46, 32, 998] (fr' := [(8, .one (.ptr 31 0)), (9, .one (.slc 46)), (10, .one (.slc 32)), (33, aD (.slice (.pair tI (.pair tI (.pair tI tI)))) a1), (34, aI (List.length a1 : Int)), (35, aI (w64 (i477 + (1 : Int))))]) (L' := [(31, .cells [.slc 998]), (46, .seq tI (x478.1 ++ [(List.length x478.2.2 : Int)])), (32, .map tI tI v714.1), (998, .seq (.pair tI (.pair tI (.pair tI tI))) v714.2)]) (obs := []) (by kernel_rfl) (by kernel_rfl) (by kernel_rfl) allP0 ?_
          exact round_next' (by kernel_rfl) (by kernel_rfl)
      · obtain rfl := stepL_false h482 h
        refine W_exit (id := 0) [8, 9, 10] [31, 46, 32, 998] (fr' := [(8, .one (.ptr 31 0)), (9, .one (.slc 46)), (10, .one (.slc 32))]) (L' := [(31, .cells [.slc 998]), (46, .seq tI x478.1), (32, .map tI tI x478.2.1), (998, .seq (.pair tI (.pair tI (.pair tI tI))) x478.2.2)]) (by kernel_rfl) (by kernel_rfl) ?_
        refine seqQ_exit ?_
        refine round_exit ?_
        exact exQ_mk (by kernel_rfl) (by kernel_rfl)
    · intro e fr L hJ
      obtain ⟨rfl, rfl, rfl⟩ := hJ
      refine LT_keep [8, 9, 10] [31, 46, 32, 998] (fr' := [(8, .one (.ptr 31 0)), (9, .one (.slc 46)), (10, .one (.slc 32))]) (L' := [(31, .cells [.slc 998]), (46, .seq tI v717.1), (32, .map tI tI v717.2.1), (998, .seq (.pair tI (.pair tI (.pair tI tI))) v717.2.2)]) (by kernel_rfl) ?_
      refine blockQ_hit ?_
      refine seqQ_norm ?_
      refine W_seq (by kernel_rfl) ?_
      obtain ⟨_, h722, h⟩ := bind_of h
      replace h722 := ck_some h722
      refine W_run 9 [] [8, 9, 10] [31, 46, 32, 998] (fr' := [(8, .one (.ptr 31 0)), (9, .one (.slc 46)), (10, .one (.slc 32))]) (L' := [(31, .cells [.slc 998]), (46, .seq tI (v717.1 ++ [(List.length v717.2.2 : Int)])), (32, .map tI tI v717.2.1), (998, .seq (.pair tI (.pair tI (.pair tI tI))) v717.2.2)]) (obs := [SmallLen (List.length v717.1 + List.length [(List.length v717.2.2 : Int)])]) (by kernel_rfl) (by kernel_rfl) (by kernel_rfl) (allP1 h722) ?_
      refine seqQ_norm ?_
      refine W_seq (by kernel_rfl) ?_
      refine W_seq (by kernel_rfl) ?_
      obtain ⟨l723, h724, h⟩ := bind_of h
      refine W_region (by kernel_rfl) ?_
      refine WO_run (j := 1) (k := 1) (orcs := []) (kF := [8, 9, 103]) (kL := [31, 32, 46, 998]) (fr' := [(8, .one (.ptr 31 0)), (9, .one (.slc 46)), (103, .one (.slc 32))]) (L' := [(31, .cells [.slc 998]), (32, .map tI tI v717.2.1), (46, .seq tI (v717.1 ++ [(List.length v717.2.2 : Int)])), (998, .seq (.pair tI (.pair tI (.pair tI tI))) v717.2.2)]) (obs := []) rfl (by kernel_rfl) allP0 ?_
      refine WO_range (d := 104) (s := 32) (k := tI) (v := tI) (m := v717.2.1) (l := l723) (j := 2) rfl (by kernel_rfl) h724 (fun bm725 bi726 es728 ck727 h729 => ?_)
      refine WO_fin [8, 9, 104] [31, 46, 104, 998, 32] (fr' := [(8, .one (.ptr 31 0)), (9, .one (.slc 46)), (104, .one (.ptr 104 0))]) (L' := [(31, .cells [.slc 998]), (46, .seq tI (v717.1 ++ [(List.length v717.2.2 : Int)])), (104, .raw bi726 (.mapIter (some bm725) ck727 #[] ck727)), (998, .seq (.pair tI (.pair tI (.pair tI tI))) v717.2.2), (32, .raw bm725 (.map es728 ck727))]) (by kernel_rfl) (by kernel_rfl) ?_
      refine seqQ_norm ?_
      refine W_block (id := 8) (by kernel_rfl) ?_
      obtain ⟨v749, h750, h⟩ := bind_of h
      refine W_weaken [8, 9, 104] [31, 46, 104, 998, 32] (fr' := ((fun v sn730 => (two_Build_s92 v717 bm725 bi726 ck727 es728 sn730) v) v717.2.2 #[]).1) (L' := ((fun v sn730 => (two_Build_s92 v717 bm725 bi726 ck727 es728 sn730) v) v717.2.2 #[]).2) (by kernel_rfl) ?_
      refine W_cutK (W_rloop (k := tI) (v := tI) (bm := bm725) (b := (two_Build_b91 v717)) (x0 := v717.2.2) (S := (fun v sn730 => (two_Build_s92 v717 bm725 bi726 ck727 es728 sn730) v)) (J := (exQ (.exit 8) (two_Build_s93 v717 l723)) v749) (t := 104) (it := 104) (s := 32) (dn := 105) (dx := 106) (id := 8) (bi := bi726) (by kernel_rfl) (by kernel_rfl) (fun _ _ => by kernel_rfl) (fun _ _ => by kernel_rfl) (fun _ _ => by kernel_rfl) h729 h750 ?_ ?_) ?_
      · intro p734 x740 h751 sn730 e731 h732 h733 h
        refine W_block (id := 9) (by kernel_rfl) ?_
        refine W_seq (by kernel_rfl) ?_
        refine W_region (by kernel_rfl) ?_
        refine WO_entry (d := 107) (it := 104) (s := 32) (bi := bi726) (bm := bm725) (ck := ck727) (es := es728) (sn := sn730) (e := e731) (k := tI) (v := tI) (l := l723) (p := p734) (j := 1) rfl (by kernel_rfl) (by kernel_rfl) (by kernel_rfl) h729 h732 h733 ?_
        refine WO_run (j := 5) (k := 4) (orcs := []) (kF := [8, 9, 22, 23, 104]) (kL := [31, 32, 46, 104, 998]) (fr' := [(8, .one (.ptr 31 0)), (9, .one (.slc 46)), (22, aI p734.1), (23, aI p734.2), (104, .one (.ptr 104 0))]) (L' := [(31, .cells [.slc 998]), (32, .raw bm725 (.map es728 ck727)), (46, .seq tI (v717.1 ++ [(List.length v717.2.2 : Int)])), (104, .raw bi726 (.mapIter (some bm725) ck727 (Array.push sn730 (MapEntry.born e731)) ck727)), (998, .seq (.pair tI (.pair tI (.pair tI tI))) x740)]) (obs := []) rfl (by kernel_rfl) allP0 ?_
        refine WO_fin [8, 9, 22, 23, 104] [31, 46, 104, 998, 32] (fr' := [(8, .one (.ptr 31 0)), (9, .one (.slc 46)), (22, aI p734.1), (23, aI p734.2), (104, .one (.ptr 104 0))]) (L' := [(31, .cells [.slc 998]), (46, .seq tI (v717.1 ++ [(List.length v717.2.2 : Int)])), (104, .raw bi726 (.mapIter (some bm725) ck727 (Array.push sn730 (MapEntry.born e731)) ck727)), (998, .seq (.pair tI (.pair tI (.pair tI tI))) x740), (32, .raw bm725 (.map es728 ck727))]) (by kernel_rfl) (by kernel_rfl) ?_
        refine seqQ_norm ?_
        obtain ⟨v745, h746, h⟩ := bind_of h
        obtain ⟨v747, h748, h⟩ := bind_of h
        obtain rfl := Option.some.inj h
        refine W_draw3 9 [] [(17, .val (.dat tI v745)), (23, .val (.dat (.pair tI (.pair tI (.pair tI tI))) v747))] [] [8, 9, 104] [31, 46, 104, 998, 32] (fr' := [(8, .one (.ptr 31 0)), (9, .one (.slc 46)), (104, .one (.ptr 104 0))]) (L' := [(31, .cells [.slc 998]), (46, .seq tI (v717.1 ++ [(List.length v717.2.2 : Int)])), (104, .raw bi726 (.mapIter (some bm725) ck727 (Array.push sn730 (MapEntry.born e731)) ck727)), (998, .seq (.pair tI (.pair tI (.pair tI tI))) (List.set x740 (Int.toNat p734.1) (v747.1, v747.2.1, v747.2.2.1, v745))), (32, .raw bm725 (.map es728 ck727))]) (out := [(110, .one (.ptr 31 0)), (111, .one (.ptr 31 0)), (112, .one (.ptr 31 0)), (113, .one (.slc 998)), (114, aI p734.1), (115, .one (.slc 46)), (116, aI p734.2), (117, .one (.eptr 46 1 p734.2 0)), (118, aI v745)]) (obs := [InR p734.2 (List.length (v717.1 ++ [(List.length v717.2.2 : Int)])), Idx (v717.1 ++ [(List.length v717.2.2 : Int)]) p734.2 v745]) (obs2 := [InR p734.1 (List.length x740), Idx x740 p734.1 v747]) (calls := []) (by kernel_rfl) (by kernel_rfl) (by kernel_rfl) (by kernel_rfl) (allP2 (InR.of h746) (allP1 (Idx.of h746))) allC0 (by kernel_rfl) (allP2 (InR.of h748) (allP1 (Idx.of h748))) ?_
        refine blockQ_norm ?_
        exact rangeQ_mk (by kernel_rfl) (by kernel_rfl)
      · intro sn730
        refine LT_keep [8, 9] [31, 46, 998, 32] (fr' := [(8, .one (.ptr 31 0)), (9, .one (.slc 46))]) (L' := [(31, .cells [.slc 998]), (46, .seq tI (v717.1 ++ [(List.length v717.2.2 : Int)])), (998, .seq (.pair tI (.pair tI (.pair tI tI))) v749), (32, .map tI tI (some l723 : Option (List (Int × Int))))]) (by kernel_rfl) ?_
        exact exQ_mk (by kernel_rfl) (by kernel_rfl)
      · intro e fr L hJ
        obtain ⟨rfl, rfl, rfl⟩ := hJ
        refine LT_keep [8, 9] [31, 46, 998] (fr' := [(8, .one (.ptr 31 0)), (9, .one (.slc 46))]) (L' := [(31, .cells [.slc 998]), (46, .seq tI (v717.1 ++ [(List.length v717.2.2 : Int)])), (998, .seq (.pair tI (.pair tI (.pair tI tI))) v749)]) (by kernel_rfl) ?_
        refine blockQ_hit ?_
        refine seqQ_norm ?_
        refine W_seq (by kernel_rfl) ?_
        refine W_run 8 [] [4, 5, 6] [998, 46] (fr' := [(4, .one (.slc 998)), (5, .one (.slc 46)), (6, aI (0 : Int))]) (L' := [(998, .seq (.pair tI (.pair tI (.pair tI tI))) v749), (46, .seq tI (v717.1 ++ [(List.length v717.2.2 : Int)]))]) (obs := []) (by kernel_rfl) (by kernel_rfl) (by kernel_rfl) allP0 ?_
        refine seqQ_norm ?_
        obtain rfl := Option.some.inj h
        refine W_frz 998 (by kernel_rfl) ?_
        refine W_frz 46 (by kernel_rfl) ?_
        refine W_ret [4, 5, 6] [] (fr' := [(4, aD (.slice (.pair tI (.pair tI (.pair tI tI)))) v749), (5, aD (.slice tI) (v717.1 ++ [(List.length v717.2.2 : Int)])), (6, aI (0 : Int))]) (L' := []) (by kernel_rfl) (by kernel_rfl) ?_
        exact retQ_mk (by kernel_rfl) (by kernel_rfl) (by kernel_rfl)

noncomputable def ref_Within (a0 : Int) (a1 : Int) (a2 : Int) : Option Bool :=
some ((decide (a0 ≤ a1)) && (decide (a1 ≤ a2)))
theorem ref_Within_ok {a0 : Int} {a1 : Int} {a2 : Int} {r : Bool} (h : ref_Within a0 a1 a2 = some r) : FnC Try.prog 20 [aI a0, aI a1, aI a2] [] (aB r) [] := by
  refine fnC_of_W (B := bodyOf Try.f20) (n := 15) Try.func20 (by kernel_rfl) (by kernel_rfl) (by kernel_rfl) (by kernel_rfl) (by kernel_rfl) ?_
  intro K
  refine W_seq (by kernel_rfl) ?_
  refine W_run 1 [] [0, 1, 2] [] (fr' := [(0, aI a0), (1, aI a1), (2, aI a2)]) (L' := []) (obs := []) (by kernel_rfl) (by kernel_rfl) (by kernel_rfl) allP0 ?_
  refine seqQ_norm ?_
  refine W_seq (by kernel_rfl) ?_
  refine W_run 9 [] [6] [] (fr' := [(6, aB ((decide (a0 ≤ a1)) && (decide (a1 ≤ a2))))]) (L' := []) (obs := []) (by kernel_rfl) (by kernel_rfl) (by kernel_rfl) allP0 ?_
  refine seqQ_norm ?_
  obtain rfl := Option.some.inj h
  refine W_ret [6] [] (fr' := [(6, aB ((decide (a0 ≤ a1)) && (decide (a1 ≤ a2))))]) (L' := []) (by kernel_rfl) (by kernel_rfl) ?_
  exact retQ_mk (by kernel_rfl) (by kernel_rfl) (by kernel_rfl)

noncomputable def ref_Inside_b1 (a0 : Int) (i11 : Int) (v14 : Int) (x12 : Unit) : Option (Flow Unit (Esc Bool Unit)) :=
bif (decide (v14 < (0 : Int))) || (decide (v14 ≥ a0)) then
(some (.done (.ret false)))
else
(some (.next ()))
@[reducible] def ref_Inside_s2 (a0 : Int) (a1 : (List Int)) (v : Int × Unit) : Fr × LL := ([(0, aI a0), (7, aD (.slice tI) a1), (8, aI (List.length a1 : Int)), (9, aI v.1)], [])
@[reducible] def ref_Inside_s3 (v : Bool) : Fr × LL := ([(4, aB v)], [])
@[reducible] def ref_Inside_s4 (v : Unit) : Fr × LL := ([], [])
noncomputable def ref_Inside (a0 : Int) (a1 : (List Int)) : Option Bool :=
(forL (ref_Inside_b1 a0) (fun x12 => (.brk ())) a1 0 ()).bind fun v19 =>
match v19 with
| .ret v24 =>
(some v24)
| .brk v25 =>
(some true)
theorem ref_Inside_ok {a0 : Int} {a1 : (List Int)} {r : Bool} (h : ref_Inside a0 a1 = some r) : FnC Try.prog 25 [aI a0, aD (.slice tI) a1] [] (aB r) [] := by
  refine fnC_of_W (B := bodyOf Try.f25) (n := 21) Try.func25 (by kernel_rfl) (by kernel_rfl) (by kernel_rfl) (by kernel_rfl) (by kernel_rfl) ?_
  intro K
  refine W_seq (by kernel_rfl) ?_
  refine W_run 1 [] [0, 1] [] (fr' := [(0, aI a0), (1, aD (.slice tI) a1)]) (L' := []) (obs := []) (by kernel_rfl) (by kernel_rfl) (by kernel_rfl) allP0 ?_
  refine seqQ_norm ?_
  refine W_seq (by kernel_rfl) ?_
  refine W_seq (by kernel_rfl) ?_
  refine W_run 3 [] [0, 7, 8, 9] [] (fr' := [(0, aI a0), (7, aD (.slice tI) a1), (8, aI (List.length a1 : Int)), (9, aI (0 : Int))]) (L' := []) (obs := []) (by kernel_rfl) (by kernel_rfl) (by kernel_rfl) allP0 ?_
  refine seqQ_norm ?_
  refine W_block (id := 0) (by kernel_rfl) ?_
  obtain ⟨v19, h20, h⟩ := bind_of h
  refine W_len (t := 7) (u := tI) (xs := a1) (by kernel_rfl) (fun h23 => ?_)
  obtain ⟨h21, h22⟩ := forL_iter h23 h20
  refine W_weaken [0, 7, 8, 9] [] (fr' := ((ref_Inside_s2 a0 a1) ((0 : Int), ())).1) (L' := ((ref_Inside_s2 a0 a1) ((0 : Int), ())).2) (by kernel_rfl) ?_
  refine W_cutK (W_loop (S := (ref_Inside_s2 a0 a1)) (J := (escQ (exQ .ret ref_Inside_s3) (exQ (.exit 0) ref_Inside_s4))) (by kernel_rfl) ?_ h21 _ v19 h22) ?_
  · rintro ⟨i11, x12⟩ s h
    refine W_seq (by kernel_rfl) ?_
    refine W_run 1 [] [0, 7, 8, 9, 10] [] (fr' := [(0, aI a0), (7, aD (.slice tI) a1), (8, aI (List.length a1 : Int)), (9, aI i11), (10, aB (decide (i11 < (List.length a1 : Int))))]) (L' := []) (obs := []) (by kernel_rfl) (by kernel_rfl) (by kernel_rfl) allP0 ?_
    refine seqQ_norm ?_
    refine W_seq (by kernel_rfl) ?_
    refine W_cond (o := .tmp 10) (b := decide (i11 < (List.length a1 : Int))) (by kernel_rfl) (by kernel_rfl) (fun h16 => ?_) (fun h16 => ?_)
    · replace h := stepL_true h16 h
      obtain ⟨v14, _, h15, h, rfl⟩ := h
      refine W_skip [0, 7, 8, 9] [] (fr' := [(0, aI a0), (7, aD (.slice tI) a1), (8, aI (List.length a1 : Int)), (9, aI i11)]) (L' := []) (by kernel_rfl) (by kernel_rfl) ?_
      refine seqQ_norm ?_
      refine W_seq (by kernel_rfl) ?_
      refine W_block (id := 1) (by kernel_rfl) ?_
      refine W_seq (by kernel_rfl) ?_
      refine W_run 3 [(1, .val (.dat tI v14))] [0, 6, 7, 8, 9] [] (fr' := [(0, aI a0), (6, aI v14), (7, aD (.slice tI) a1), (8, aI (List.length a1 : Int)), (9, aI i11)]) (L' := []) (obs := [Idx a1 i11 v14]) (by kernel_rfl) (by kernel_rfl) (by kernel_rfl) (allP1 (Idx.of h15)) ?_
      refine seqQ_norm ?_
      refine W_seq (by kernel_rfl) ?_
      refine W_run 7 [] [0, 7, 8, 9, 19] [] (fr' := [(0, aI a0), (7, aD (.slice tI) a1), (8, aI (List.length a1 : Int)), (9, aI i11), (19, aB ((decide (v14 < (0 : Int))) || (decide (v14 ≥ a0))))]) (L' := []) (obs := []) (by kernel_rfl) (by kernel_rfl) (by kernel_rfl) allP0 ?_
      refine seqQ_norm ?_
      refine W_cond (o := .tmp 19) (b := (decide (v14 < (0 : Int))) || (decide (v14 ≥ a0))) (by kernel_rfl) (by kernel_rfl) (fun h17 => ?_) (fun h17 => ?_)
      · replace h := ofT h17 h
        refine W_seq (by kernel_rfl) ?_
        refine W_run 1 [] [4] [] (fr' := [(4, aB false)]) (L' := []) (obs := []) (by kernel_rfl) (by kernel_rfl) (by kernel_rfl) allP0 ?_
        refine seqQ_norm ?_
        obtain rfl := Option.some.inj h
        refine W_ret [4] [] (fr' := [(4, aB false)]) (L' := []) (by kernel_rfl) (by kernel_rfl) ?_
        refine blockQ_ret ?_
        refine seqQ_ret ?_
        refine round_ret ?_
        refine escQ_ret ?_
        exact exQ_mk (by kernel_rfl) (by kernel_rfl)
      · replace h := ofF h17 h
        refine W_skip [0, 7, 8, 9] [] (fr' := [(0, aI a0), (7, aD (.slice tI) a1), (8, aI (List.length a1 : Int)), (9, aI i11)]) (L' := []) (by kernel_rfl) (by kernel_rfl) ?_
        refine blockQ_norm ?_
        refine seqQ_norm ?_
        obtain rfl := Option.some.inj h
        refine W_run 2 [] [0, 7, 8, 9] [] (fr' := [(0, aI a0), (7, aD (.slice tI) a1), (8, aI (List.length a1 : Int)), (9, aI (w64 (i11 + (1 : Int))))]) (L' := []) (obs := []) (by kernel_rfl) (by kernel_rfl) (by kernel_rfl) allP0 ?_
        exact round_next' (by kernel_rfl) (by kernel_rfl)
    · obtain rfl := stepL_false h16 h
      refine W_exit (id := 0) [] [] (fr' := []) (L' := []) (by kernel_rfl) (by kernel_rfl) ?_
      refine seqQ_exit ?_
      refine round_exit ?_
      refine escQ_brk ?_
      exact exQ_mk (by kernel_rfl) (by kernel_rfl)
  · intro e fr L hJ
    rcases v19 with v24 | v25
    · obtain ⟨rfl, rfl, rfl⟩ := hJ
      obtain rfl := Option.some.inj h
      refine LT_keep [4] [] (fr' := [(4, aB v24)]) (L' := []) (by kernel_rfl) ?_
      refine blockQ_ret ?_
      refine seqQ_ret ?_
      exact retQ_mk (by kernel_rfl) (by kernel_rfl) (by kernel_rfl)
    · obtain ⟨rfl, rfl, rfl⟩ := hJ
      refine LT_keep [] [] (fr' := []) (L' := []) (by kernel_rfl) ?_
      refine blockQ_hit ?_
      refine seqQ_norm ?_
      refine W_seq (by kernel_rfl) ?_
      refine W_run 1 [] [4] [] (fr' := [(4, aB true)]) (L' := []) (obs := []) (by kernel_rfl) (by kernel_rfl) (by kernel_rfl) allP0 ?_
      refine seqQ_norm ?_
      obtain rfl := Option.some.inj h
      refine W_ret [4] [] (fr' := [(4, aB true)]) (L' := []) (by kernel_rfl) (by kernel_rfl) ?_
      exact retQ_mk (by kernel_rfl) (by kernel_rfl) (by kernel_rfl)

noncomputable def ref_OrdersCheck_g7 (a1 : (List (Int × (Int × (Int × Int))))) (v72 : (Int × (Int × (Int × Int)))) : Option Bool :=
(ref_Inside (w64 ((List.length a1 : Int) + (1 : Int))) [v72.2.2.1]).bind fun r96 =>
bif !r96 then
(some true)
else
(bif v72.1 == (2 : Int) then
((ref_Inside (w64 ((List.length a1 : Int) + (1 : Int))) [v72.2.2.2]).bind fun r100 =>
some (!r100))
else
(some false))
@[reducible] def ref_OrdersCheck_s8 (a0 : Int) (a1 : (List (Int × (Int × (Int × Int))))) (i69 : Int) (v : Bool) : Fr × LL := ([(0, aI a0), (1, aD (.slice (.pair tI (.pair tI (.pair tI tI)))) a1), (7, aD (.slice (.pair tI (.pair tI (.pair tI tI)))) a1), (8, aI (List.length a1 : Int)), (9, aI i69), (49, aB v)], [])
@[reducible] def ref_OrdersCheck_s9 (a0 : Int) (a1 : (List (Int × (Int × (Int × Int))))) (i69 : Int) (v72 : (Int × (Int × (Int × Int)))) (v : Bool) : Fr × LL := ([(0, aI a0), (1, aD (.slice (.pair tI (.pair tI (.pair tI tI)))) a1), (6, .one (.ptr 6 0)), (7, aD (.slice (.pair tI (.pair tI (.pair tI tI)))) a1), (8, aI (List.length a1 : Int)), (9, aI i69), (20, aB v)], [(6, .one (.pair tI (.pair tI (.pair tI tI))) v72)])
noncomputable def ref_OrdersCheck_b10 (a0 : Int) (a1 : (List (Int × (Int × (Int × Int))))) (i69 : Int) (v72 : (Int × (Int × (Int × Int)))) (x70 : Unit) : Option (Flow Unit (Esc Int Unit)) :=
(bif v72.1 != (1 : Int) then
(some (v72.1 != (2 : Int)))
else
(some false)).bind fun v78 =>
bif v78 then
(some (.done (.ret (6 : Int))))
else
((ref_Inside a0 [v72.2.1]).bind fun r81 =>
bif !r81 then
(some (.done (.ret (2 : Int))))
else
((ref_OrdersCheck_g7 a1 v72).bind fun v102 =>
bif v102 then
(some (.done (.ret (3 : Int))))
else
(some (.next ()))))
@[reducible] def ref_OrdersCheck_s11 (a0 : Int) (a1 : (List (Int × (Int × (Int × Int))))) (v : Int × Unit) : Fr × LL := ([(0, aI a0), (1, aD (.slice (.pair tI (.pair tI (.pair tI tI)))) a1), (7, aD (.slice (.pair tI (.pair tI (.pair tI tI)))) a1), (8, aI (List.length a1 : Int)), (9, aI v.1)], [])
@[reducible] def ref_OrdersCheck_s12 (v : Int) : Fr × LL := ([(4, aI v)], [])
@[reducible] def ref_OrdersCheck_s13 (v : Unit) : Fr × LL := ([], [])
noncomputable def ref_OrdersCheck (a0 : Int) (a1 : (List (Int × (Int × (Int × Int))))) : Option Int :=
(forL (ref_OrdersCheck_b10 a0 a1) (fun x70 => (.brk ())) a1 0 ()).bind fun v106 =>
match v106 with
| .ret v111 =>
(some v111)
| .brk v112 =>
(some (0 : Int))
theorem ref_OrdersCheck_ok {a0 : Int} {a1 : (List (Int × (Int × (Int × Int))))} {r : Int} (h : ref_OrdersCheck a0 a1 = some r) : FnC Try.prog 21 [aI a0, aD (.slice (.pair tI (.pair tI (.pair tI tI)))) a1] [] (aI r) [] := by
  refine fnC_of_W (B := bodyOf Try.f21) (n := 51) Try.func21 (by kernel_rfl) (by kernel_rfl) (by kernel_rfl) (by kernel_rfl) (by kernel_rfl) ?_
  intro K
  refine W_seq (by kernel_rfl) ?_
  refine W_run 1 [] [0, 1] [] (fr' := [(0, aI a0), (1, aD (.slice (.pair tI (.pair tI (.pair tI tI)))) a1)]) (L' := []) (obs := []) (by kernel_rfl) (by kernel_rfl) (by kernel_rfl) allP0 ?_
  refine seqQ_norm ?_
  refine W_seq (by kernel_rfl) ?_
  refine W_seq (by kernel_rfl) ?_
  refine W_run 3 [] [0, 1, 7, 8, 9] [] (fr' := [(0, aI a0), (1, aD (.slice (.pair tI (.pair tI (.pair tI tI)))) a1), (7, aD (.slice (.pair tI (.pair tI (.pair tI tI)))) a1), (8, aI (List.length a1 : Int)), (9, aI (0 : Int))]) (L' := []) (obs := []) (by kernel_rfl) (by kernel_rfl) (by kernel_rfl) allP0 ?_
  refine seqQ_norm ?_
  refine W_block (id := 0) (by kernel_rfl) ?_
  obtain ⟨v106, h107, h⟩ := bind_of h
  refine W_len (t := 7) (u := (.pair tI (.pair tI (.pair tI tI)))) (xs := a1) (by kernel_rfl) (fun h110 => ?_)
  obtain ⟨h108, h109⟩ := forL_iter h110 h107
  refine W_weaken [0, 1, 7, 8, 9] [] (fr' := ((ref_OrdersCheck_s11 a0 a1) ((0 : Int), ())).1) (L' := ((ref_OrdersCheck_s11 a0 a1) ((0 : Int), ())).2) (by kernel_rfl) ?_
  refine W_cutK (W_loop (S := (ref_OrdersCheck_s11 a0 a1)) (J := (escQ (exQ .ret ref_OrdersCheck_s12) (exQ (.exit 0) ref_OrdersCheck_s13))) (by kernel_rfl) ?_ h108 _ v106 h109) ?_
  · rintro ⟨i69, x70⟩ s h
    refine W_seq (by kernel_rfl) ?_
    refine W_run 1 [] [0, 1, 7, 8, 9, 10] [] (fr' := [(0, aI a0), (1, aD (.slice (.pair tI (.pair tI (.pair tI tI)))) a1), (7, aD (.slice (.pair tI (.pair tI (.pair tI tI)))) a1), (8, aI (List.length a1 : Int)), (9, aI i69), (10, aB (decide (i69 < (List.length a1 : Int))))]) (L' := []) (obs := []) (by kernel_rfl) (by kernel_rfl) (by kernel_rfl) allP0 ?_
    refine seqQ_norm ?_
    refine W_seq (by kernel_rfl) ?_
    refine W_cond (o := .tmp 10) (b := decide (i69 < (List.length a1 : Int))) (by kernel_rfl) (by kernel_rfl) (fun h74 => ?_) (fun h74 => ?_)
    · replace h := stepL_true h74 h
      obtain ⟨v72, _, h73, h, rfl⟩ := h
      refine W_skip [0, 1, 7, 8, 9] [] (fr' := [(0, aI a0), (1, aD (.slice (.pair tI (.pair tI (.pair tI tI)))) a1), (7, aD (.slice (.pair tI (.pair tI (.pair tI tI)))) a1), (8, aI (List.length a1 : Int)), (9, aI i69)]) (L' := []) (by kernel_rfl) (by kernel_rfl) ?_
      refine seqQ_norm ?_
      refine W_seq (by kernel_rfl) ?_
      refine W_block (id := 1) (by kernel_rfl) ?_
      refine W_seq (by kernel_rfl) ?_
      refine W_run 4 [(1, .val (.dat (.pair tI (.pair tI (.pair tI tI))) v72)), (5, .typed)] [0, 1, 6, 7, 8, 9] [6] (fr' := [(0, aI a0), (1, aD (.slice (.pair tI (.pair tI (.pair tI tI)))) a1), (6, .one (.ptr 6 0)), (7, aD (.slice (.pair tI (.pair tI (.pair tI tI)))) a1), (8, aI (List.length a1 : Int)), (9, aI i69)]) (L' := [(6, .one (.pair tI (.pair tI (.pair tI tI))) v72)]) (obs := [Idx a1 i69 v72, True]) (by kernel_rfl) (by kernel_rfl) (by kernel_rfl) (allP2 (Idx.of h73) (allP1 trivial)) ?_
      refine seqQ_norm ?_
      refine W_seq (by kernel_rfl) ?_
      refine W_seq (by kernel_rfl) ?_
      obtain ⟨v78, h79, h⟩ := bind_of h
      refine W_cutK (Q' := (exQ .normal (ref_OrdersCheck_s9 a0 a1 i69 v72)) v78) ?_ ?_
      · replace h := h79
        refine W_region (by kernel_rfl) ?_
        refine WO_run (j := 4) (k := 4) (orcs := []) (kF := [0, 1, 6, 7, 8, 9, 16]) (kL := [6]) (fr' := [(0, aI a0), (1, aD (.slice (.pair tI (.pair tI (.pair tI tI)))) a1), (6, .one (.ptr 6 0)), (7, aD (.slice (.pair tI (.pair tI (.pair tI tI)))) a1), (8, aI (List.length a1 : Int)), (9, aI i69), (16, aB (v72.1 != (1 : Int)))]) (L' := [(6, .one (.pair tI (.pair tI (.pair tI tI))) v72)]) (obs := []) rfl (by kernel_rfl) allP0 ?_
        rcases Bool.eq_false_or_eq_true (v72.1 != (1 : Int)) with h77 | h77
        · replace h := ofT h77 h
          refine WO_run (j := 8) (k := 4) (orcs := [(8, .known true), (10, .known true), (12, .known true), (15, .val (.dat .bool true))]) (kF := [0, 1, 6, 7, 8, 9, 20]) (kL := [6]) (fr' := [(0, aI a0), (1, aD (.slice (.pair tI (.pair tI (.pair tI tI)))) a1), (6, .one (.ptr 6 0)), (7, aD (.slice (.pair tI (.pair tI (.pair tI tI)))) a1), (8, aI (List.length a1 : Int)), (9, aI i69), (20, aB (v72.1 != (2 : Int)))]) (L' := [(6, .one (.pair tI (.pair tI (.pair tI tI))) v72)]) (obs := [((v72.1 != (1 : Int)) = true), ((v72.1 != (1 : Int)) = true), ((v72.1 != (1 : Int)) = true), ((v72.1 != (1 : Int)) = true)]) rfl (by kernel_rfl) (allP2 h77 (allP2 h77 (allP2 h77 (allP1 h77)))) ?_
          obtain rfl := Option.some.inj h
          refine WO_fin [0, 1, 6, 7, 8, 9, 20] [6] (fr' := [(0, aI a0), (1, aD (.slice (.pair tI (.pair tI (.pair tI tI)))) a1), (6, .one (.ptr 6 0)), (7, aD (.slice (.pair tI (.pair tI (.pair tI tI)))) a1), (8, aI (List.length a1 : Int)), (9, aI i69), (20, aB (v72.1 != (2 : Int)))]) (L' := [(6, .one (.pair tI (.pair tI (.pair tI tI))) v72)]) (by kernel_rfl) (by kernel_rfl) ?_
          exact exQ_mk (by kernel_rfl) (by kernel_rfl)
        · replace h := ofF h77 h
          refine WO_run (j := 8) (k := 4) (orcs := [(8, .known false), (10, .known false), (12, .known false), (15, .val (.dat .bool false))]) (kF := [0, 1, 6, 7, 8, 9, 20]) (kL := [6]) (fr' := [(0, aI a0), (1, aD (.slice (.pair tI (.pair tI (.pair tI tI)))) a1), (6, .one (.ptr 6 0)), (7, aD (.slice (.pair tI (.pair tI (.pair tI tI)))) a1), (8, aI (List.length a1 : Int)), (9, aI i69), (20, aB false)]) (L' := [(6, .one (.pair tI (.pair tI (.pair tI tI))) v72)]) (obs := [((v72.1 != (1 : Int)) = false), ((v72.1 != (1 : Int)) = false), ((v72.1 != (1 : Int)) = false), ((v72.1 != (1 : Int)) = false)]) rfl (by kernel_rfl) (allP2 h77 (allP2 h77 (allP2 h77 (allP1 h77)))) ?_
          obtain rfl := Option.some.inj h
          refine WO_fin [0, 1, 6, 7, 8, 9, 20] [6] (fr' := [(0, aI a0), (1, aD (.slice (.pair tI (.pair tI (.pair tI tI)))) a1), (6, .one (.ptr 6 0)), (7, aD (.slice (.pair tI (.pair tI (.pair tI tI)))) a1), (8, aI (List.length a1 : Int)), (9, aI i69), (20, aB false)]) (L' := [(6, .one (.pair tI (.pair tI (.pair tI tI))) v72)]) (by kernel_rfl) (by kernel_rfl) ?_
          exact exQ_mk (by kernel_rfl) (by kernel_rfl)
      · intro e fr L hJ
        obtain ⟨rfl, rfl, rfl⟩ := hJ
        refine LT_keep [0, 1, 6, 7, 8, 9, 20] [6] (fr' := [(0, aI a0), (1, aD (.slice (.pair tI (.pair tI (.pair tI tI)))) a1), (6, .one (.ptr 6 0)), (7, aD (.slice (.pair tI (.pair tI (.pair tI tI)))) a1), (8, aI (List.length a1 : Int)), (9, aI i69), (20, aB v78)]) (L' := [(6, .one (.pair tI (.pair tI (.pair tI tI))) v72)]) (by kernel_rfl) ?_
        refine seqQ_norm ?_
        refine W_cond (o := .tmp 20) (b := v78) (by kernel_rfl) (by kernel_rfl) (fun h80 => ?_) (fun h80 => ?_)
        · replace h := ofT h80 h
          refine W_seq (by kernel_rfl) ?_
          refine W_run 1 [] [4] [] (fr' := [(4, aI (6 : Int))]) (L' := []) (obs := []) (by kernel_rfl) (by kernel_rfl) (by kernel_rfl) allP0 ?_
          refine seqQ_norm ?_
          obtain rfl := Option.some.inj h
          refine W_ret [4] [] (fr' := [(4, aI (6 : Int))]) (L' := []) (by kernel_rfl) (by kernel_rfl) ?_
          refine seqQ_ret ?_
          refine blockQ_ret ?_
          refine seqQ_ret ?_
          refine round_ret ?_
          refine escQ_ret ?_
          exact exQ_mk (by kernel_rfl) (by kernel_rfl)
        · replace h := ofF h80 h
          refine W_skip [0, 1, 6, 7, 8, 9] [6] (fr' := [(0, aI a0), (1, aD (.slice (.pair tI (.pair tI (.pair tI tI)))) a1), (6, .one (.ptr 6 0)), (7, aD (.slice (.pair tI (.pair tI (.pair tI tI)))) a1), (8, aI (List.length a1 : Int)), (9, aI i69)]) (L' := [(6, .one (.pair tI (.pair tI (.pair tI tI))) v72)]) (by kernel_rfl) (by kernel_rfl) ?_
          refine seqQ_norm ?_
          refine W_seq (by kernel_rfl) ?_
          refine W_seq (by kernel_rfl) ?_
          refine W_region (by kernel_rfl) ?_
          refine WO_run (j := 4) (k := 4) (orcs := []) (kF := [0, 1, 6, 7, 8, 9, 21, 24]) (kL := [6, 24]) (fr' := [(0, aI a0), (1, aD (.slice (.pair tI (.pair tI (.pair tI tI)))) a1), (6, .one (.ptr 6 0)), (7, aD (.slice (.pair tI (.pair tI (.pair tI tI)))) a1), (8, aI (List.length a1 : Int)), (9, aI i69), (21, aI a0), (24, .one (.slc 24))]) (L' := [(6, .one (.pair tI (.pair tI (.pair tI tI))) v72), (24, .seq tI [v72.2.1])]) (obs := []) rfl (by kernel_rfl) allP0 ?_
          obtain ⟨r81, h82, h⟩ := bind_of h
          refine WO_frz 24 (by kernel_rfl) ?_
          refine WO_call0 (us := [none, none]) (d := 25) (p := True) (j := 5) rfl ⟨by kernel_rfl, by kernel_rfl, by kernel_rfl⟩ trivial (ref_Inside_ok h82) (by kernel_rfl) ?_
          refine WO_run (j := 6) (k := 1) (orcs := []) (kF := [0, 1, 6, 7, 8, 9, 26]) (kL := [6]) (fr' := [(0, aI a0), (1, aD (.slice (.pair tI (.pair tI (.pair tI tI)))) a1), (6, .one (.ptr 6 0)), (7, aD (.slice (.pair tI (.pair tI (.pair tI tI)))) a1), (8, aI (List.length a1 : Int)), (9, aI i69), (26, aB (!r81))]) (L' := [(6, .one (.pair tI (.pair tI (.pair tI tI))) v72)]) (obs := []) rfl (by kernel_rfl) allP0 ?_
          refine WO_fin [0, 1, 6, 7, 8, 9, 26] [6] (fr' := [(0, aI a0), (1, aD (.slice (.pair tI (.pair tI (.pair tI tI)))) a1), (6, .one (.ptr 6 0)), (7, aD (.slice (.pair tI (.pair tI (.pair tI tI)))) a1), (8, aI (List.length a1 : Int)), (9, aI i69), (26, aB (!r81))]) (L' := [(6, .one (.pair tI (.pair tI (.pair tI tI))) v72)]) (by kernel_rfl) (by kernel_rfl) ?_
          refine seqQ_norm ?_
          refine W_cond (o := .tmp 26) (b := !r81) (by kernel_rfl) (by kernel_rfl) (fun h83 => ?_) (fun h83 => ?_)
          · replace h := ofT h83 h
            refine W_seq (by kernel_rfl) ?_
            refine W_run 1 [] [4] [] (fr' := [(4, aI (2 : Int))]) (L' := []) (obs := []) (by kernel_rfl) (by kernel_rfl) (by kernel_rfl) allP0 ?_
            refine seqQ_norm ?_
            obtain rfl := Option.some.inj h
            refine W_ret [4] [] (fr' := [(4, aI (2 : Int))]) (L' := []) (by kernel_rfl) (by kernel_rfl) ?_
            refine seqQ_ret ?_
            refine blockQ_ret ?_
            refine seqQ_ret ?_
            refine round_ret ?_
            refine escQ_ret ?_
            exact exQ_mk (by kernel_rfl) (by kernel_rfl)
          · replace h := ofF h83 h
            refine W_skip [0, 1, 6, 7, 8, 9] [6] (fr' := [(0, aI a0), (1, aD (.slice (.pair tI (.pair tI (.pair tI tI)))) a1), (6, .one (.ptr 6 0)), (7, aD (.slice (.pair tI (.pair tI (.pair tI tI)))) a1), (8, aI (List.length a1 : Int)), (9, aI i69)]) (L' := [(6, .one (.pair tI (.pair tI (.pair tI tI))) v72)]) (by kernel_rfl) (by kernel_rfl) ?_
            refine seqQ_norm ?_
            refine W_seq (by kernel_rfl) ?_
            obtain ⟨v102, h103, h⟩ := bind_of h
            refine W_cutK (Q' := (exQ .normal (ref_OrdersCheck_s8 a0 a1 i69)) v102) ?_ ?_
            · replace h := h103
              refine W_region (by kernel_rfl) ?_
              refine WO_run (j := 6) (k := 6) (orcs := []) (kF := [0, 1, 6, 7, 8, 9, 29, 32]) (kL := [6, 32]) (fr' := [(0, aI a0), (1, aD (.slice (.pair tI (.pair tI (.pair tI tI)))) a1), (6, .one (.ptr 6 0)), (7, aD (.slice (.pair tI (.pair tI (.pair tI tI)))) a1), (8, aI (List.length a1 : Int)), (9, aI i69), (29, aI (w64 ((List.length a1 : Int) + (1 : Int)))), (32, .one (.slc 32))]) (L' := [(6, .one (.pair tI (.pair tI (.pair tI tI))) v72), (32, .seq tI [v72.2.2.1])]) (obs := []) rfl (by kernel_rfl) allP0 ?_
              obtain ⟨r96, h97, h⟩ := bind_of h
              refine WO_frz 32 (by kernel_rfl) ?_
              refine WO_call0 (us := [none, none]) (d := 33) (p := True) (j := 7) rfl ⟨by kernel_rfl, by kernel_rfl, by kernel_rfl⟩ trivial (ref_Inside_ok h97) (by kernel_rfl) ?_
              refine WO_run (j := 9) (k := 2) (orcs := []) (kF := [0, 1, 6, 7, 8, 9, 35]) (kL := [6]) (fr' := [(0, aI a0), (1, aD (.slice (.pair tI (.pair tI (.pair tI tI)))) a1), (6, .one (.ptr 6 0)), (7, aD (.slice (.pair tI (.pair tI (.pair tI tI)))) a1), (8, aI (List.length a1 : Int)), (9, aI i69), (35, aB (!r96))]) (L' := [(6, .one (.pair tI (.pair tI (.pair tI tI))) v72)]) (obs := []) rfl (by kernel_rfl) allP0 ?_
              rcases Bool.eq_false_or_eq_true (!r96) with h98 | h98
              · replace h := ofT h98 h
                refine WO_run (j := 23) (k := 14) (orcs := [(18, .known true), (20, .known true), (22, .known true), (24, .known true), (26, .known true), (28, .known true), (30, .known true), (32, .known true), (34, .known true), (36, .known true), (38, .known true), (40, .known true), (42, .known true), (45, .val (.dat .bool true))]) (kF := [0, 1, 7, 8, 9, 49]) (kL := [6]) (fr' := [(0, aI a0), (1, aD (.slice (.pair tI (.pair tI (.pair tI tI)))) a1), (7, aD (.slice (.pair tI (.pair tI (.pair tI tI)))) a1), (8, aI (List.length a1 : Int)), (9, aI i69), (49, aB true)]) (L' := [(6, .one (.pair tI (.pair tI (.pair tI tI))) v72)]) (obs := [((!r96) = true), ((!r96) = true), ((!r96) = true), ((!r96) = true), ((!r96) = true), ((!r96) = true)]) rfl (by kernel_rfl) (allP2 h98 (allP2 h98 (allP2 h98 (allP2 h98 (allP2 h98 (allP1 h98)))))) ?_
                obtain rfl := Option.some.inj h
                refine WO_fin [0, 1, 7, 8, 9, 49] [] (fr' := [(0, aI a0), (1, aD (.slice (.pair tI (.pair tI (.pair tI tI)))) a1), (7, aD (.slice (.pair tI (.pair tI (.pair tI tI)))) a1), (8, aI (List.length a1 : Int)), (9, aI i69), (49, aB true)]) (L' := []) (by kernel_rfl) (by kernel_rfl) ?_
                exact exQ_mk (by kernel_rfl) (by kernel_rfl)
              · replace h := ofF h98 h
                refine WO_run (j := 13) (k := 4) (orcs := [(18, .known false), (20, .known false), (22, .known false), (24, .known false)]) (kF := [0, 1, 6, 7, 8, 9, 35, 39]) (kL := [6]) (fr' := [(0, aI a0), (1, aD (.slice (.pair tI (.pair tI (.pair tI tI)))) a1), (6, .one (.ptr 6 0)), (7, aD (.slice (.pair tI (.pair tI (.pair tI tI)))) a1), (8, aI (List.length a1 : Int)), (9, aI i69), (35, aB (!r96)), (39, aB (v72.1 == (2 : Int)))]) (L' := [(6, .one (.pair tI (.pair tI (.pair tI tI))) v72)]) (obs := [((!r96) = false), ((!r96) = false), ((!r96) = false), ((!r96) = false)]) rfl (by kernel_rfl) (allP2 h98 (allP2 h98 (allP2 h98 (allP1 h98)))) ?_
                rcases Bool.eq_false_or_eq_true (v72.1 == (2 : Int)) with h99 | h99
                · replace h := ofT h99 h
                  refine WO_run (j := 19) (k := 6) (orcs := [(26, .known true), (28, .known true), (30, .known true), (32, .known true), (34, .known true), (36, .known true)]) (kF := [0, 1, 7, 8, 9, 35, 39, 42, 45]) (kL := [6, 45]) (fr' := [(0, aI a0), (1, aD (.slice (.pair tI (.pair tI (.pair tI tI)))) a1), (7, aD (.slice (.pair tI (.pair tI (.pair tI tI)))) a1), (8, aI (List.length a1 : Int)), (9, aI i69), (35, aB (!r96)), (39, aB (v72.1 == (2 : Int))), (42, aI (w64 ((List.length a1 : Int) + (1 : Int)))), (45, .one (.slc 45))]) (L' := [(6, .one (.pair tI (.pair tI (.pair tI tI))) v72), (45, .seq tI [v72.2.2.2])]) (obs := [((v72.1 == (2 : Int)) = true), ((v72.1 == (2 : Int)) = true), ((v72.1 == (2 : Int)) = true), ((v72.1 == (2 : Int)) = true), ((v72.1 == (2 : Int)) = true), ((v72.1 == (2 : Int)) = true)]) rfl (by kernel_rfl) (allP2 h99 (allP2 h99 (allP2 h99 (allP2 h99 (allP2 h99 (allP1 h99)))))) ?_
                  obtain ⟨r100, h101, h⟩ := bind_of h
                  refine WO_frz 45 (by kernel_rfl) ?_
                  refine WO_call0 (us := [none, none]) (d := 46) (p := ((v72.1 == (2 : Int)) = true)) (j := 20) rfl ⟨by kernel_rfl, by kernel_rfl, by kernel_rfl⟩ h99 (ref_Inside_ok h101) (by kernel_rfl) ?_
                  refine WO_run (j := 23) (k := 3) (orcs := [(40, .known true), (42, .known false), (43, .val (.dat .bool true)), (45, .val (.dat .bool false))]) (kF := [0, 1, 7, 8, 9, 49]) (kL := [6]) (fr' := [(0, aI a0), (1, aD (.slice (.pair tI (.pair tI (.pair tI tI)))) a1), (7, aD (.slice (.pair tI (.pair tI (.pair tI tI)))) a1), (8, aI (List.length a1 : Int)), (9, aI i69), (49, aB (!r100))]) (L' := [(6, .one (.pair tI (.pair tI (.pair tI tI))) v72)]) (obs := [((v72.1 == (2 : Int)) = true), ((!r96) = false), ((v72.1 == (2 : Int)) = true), ((!r96) = false)]) rfl (by kernel_rfl) (allP2 h99 (allP2 h98 (allP2 h99 (allP1 h98)))) ?_
                  obtain rfl := Option.some.inj h
                  refine WO_fin [0, 1, 7, 8, 9, 49] [] (fr' := [(0, aI a0), (1, aD (.slice (.pair tI (.pair tI (.pair tI tI)))) a1), (7, aD (.slice (.pair tI (.pair tI (.pair tI tI)))) a1), (8, aI (List.length a1 : Int)), (9, aI i69), (49, aB (!r100))]) (L' := []) (by kernel_rfl) (by kernel_rfl) ?_
                  exact exQ_mk (by kernel_rfl) (by kernel_rfl)
                · replace h := ofF h99 h
                  refine WO_run (j := 23) (k := 10) (orcs := [(26, .known false), (28, .known false), (30, .known false), (32, .known false), (34, .known false), (36, .known false), (38, .known false), (40, .known false), (42, .known false), (43, .val (.dat .bool false)), (45, .val (.dat .bool false))]) (kF := [0, 1, 7, 8, 9, 49]) (kL := [6]) (fr' := [(0, aI a0), (1, aD (.slice (.pair tI (.pair tI (.pair tI tI)))) a1), (7, aD (.slice (.pair tI (.pair tI (.pair tI tI)))) a1), (8, aI (List.length a1 : Int)), (9, aI i69), (49, aB false)]) (L' := [(6, .one (.pair tI (.pair tI (.pair tI tI))) v72)]) (obs := [((v72.1 == (2 : Int)) = false), ((v72.1 == (2 : Int)) = false), ((v72.1 == (2 : Int)) = false), ((v72.1 == (2 : Int)) = false), ((v72.1 == (2 : Int)) = false), ((v72.1 == (2 : Int)) = false), ((v72.1 == (2 : Int)) = false), ((v72.1 == (2 : Int)) = false), ((!r96) = false), ((v72.1 == (2 : Int)) = false), ((!r96) = false)]) rfl (by kernel_rfl) (allP2 h99 (allP2 h99 (allP2 h99 (allP2 h99 (allP2 h99 (allP2 h99 (allP2 h99 (allP2 h99 (allP2 h98 (allP2 h99 (allP1 h98))))))))))) ?_
                  obtain rfl := Option.some.inj h
                  refine WO_fin [0, 1, 7, 8, 9, 49] [] (fr' := [(0, aI a0), (1, aD (.slice (.pair tI (.pair tI (.pair tI tI)))) a1), (7, aD (.slice (.pair tI (.pair tI (.pair tI tI)))) a1), (8, aI (List.length a1 : Int)), (9, aI i69), (49, aB false)]) (L' := []) (by kernel_rfl) (by kernel_rfl) ?_
                  exact exQ_mk (by kernel_rfl) (by kernel_rfl)
            · intro e fr L hJ
              obtain ⟨rfl, rfl, rfl⟩ := hJ
              refine LT_keep [0, 1, 7, 8, 9, 49] [] (fr' := [(0, aI a0), (1, aD (.slice (.pair tI (.pair tI (.pair tI tI)))) a1), (7, aD (.slice (.pair tI (.pair tI (.pair tI tI)))) a1), (8, aI (List.length a1 : Int)), (9, aI i69), (49, aB v102)]) (L' := []) (by kernel_rfl) ?_
              refine seqQ_norm ?_
              refine W_cond (o := .tmp 49) (b := v102) (by kernel_rfl) (by kernel_rfl) (fun h104 => ?_) (fun h104 => ?_)
              · replace h := ofT h104 h
                refine W_seq (by kernel_rfl) ?_
                refine W_run 1 [] [4] [] (fr' := [(4, aI (3 : Int))]) (L' := []) (obs := []) (by kernel_rfl) (by kernel_rfl) (by kernel_rfl) allP0 ?_
                refine seqQ_norm ?_
                obtain rfl := Option.some.inj h
                refine W_ret [4] [] (fr' := [(4, aI (3 : Int))]) (L' := []) (by kernel_rfl) (by kernel_rfl) ?_
                refine blockQ_ret ?_
                refine seqQ_ret ?_
                refine round_ret ?_
                refine escQ_ret ?_
                exact exQ_mk (by kernel_rfl) (by kernel_rfl)
              · replace h := ofF h104 h
                refine W_skip [0, 1, 7, 8, 9] [] (fr' := [(0, aI a0), (1, aD (.slice (.pair tI (.pair tI (.pair tI tI)))) a1), (7, aD (.slice (.pair tI (.pair tI (.pair tI tI)))) a1), (8, aI (List.length a1 : Int)), (9, aI i69)]) (L' := []) (by kernel_rfl) (by kernel_rfl) ?_
                refine blockQ_norm ?_
                refine seqQ_norm ?_
                obtain rfl := Option.some.inj h
                refine W_run 2 [] [0, 1, 7, 8, 9] [] (fr' := [(0, aI a0), (1, aD (.slice (.pair tI (.pair tI (.pair tI tI)))) a1), (7, aD (.slice (.pair tI (.pair tI (.pair tI tI)))) a1), (8, aI (List.length a1 : Int)), (9, aI (w64 (i69 + (1 : Int))))]) (L' := []) (obs := []) (by kernel_rfl) (by kernel_rfl) (by kernel_rfl) allP0 ?_
                exact round_next' (by kernel_rfl) (by kernel_rfl)
    · obtain rfl := stepL_false h74 h
      refine W_exit (id := 0) [] [] (fr' := []) (L' := []) (by kernel_rfl) (by kernel_rfl) ?_
      refine seqQ_exit ?_
      refine round_exit ?_
      refine escQ_brk ?_
      exact exQ_mk (by kernel_rfl) (by kernel_rfl)
  · intro e fr L hJ
    rcases v106 with v111 | v112
    · obtain ⟨rfl, rfl, rfl⟩ := hJ
      obtain rfl := Option.some.inj h
      refine LT_keep [4] [] (fr' := [(4, aI v111)]) (L' := []) (by kernel_rfl) ?_
      refine blockQ_ret ?_
      refine seqQ_ret ?_
      exact retQ_mk (by kernel_rfl) (by kernel_rfl) (by kernel_rfl)
    · obtain ⟨rfl, rfl, rfl⟩ := hJ
      refine LT_keep [] [] (fr' := []) (L' := []) (by kernel_rfl) ?_
      refine blockQ_hit ?_
      refine seqQ_norm ?_
      refine W_seq (by kernel_rfl) ?_
      refine W_run 1 [] [4] [] (fr' := [(4, aI (0 : Int))]) (L' := []) (obs := []) (by kernel_rfl) (by kernel_rfl) (by kernel_rfl) allP0 ?_
      refine seqQ_norm ?_
      obtain rfl := Option.some.inj h
      refine W_ret [4] [] (fr' := [(4, aI (0 : Int))]) (L' := []) (by kernel_rfl) (by kernel_rfl) ?_
      exact retQ_mk (by kernel_rfl) (by kernel_rfl) (by kernel_rfl)

noncomputable def ref_CountCheck_g1 (a0 : Int) (a1 : (List (Int × (Int × (Int × Int))))) : Option Bool :=
(ref_Within (1 : Int) a0 (4 : Int)).bind fun r11 =>
bif !r11 then
(some true)
else
((ref_Within (1 : Int) (List.length a1 : Int) (12 : Int)).bind fun r14 =>
some (!r14))
@[reducible] def ref_CountCheck_s2 (a0 : Int) (a1 : (List (Int × (Int × (Int × Int))))) (v : Bool) : Fr × LL := ([(0, aI a0), (1, aD (.slice (.pair tI (.pair tI (.pair tI tI)))) a1), (13, aB v)], [])
noncomputable def ref_CountCheck (a0 : Int) (a1 : (List (Int × (Int × (Int × Int))))) : Option Int :=
(ref_CountCheck_g1 a0 a1).bind fun v16 =>
bif v16 then
(some (1 : Int))
else
((ref_OrdersCheck a0 a1).bind fun r19 =>
some r19)
theorem ref_CountCheck_ok {a0 : Int} {a1 : (List (Int × (Int × (Int × Int))))} {r : Int} (h : ref_CountCheck a0 a1 = some r) : FnC Try.prog 24 [aI a0, aD (.slice (.pair tI (.pair tI (.pair tI tI)))) a1] [] (aI r) [] := by
  refine fnC_of_W (B := bodyOf Try.f24) (n := 17) Try.func24 (by kernel_rfl) (by kernel_rfl) (by kernel_rfl) (by kernel_rfl) (by kernel_rfl) ?_
  intro K
  refine W_seq (by kernel_rfl) ?_
  refine W_run 1 [] [0, 1] [] (fr' := [(0, aI a0), (1, aD (.slice (.pair tI (.pair tI (.pair tI tI)))) a1)]) (L' := []) (obs := []) (by kernel_rfl) (by kernel_rfl) (by kernel_rfl) allP0 ?_
  refine seqQ_norm ?_
  refine W_seq (by kernel_rfl) ?_
  refine W_seq (by kernel_rfl) ?_
  obtain ⟨v16, h17, h⟩ := bind_of h
  refine W_cutK (Q' := (exQ .normal (ref_CountCheck_s2 a0 a1)) v16) ?_ ?_
  · replace h := h17
    refine W_region (by kernel_rfl) ?_
    refine WO_run (j := 1) (k := 1) (orcs := []) (kF := [0, 1, 5]) (kL := []) (fr' := [(0, aI a0), (1, aD (.slice (.pair tI (.pair tI (.pair tI tI)))) a1), (5, aI a0)]) (L' := []) (obs := []) rfl (by kernel_rfl) allP0 ?_
    obtain ⟨r11, h12, h⟩ := bind_of h
    refine WO_call0 (us := [none, none, none]) (d := 6) (p := True) (j := 2) rfl ⟨by kernel_rfl, by kernel_rfl, by kernel_rfl⟩ trivial (ref_Within_ok h12) (by kernel_rfl) ?_
    refine WO_run (j := 4) (k := 2) (orcs := []) (kF := [0, 1, 8]) (kL := []) (fr' := [(0, aI a0), (1, aD (.slice (.pair tI (.pair tI (.pair tI tI)))) a1), (8, aB (!r11))]) (L' := []) (obs := []) rfl (by kernel_rfl) allP0 ?_
    rcases Bool.eq_false_or_eq_true (!r11) with h13 | h13
    · replace h := ofT h13 h
      refine WO_run (j := 9) (k := 5) (orcs := [(8, .known true), (10, .known true), (12, .known true), (14, .known true), (17, .val (.dat .bool true))]) (kF := [0, 1, 13]) (kL := []) (fr' := [(0, aI a0), (1, aD (.slice (.pair tI (.pair tI (.pair tI tI)))) a1), (13, aB true)]) (L' := []) (obs := [((!r11) = true), ((!r11) = true), ((!r11) = true), ((!r11) = true), ((!r11) = true)]) rfl (by kernel_rfl) (allP2 h13 (allP2 h13 (allP2 h13 (allP2 h13 (allP1 h13))))) ?_
      obtain rfl := Option.some.inj h
      refine WO_fin [0, 1, 13] [] (fr' := [(0, aI a0), (1, aD (.slice (.pair tI (.pair tI (.pair tI tI)))) a1), (13, aB true)]) (L' := []) (by kernel_rfl) (by kernel_rfl) ?_
      exact exQ_mk (by kernel_rfl) (by kernel_rfl)
    · replace h := ofF h13 h
      refine WO_run (j := 6) (k := 2) (orcs := [(8, .known false), (10, .known false)]) (kF := [0, 1, 8, 10]) (kL := []) (fr' := [(0, aI a0), (1, aD (.slice (.pair tI (.pair tI (.pair tI tI)))) a1), (8, aB (!r11)), (10, aI (List.length a1 : Int))]) (L' := []) (obs := [((!r11) = false), ((!r11) = false)]) rfl (by kernel_rfl) (allP2 h13 (allP1 h13)) ?_
      obtain ⟨r14, h15, h⟩ := bind_of h
      refine WO_call0 (us := [none, none, none]) (d := 11) (p := ((!r11) = false)) (j := 7) rfl ⟨by kernel_rfl, by kernel_rfl, by kernel_rfl⟩ h13 (ref_Within_ok h15) (by kernel_rfl) ?_
      refine WO_run (j := 9) (k := 2) (orcs := [(14, .known false), (17, .val (.dat .bool false))]) (kF := [0, 1, 13]) (kL := []) (fr' := [(0, aI a0), (1, aD (.slice (.pair tI (.pair tI (.pair tI tI)))) a1), (13, aB (!r14))]) (L' := []) (obs := [((!r11) = false), ((!r11) = false)]) rfl (by kernel_rfl) (allP2 h13 (allP1 h13)) ?_
      obtain rfl := Option.some.inj h
      refine WO_fin [0, 1, 13] [] (fr' := [(0, aI a0), (1, aD (.slice (.pair tI (.pair tI (.pair tI tI)))) a1), (13, aB (!r14))]) (L' := []) (by kernel_rfl) (by kernel_rfl) ?_
      exact exQ_mk (by kernel_rfl) (by kernel_rfl)
  · intro e fr L hJ
    obtain ⟨rfl, rfl, rfl⟩ := hJ
    refine LT_keep [0, 1, 13] [] (fr' := [(0, aI a0), (1, aD (.slice (.pair tI (.pair tI (.pair tI tI)))) a1), (13, aB v16)]) (L' := []) (by kernel_rfl) ?_
    refine seqQ_norm ?_
    refine W_cond (o := .tmp 13) (b := v16) (by kernel_rfl) (by kernel_rfl) (fun h18 => ?_) (fun h18 => ?_)
    · replace h := ofT h18 h
      refine W_seq (by kernel_rfl) ?_
      refine W_run 1 [] [4] [] (fr' := [(4, aI (1 : Int))]) (L' := []) (obs := []) (by kernel_rfl) (by kernel_rfl) (by kernel_rfl) allP0 ?_
      refine seqQ_norm ?_
      obtain rfl := Option.some.inj h
      refine W_ret [4] [] (fr' := [(4, aI (1 : Int))]) (L' := []) (by kernel_rfl) (by kernel_rfl) ?_
      refine seqQ_ret ?_
      exact retQ_mk (by kernel_rfl) (by kernel_rfl) (by kernel_rfl)
    · replace h := ofF h18 h
      refine W_skip [0, 1] [] (fr' := [(0, aI a0), (1, aD (.slice (.pair tI (.pair tI (.pair tI tI)))) a1)]) (L' := []) (by kernel_rfl) (by kernel_rfl) ?_
      refine seqQ_norm ?_
      refine W_seq (by kernel_rfl) ?_
      refine W_region (by kernel_rfl) ?_
      refine WO_run (j := 2) (k := 2) (orcs := []) (kF := [14, 15]) (kL := []) (fr' := [(14, aI a0), (15, aD (.slice (.pair tI (.pair tI (.pair tI tI)))) a1)]) (L' := []) (obs := []) rfl (by kernel_rfl) allP0 ?_
      obtain ⟨r19, h20, h⟩ := bind_of h
      refine WO_call0 (us := [none, none]) (d := 16) (p := True) (j := 3) rfl ⟨by kernel_rfl, by kernel_rfl, by kernel_rfl⟩ trivial (ref_OrdersCheck_ok h20) (by kernel_rfl) ?_
      refine WO_run (j := 4) (k := 1) (orcs := []) (kF := [4]) (kL := []) (fr' := [(4, aI r19)]) (L' := []) (obs := []) rfl (by kernel_rfl) allP0 ?_
      refine WO_fin [4] [] (fr' := [(4, aI r19)]) (L' := []) (by kernel_rfl) (by kernel_rfl) ?_
      refine seqQ_norm ?_
      obtain rfl := Option.some.inj h
      refine W_ret [4] [] (fr' := [(4, aI r19)]) (L' := []) (by kernel_rfl) (by kernel_rfl) ?_
      exact retQ_mk (by kernel_rfl) (by kernel_rfl) (by kernel_rfl)

noncomputable def count_Run_1 (a0 : Int) : Option Bool :=
some ((decide (a0 < (0 : Int))) || (decide (a0 > (20 : Int))))
theorem count_Run_1_ok {a0 : Int} {r : Bool} (h : count_Run_1 a0 = some r) : FnC Try.prog 46 [aI a0] [] (aB r) [] := by
  refine fnC_of_W (B := bodyOf Try.f46) (n := 9) Try.func46 (by kernel_rfl) (by kernel_rfl) (by kernel_rfl) (by kernel_rfl) (by kernel_rfl) ?_
  intro K
  refine W_seq (by kernel_rfl) ?_
  refine W_run 1 [] [0] [] (fr' := [(0, aI a0)]) (L' := []) (obs := []) (by kernel_rfl) (by kernel_rfl) (by kernel_rfl) allP0 ?_
  refine seqQ_norm ?_
  refine W_seq (by kernel_rfl) ?_
  refine W_run 7 [] [2] [] (fr' := [(2, aB ((decide (a0 < (0 : Int))) || (decide (a0 > (20 : Int)))))]) (L' := []) (obs := []) (by kernel_rfl) (by kernel_rfl) (by kernel_rfl) allP0 ?_
  refine seqQ_norm ?_
  obtain rfl := Option.some.inj h
  refine W_ret [2] [] (fr' := [(2, aB ((decide (a0 < (0 : Int))) || (decide (a0 > (20 : Int)))))]) (L' := []) (by kernel_rfl) (by kernel_rfl) ?_
  exact retQ_mk (by kernel_rfl) (by kernel_rfl) (by kernel_rfl)

noncomputable def slices_IndexFunc_Lintint_with_count_Run_1_b1 (i15 : Int) (v18 : Int) (x16 : Unit) : Option (Flow Unit (Esc Int Unit)) :=
(count_Run_1 v18).bind fun r21 =>
bif r21 then
(some (.done (.ret i15)))
else
(some (.next ()))
@[reducible] def slices_IndexFunc_Lintint_with_count_Run_1_s2 (a0 : (List Int)) (v : Int × Unit) : Fr × LL := ([(0, aD (.slice tI) a0), (1, .one (.fn 46 [])), (7, aI (List.length a0 : Int)), (8, aI v.1)], [])
@[reducible] def slices_IndexFunc_Lintint_with_count_Run_1_s3 (v : Int) : Fr × LL := ([(4, aI v)], [])
@[reducible] def slices_IndexFunc_Lintint_with_count_Run_1_s4 (v : Unit) : Fr × LL := ([], [])
noncomputable def slices_IndexFunc_Lintint_with_count_Run_1 (a0 : (List Int)) : Option Int :=
(forL slices_IndexFunc_Lintint_with_count_Run_1_b1 (fun x16 => (.brk ())) a0 0 ()).bind fun v25 =>
match v25 with
| .ret v30 =>
(some v30)
| .brk v31 =>
(some (-1 : Int))
theorem slices_IndexFunc_Lintint_with_count_Run_1_ok {a0 : (List Int)} {r : Int} (h : slices_IndexFunc_Lintint_with_count_Run_1 a0 = some r) : FnC Try.prog 56 [aD (.slice tI) a0, .one (.fn 46 [])] [] (aI r) [] := by
  refine fnC_of_W (B := bodyOf Try.f56) (n := 19) Try.func56 (by kernel_rfl) (by kernel_rfl) (by kernel_rfl) (by kernel_rfl) (by kernel_rfl) ?_
  intro K
  refine W_seq (by kernel_rfl) ?_
  refine W_run 1 [] [0, 1] [] (fr' := [(0, aD (.slice tI) a0), (1, .one (.fn 46 []))]) (L' := []) (obs := []) (by kernel_rfl) (by kernel_rfl) (by kernel_rfl) allP0 ?_
  refine seqQ_norm ?_
  refine W_seq (by kernel_rfl) ?_
  refine W_seq (by kernel_rfl) ?_
  refine W_run 3 [] [0, 1, 7, 8] [] (fr' := [(0, aD (.slice tI) a0), (1, .one (.fn 46 [])), (7, aI (List.length a0 : Int)), (8, aI (0 : Int))]) (L' := []) (obs := []) (by kernel_rfl) (by kernel_rfl) (by kernel_rfl) allP0 ?_
  refine seqQ_norm ?_
  refine W_block (id := 0) (by kernel_rfl) ?_
  obtain ⟨v25, h26, h⟩ := bind_of h
  refine W_len (t := 0) (u := tI) (xs := a0) (by kernel_rfl) (fun h29 => ?_)
  obtain ⟨h27, h28⟩ := forL_iter h29 h26
  refine W_weaken [0, 1, 7, 8] [] (fr' := ((slices_IndexFunc_Lintint_with_count_Run_1_s2 a0) ((0 : Int), ())).1) (L' := ((slices_IndexFunc_Lintint_with_count_Run_1_s2 a0) ((0 : Int), ())).2) (by kernel_rfl) ?_
  refine W_cutK (W_loop (S := (slices_IndexFunc_Lintint_with_count_Run_1_s2 a0)) (J := (escQ (exQ .ret slices_IndexFunc_Lintint_with_count_Run_1_s3) (exQ (.exit 0) slices_IndexFunc_Lintint_with_count_Run_1_s4))) (by kernel_rfl) ?_ h27 _ v25 h28) ?_
  · rintro ⟨i15, x16⟩ s h
    refine W_seq (by kernel_rfl) ?_
    refine W_run 1 [] [0, 1, 7, 8, 9] [] (fr' := [(0, aD (.slice tI) a0), (1, .one (.fn 46 [])), (7, aI (List.length a0 : Int)), (8, aI i15), (9, aB (decide (i15 < (List.length a0 : Int))))]) (L' := []) (obs := []) (by kernel_rfl) (by kernel_rfl) (by kernel_rfl) allP0 ?_
    refine seqQ_norm ?_
    refine W_seq (by kernel_rfl) ?_
    refine W_cond (o := .tmp 9) (b := decide (i15 < (List.length a0 : Int))) (by kernel_rfl) (by kernel_rfl) (fun h20 => ?_) (fun h20 => ?_)
    · replace h := stepL_true h20 h
      obtain ⟨v18, _, h19, h, rfl⟩ := h
      refine W_skip [0, 1, 7, 8] [] (fr' := [(0, aD (.slice tI) a0), (1, .one (.fn 46 [])), (7, aI (List.length a0 : Int)), (8, aI i15)]) (L' := []) (by kernel_rfl) (by kernel_rfl) ?_
      refine seqQ_norm ?_
      refine W_seq (by kernel_rfl) ?_
      refine W_block (id := 1) (by kernel_rfl) ?_
      refine W_seq (by kernel_rfl) ?_
      refine W_run 2 [] [0, 1, 5, 7, 8] [] (fr' := [(0, aD (.slice tI) a0), (1, .one (.fn 46 [])), (5, aI i15), (7, aI (List.length a0 : Int)), (8, aI i15)]) (L' := []) (obs := []) (by kernel_rfl) (by kernel_rfl) (by kernel_rfl) allP0 ?_
      refine seqQ_norm ?_
      refine W_seq (by kernel_rfl) ?_
      refine W_region (by kernel_rfl) ?_
      refine WO_run (j := 5) (k := 5) (orcs := [(7, .val (.dat tI v18))]) (kF := [0, 1, 5, 7, 8, 11, 15]) (kL := []) (fr' := [(0, aD (.slice tI) a0), (1, .one (.fn 46 [])), (5, aI i15), (7, aI (List.length a0 : Int)), (8, aI i15), (11, .one (.fn 46 [])), (15, aI v18)]) (L' := []) (obs := [Idx a0 i15 v18]) rfl (by kernel_rfl) (allP1 (Idx.of h19)) ?_
      obtain ⟨r21, h22, h⟩ := bind_of h
      refine WO_call0 (us := [none]) (d := 16) (p := True) (j := 6) rfl ⟨by kernel_rfl, by kernel_rfl, by kernel_rfl⟩ trivial (count_Run_1_ok h22) (by kernel_rfl) ?_
      refine WO_fin [0, 1, 5, 7, 8, 16] [] (fr' := [(0, aD (.slice tI) a0), (1, .one (.fn 46 [])), (5, aI i15), (7, aI (List.length a0 : Int)), (8, aI i15), (16, aB r21)]) (L' := []) (by kernel_rfl) (by kernel_rfl) ?_
      refine seqQ_norm ?_
      refine W_cond (o := .tmp 16) (b := r21) (by kernel_rfl) (by kernel_rfl) (fun h23 => ?_) (fun h23 => ?_)
      · replace h := ofT h23 h
        refine W_seq (by kernel_rfl) ?_
        refine W_run 2 [] [4] [] (fr' := [(4, aI i15)]) (L' := []) (obs := []) (by kernel_rfl) (by kernel_rfl) (by kernel_rfl) allP0 ?_
        refine seqQ_norm ?_
        obtain rfl := Option.some.inj h
        refine W_ret [4] [] (fr' := [(4, aI i15)]) (L' := []) (by kernel_rfl) (by kernel_rfl) ?_
        refine blockQ_ret ?_
        refine seqQ_ret ?_
        refine round_ret ?_
        refine escQ_ret ?_
        exact exQ_mk (by kernel_rfl) (by kernel_rfl)
      · replace h := ofF h23 h
        refine W_skip [0, 1, 7, 8] [] (fr' := [(0, aD (.slice tI) a0), (1, .one (.fn 46 [])), (7, aI (List.length a0 : Int)), (8, aI i15)]) (L' := []) (by kernel_rfl) (by kernel_rfl) ?_
        refine blockQ_norm ?_
        refine seqQ_norm ?_
        obtain rfl := Option.some.inj h
        refine W_run 2 [] [0, 1, 7, 8] [] (fr' := [(0, aD (.slice tI) a0), (1, .one (.fn 46 [])), (7, aI (List.length a0 : Int)), (8, aI (w64 (i15 + (1 : Int))))]) (L' := []) (obs := []) (by kernel_rfl) (by kernel_rfl) (by kernel_rfl) allP0 ?_
        exact round_next' (by kernel_rfl) (by kernel_rfl)
    · obtain rfl := stepL_false h20 h
      refine W_exit (id := 0) [] [] (fr' := []) (L' := []) (by kernel_rfl) (by kernel_rfl) ?_
      refine seqQ_exit ?_
      refine round_exit ?_
      refine escQ_brk ?_
      exact exQ_mk (by kernel_rfl) (by kernel_rfl)
  · intro e fr L hJ
    rcases v25 with v30 | v31
    · obtain ⟨rfl, rfl, rfl⟩ := hJ
      obtain rfl := Option.some.inj h
      refine LT_keep [4] [] (fr' := [(4, aI v30)]) (L' := []) (by kernel_rfl) ?_
      refine blockQ_ret ?_
      refine seqQ_ret ?_
      exact retQ_mk (by kernel_rfl) (by kernel_rfl) (by kernel_rfl)
    · obtain ⟨rfl, rfl, rfl⟩ := hJ
      refine LT_keep [] [] (fr' := []) (L' := []) (by kernel_rfl) ?_
      refine blockQ_hit ?_
      refine seqQ_norm ?_
      refine W_seq (by kernel_rfl) ?_
      refine W_run 1 [] [4] [] (fr' := [(4, aI (-1 : Int))]) (L' := []) (obs := []) (by kernel_rfl) (by kernel_rfl) (by kernel_rfl) allP0 ?_
      refine seqQ_norm ?_
      obtain rfl := Option.some.inj h
      refine W_ret [4] [] (fr' := [(4, aI (-1 : Int))]) (L' := []) (by kernel_rfl) (by kernel_rfl) ?_
      exact retQ_mk (by kernel_rfl) (by kernel_rfl) (by kernel_rfl)

noncomputable def slices_ContainsFunc_Lintint_with_count_Run_1 (a0 : (List Int)) : Option Bool :=
(slices_IndexFunc_Lintint_with_count_Run_1 a0).bind fun r1 =>
some (decide (r1 ≥ (0 : Int)))
theorem slices_ContainsFunc_Lintint_with_count_Run_1_ok {a0 : (List Int)} {r : Bool} (h : slices_ContainsFunc_Lintint_with_count_Run_1 a0 = some r) : FnC Try.prog 45 [aD (.slice tI) a0, .one (.fn 46 [])] [] (aB r) [] := by
  refine fnC_of_W (B := bodyOf Try.f45) (n := 9) Try.func45 (by kernel_rfl) (by kernel_rfl) (by kernel_rfl) (by kernel_rfl) (by kernel_rfl) ?_
  intro K
  refine W_seq (by kernel_rfl) ?_
  refine W_run 1 [] [0, 1] [] (fr' := [(0, aD (.slice tI) a0), (1, .one (.fn 46 []))]) (L' := []) (obs := []) (by kernel_rfl) (by kernel_rfl) (by kernel_rfl) allP0 ?_
  refine seqQ_norm ?_
  refine W_seq (by kernel_rfl) ?_
  refine W_region (by kernel_rfl) ?_
  refine WO_run (j := 2) (k := 2) (orcs := []) (kF := [5, 6]) (kL := []) (fr' := [(5, aD (.slice tI) a0), (6, .one (.fn 46 []))]) (L' := []) (obs := []) rfl (by kernel_rfl) allP0 ?_
  obtain ⟨r1, h2, h⟩ := bind_of h
  refine WO_call0 (us := [none, none]) (d := 7) (p := True) (j := 3) rfl ⟨by kernel_rfl, by kernel_rfl, by kernel_rfl⟩ trivial (slices_IndexFunc_Lintint_with_count_Run_1_ok h2) (by kernel_rfl) ?_
  refine WO_run (j := 5) (k := 2) (orcs := []) (kF := [4]) (kL := []) (fr' := [(4, aB (decide (r1 ≥ (0 : Int))))]) (L' := []) (obs := []) rfl (by kernel_rfl) allP0 ?_
  refine WO_fin [4] [] (fr' := [(4, aB (decide (r1 ≥ (0 : Int))))]) (L' := []) (by kernel_rfl) (by kernel_rfl) ?_
  refine seqQ_norm ?_
  obtain rfl := Option.some.inj h
  refine W_ret [4] [] (fr' := [(4, aB (decide (r1 ≥ (0 : Int))))]) (L' := []) (by kernel_rfl) (by kernel_rfl) ?_
  exact retQ_mk (by kernel_rfl) (by kernel_rfl) (by kernel_rfl)

noncomputable def slices_Clone_Lintint (a0 : (List Int)) : Option (List Int) :=
(ck ((0 : Int) + (List.length a0 : Int) ≤ 4294967296)).bind fun _ =>
some ([] ++ a0)
theorem slices_Clone_Lintint_ok {a0 : (List Int)} {r : (List Int)} (h : slices_Clone_Lintint a0 = some r) : FnC Try.prog 47 [aD (.slice tI) a0] [] (.one (.slc 5)) [(5, .seq tI r)] := by
  refine fnC_of_W (B := bodyOf Try.f47) (n := 8) Try.func47 (by kernel_rfl) (by kernel_rfl) (by kernel_rfl) (by kernel_rfl) (by kernel_rfl) ?_
  intro K
  refine W_seq (by kernel_rfl) ?_
  refine W_run 1 [] [0] [] (fr' := [(0, aD (.slice tI) a0)]) (L' := []) (obs := []) (by kernel_rfl) (by kernel_rfl) (by kernel_rfl) allP0 ?_
  refine seqQ_norm ?_
  refine W_seq (by kernel_rfl) ?_
  refine W_seq (by kernel_rfl) ?_
  refine W_region (by kernel_rfl) ?_
  refine WO_run (j := 1) (k := 1) (orcs := []) (kF := [0, 3]) (kL := []) (fr' := [(0, aD (.slice tI) a0), (3, aD (.slice tI) a0)]) (L' := []) (obs := []) rfl (by kernel_rfl) allP0 ?_
  refine WO_nilcmp (u := tI) (xs := a0) (d := 4) (j := 2) rfl (by kernel_rfl) (by kernel_rfl) (fun h12 h10 => ?_)
  cases h12
  · refine WO_fin [0, 4] [] (fr' := [(0, aD (.slice tI) a0), (4, aB false)]) (L' := []) (by kernel_rfl) (by kernel_rfl) ?_
    refine seqQ_norm ?_
    refine W_cond (o := .tmp 4) (b := false) (by kernel_rfl) (by kernel_rfl) (fun h7 => by have := (rfl : false = false).symm.trans h7; cases this) (fun h7 => ?_)
    refine W_skip [0] [] (fr' := [(0, aD (.slice tI) a0)]) (L' := []) (by kernel_rfl) (by kernel_rfl) ?_
    refine seqQ_norm ?_
    refine W_seq (by kernel_rfl) ?_
    obtain ⟨_, h8, h⟩ := bind_of h
    replace h8 := ck_some h8
    refine W_run 4 [] [2] [5] (fr' := [(2, .one (.slc 5))]) (L' := [(5, .seq tI ([] ++ a0))]) (obs := [SmallLen (List.length ([] : (List Int)) + List.length a0)]) (by kernel_rfl) (by kernel_rfl) (by kernel_rfl) (allP1 h8) ?_
    refine seqQ_norm ?_
    obtain rfl := Option.some.inj h
    refine W_ret [2] [5] (fr' := [(2, .one (.slc 5))]) (L' := [(5, .seq tI ([] ++ a0))]) (by kernel_rfl) (by kernel_rfl) ?_
    exact retQ_mk (by kernel_rfl) (by kernel_rfl) (by kernel_rfl)
  · replace h10 := h10 rfl
    have h11 : (some [] : Option (List Int)) = ((ck ((0 : Int) + (List.length a0 : Int) ≤ 4294967296)).bind fun _ => some ([] ++ a0)) := by rw [h10]; simp [ck]
    replace h := h11.trans h
    refine WO_fin [0, 4] [] (fr' := [(0, aD (.slice tI) a0), (4, aB true)]) (L' := []) (by kernel_rfl) (by kernel_rfl) ?_
    refine seqQ_norm ?_
    refine W_cond (o := .tmp 4) (b := true) (by kernel_rfl) (by kernel_rfl) (fun h9 => ?_) (fun h9 => by have := (rfl : true = true).symm.trans h9; cases this)
    refine W_seq (by kernel_rfl) ?_
    refine W_run 1 [] [2] [] (fr' := [(2, .one (.nilS))]) (L' := []) (obs := []) (by kernel_rfl) (by kernel_rfl) (by kernel_rfl) allP0 ?_
    refine seqQ_norm ?_
    obtain rfl := Option.some.inj h
    refine W_mine 2 5 tI (by kernel_rfl) ?_
    refine W_ret [2] [5] (fr' := [(2, .one (.slc 5))]) (L' := [(5, .seq tI [])]) (by kernel_rfl) (by kernel_rfl) ?_
    refine seqQ_ret ?_
    exact retQ_mk (by kernel_rfl) (by kernel_rfl) (by kernel_rfl)

noncomputable def count_Turn (a0 : (Int × (Int × (Int × Int)))) (c0 : (List Int)) : Option (Int × (List Int)) :=
bif a0.1 == (1 : Int) then
((idx c0 a0.2.1).bind fun v2 =>
some (a0.2.2.1, List.set c0 (Int.toNat a0.2.1) (w64 (v2 + (1 : Int)))))
else
((idx c0 a0.2.1).bind fun v4 =>
bif v4 == (0 : Int) then
(some (a0.2.2.2, c0))
else
(some (a0.2.2.1, List.set c0 (Int.toNat a0.2.1) (w64 (v4 - (1 : Int))))))
theorem count_Turn_ok {a0 : (Int × (Int × (Int × Int)))} {c0 : (List Int)} {r : (Int × (List Int))} (h : count_Turn a0 c0 = some r) : FnC Try.prog 48 [aD (.pair tI (.pair tI (.pair tI tI))) a0, .one (.slc 1000)] [(1000, .seq tI c0)] (aI r.1) [(1000, .seq tI r.2)] := by
  refine fnC_of_W (B := bodyOf Try.f48) (n := 34) Try.func48 (by kernel_rfl) (by kernel_rfl) (by kernel_rfl) (by kernel_rfl) (by kernel_rfl) ?_
  intro K
  refine W_seq (by kernel_rfl) ?_
  refine W_run 2 [] [1, 2] [1000, 2] (fr' := [(1, .one (.slc 1000)), (2, .one (.ptr 2 0))]) (L' := [(1000, .seq tI c0), (2, .one (.pair tI (.pair tI (.pair tI tI))) a0)]) (obs := []) (by kernel_rfl) (by kernel_rfl) (by kernel_rfl) allP0 ?_
  refine seqQ_norm ?_
  refine W_seq (by kernel_rfl) ?_
  refine W_seq (by kernel_rfl) ?_
  refine W_run 3 [] [1, 2, 7] [1000, 2] (fr' := [(1, .one (.slc 1000)), (2, .one (.ptr 2 0)), (7, aB (a0.1 == (1 : Int)))]) (L' := [(1000, .seq tI c0), (2, .one (.pair tI (.pair tI (.pair tI tI))) a0)]) (obs := []) (by kernel_rfl) (by kernel_rfl) (by kernel_rfl) allP0 ?_
  refine seqQ_norm ?_
  refine W_cond (o := .tmp 7) (b := a0.1 == (1 : Int)) (by kernel_rfl) (by kernel_rfl) (fun h1 => ?_) (fun h1 => ?_)
  · replace h := ofT h1 h
    refine W_seq (by kernel_rfl) ?_
    obtain ⟨v2, h3, h⟩ := bind_of h
    refine W_run 8 [(9, .val (.dat tI v2))] [2] [2, 1000] (fr' := [(2, .one (.ptr 2 0))]) (L' := [(2, .one (.pair tI (.pair tI (.pair tI tI))) a0), (1000, .seq tI (List.set c0 (Int.toNat a0.2.1) (w64 (v2 + (1 : Int)))))]) (obs := [InR a0.2.1 (List.length c0), Idx c0 a0.2.1 v2, InR a0.2.1 (List.length c0), InR a0.2.1 (List.length c0)]) (by kernel_rfl) (by kernel_rfl) (by kernel_rfl) (allP2 (InR.of h3) (allP2 (Idx.of h3) (allP2 (InR.of h3) (allP1 (InR.of h3))))) ?_
    refine seqQ_norm ?_
    refine W_seq (by kernel_rfl) ?_
    refine W_run 3 [] [4] [1000] (fr' := [(4, aI a0.2.2.1)]) (L' := [(1000, .seq tI (List.set c0 (Int.toNat a0.2.1) (w64 (v2 + (1 : Int)))))]) (obs := []) (by kernel_rfl) (by kernel_rfl) (by kernel_rfl) allP0 ?_
    refine seqQ_norm ?_
    obtain rfl := Option.some.inj h
    refine W_ret [4] [1000] (fr' := [(4, aI a0.2.2.1)]) (L' := [(1000, .seq tI (List.set c0 (Int.toNat a0.2.1) (w64 (v2 + (1 : Int)))))]) (by kernel_rfl) (by kernel_rfl) ?_
    refine seqQ_ret ?_
    exact retQ_mk (by kernel_rfl) (by kernel_rfl) (by kernel_rfl)
  · replace h := ofF h1 h
    refine W_skip [1, 2] [1000, 2] (fr' := [(1, .one (.slc 1000)), (2, .one (.ptr 2 0))]) (L' := [(1000, .seq tI c0), (2, .one (.pair tI (.pair tI (.pair tI tI))) a0)]) (by kernel_rfl) (by kernel_rfl) ?_
    refine seqQ_norm ?_
    refine W_seq (by kernel_rfl) ?_
    refine W_seq (by kernel_rfl) ?_
    obtain ⟨v4, h5, h⟩ := bind_of h
    refine W_run 6 [(9, .val (.dat tI v4))] [1, 2, 22] [1000, 2] (fr' := [(1, .one (.slc 1000)), (2, .one (.ptr 2 0)), (22, aB (v4 == (0 : Int)))]) (L' := [(1000, .seq tI c0), (2, .one (.pair tI (.pair tI (.pair tI tI))) a0)]) (obs := [InR a0.2.1 (List.length c0), Idx c0 a0.2.1 v4]) (by kernel_rfl) (by kernel_rfl) (by kernel_rfl) (allP2 (InR.of h5) (allP1 (Idx.of h5))) ?_
    refine seqQ_norm ?_
    refine W_cond (o := .tmp 22) (b := v4 == (0 : Int)) (by kernel_rfl) (by kernel_rfl) (fun h6 => ?_) (fun h6 => ?_)
    · replace h := ofT h6 h
      refine W_seq (by kernel_rfl) ?_
      refine W_run 3 [] [4] [1000] (fr' := [(4, aI a0.2.2.2)]) (L' := [(1000, .seq tI c0)]) (obs := []) (by kernel_rfl) (by kernel_rfl) (by kernel_rfl) allP0 ?_
      refine seqQ_norm ?_
      obtain rfl := Option.some.inj h
      refine W_ret [4] [1000] (fr' := [(4, aI a0.2.2.2)]) (L' := [(1000, .seq tI c0)]) (by kernel_rfl) (by kernel_rfl) ?_
      refine seqQ_ret ?_
      exact retQ_mk (by kernel_rfl) (by kernel_rfl) (by kernel_rfl)
    · replace h := ofF h6 h
      refine W_skip [1, 2] [1000, 2] (fr' := [(1, .one (.slc 1000)), (2, .one (.ptr 2 0))]) (L' := [(1000, .seq tI c0), (2, .one (.pair tI (.pair tI (.pair tI tI))) a0)]) (by kernel_rfl) (by kernel_rfl) ?_
      refine seqQ_norm ?_
      refine W_seq (by kernel_rfl) ?_
      refine W_run 8 [(9, .val (.dat tI v4))] [2] [2, 1000] (fr' := [(2, .one (.ptr 2 0))]) (L' := [(2, .one (.pair tI (.pair tI (.pair tI tI))) a0), (1000, .seq tI (List.set c0 (Int.toNat a0.2.1) (w64 (v4 - (1 : Int)))))]) (obs := [InR a0.2.1 (List.length c0), Idx c0 a0.2.1 v4, InR a0.2.1 (List.length c0), InR a0.2.1 (List.length c0)]) (by kernel_rfl) (by kernel_rfl) (by kernel_rfl) (allP2 (InR.of h5) (allP2 (Idx.of h5) (allP2 (InR.of h5) (allP1 (InR.of h5))))) ?_
      refine seqQ_norm ?_
      refine W_seq (by kernel_rfl) ?_
      refine W_run 3 [] [4] [1000] (fr' := [(4, aI a0.2.2.1)]) (L' := [(1000, .seq tI (List.set c0 (Int.toNat a0.2.1) (w64 (v4 - (1 : Int)))))]) (obs := []) (by kernel_rfl) (by kernel_rfl) (by kernel_rfl) allP0 ?_
      refine seqQ_norm ?_
      obtain rfl := Option.some.inj h
      refine W_ret [4] [1000] (fr' := [(4, aI a0.2.2.1)]) (L' := [(1000, .seq tI (List.set c0 (Int.toNat a0.2.1) (w64 (v4 - (1 : Int)))))]) (by kernel_rfl) (by kernel_rfl) ?_
      exact retQ_mk (by kernel_rfl) (by kernel_rfl) (by kernel_rfl)

noncomputable def count_Run_b1 (a1 : (List (Int × (Int × (Int × Int))))) (a3 : Int) (x17 : (Int × Int × (List Int))) : Option (Flow (Int × Int × (List Int)) (Int × Int × (List Int))) :=
bif (decide (x17.2.1 < a3)) && (decide (x17.1 < (List.length a1 : Int))) then
((idx a1 x17.1).bind fun v24 =>
(count_Turn v24 x17.2.2).bind fun r26 =>
some (.next (r26.1, w64 (x17.2.1 + (1 : Int)), r26.2)))
else
(some (.done (x17.1, x17.2.1, x17.2.2)))
@[reducible] def count_Run_s2 (a1 : (List (Int × (Int × (Int × Int))))) (a3 : Int) (v : (Int × Int × (List Int))) : Fr × LL := ([(1, aD (.slice (.pair tI (.pair tI (.pair tI tI)))) a1), (3, aI a3), (13, .one (.slc 35)), (14, aI v.1), (15, aI v.2.1)], [(35, .seq tI v.2.2)])
@[reducible] def count_Run_s3 (v : (Int × Int × (List Int))) : Fr × LL := ([(13, .one (.slc 35)), (14, aI v.1), (15, aI v.2.1)], [(35, .seq tI v.2.2)])
noncomputable def count_Run (fuel : Nat) (a0 : Int) (a1 : (List (Int × (Int × (Int × Int))))) (a2 : (List Int)) (a3 : Int) : Option ((List Int) × Int × Int × Int) :=
(count_Check a0 a1).bind fun r1 =>
bif r1 != (0 : Int) then
(some ([], (0 : Int), (0 : Int), r1))
else
(bif (List.length a2 : Int) != a0 then
(some ([], (0 : Int), (0 : Int), (3 : Int)))
else
((slices_ContainsFunc_Lintint_with_count_Run_1 a2).bind fun r5 =>
bif r5 then
(some ([], (0 : Int), (0 : Int), (4 : Int)))
else
(bif (decide (a3 < (0 : Int))) || (decide (a3 > (400 : Int))) then
(some ([], (0 : Int), (0 : Int), (7 : Int)))
else
((slices_Clone_Lintint a2).bind fun r9 =>
(iter (count_Run_b1 a1 a3) fuel ((0 : Int), (0 : Int), r9)).bind fun v28 =>
some (v28.2.2, v28.1, v28.2.1, (0 : Int))))))
theorem count_Run_ok {fuel : Nat} {a0 : Int} {a1 : (List (Int × (Int × (Int × Int))))} {a2 : (List Int)} {a3 : Int} {r : ((List Int) × Int × Int × Int)} (h : count_Run fuel a0 a1 a2 a3 = some r) : FnC Try.prog 29 [aI a0, aD (.slice (.pair tI (.pair tI (.pair tI tI)))) a1, aD (.slice tI) a2, aI a3] [] (.tup [.dat (.slice tI) r.1, .dat tI r.2.1, .dat tI r.2.2.1, .dat tI r.2.2.2]) [] := by
  refine fnC_of_W (B := bodyOf Try.f29) (n := 56) Try.func29 (by kernel_rfl) (by kernel_rfl) (by kernel_rfl) (by kernel_rfl) (by kernel_rfl) ?_
  intro K
  refine W_seq (by kernel_rfl) ?_
  refine W_run 4 [] [0, 1, 2, 3] [] (fr' := [(0, aI a0), (1, aD (.slice (.pair tI (.pair tI (.pair tI tI)))) a1), (2, aD (.slice tI) a2), (3, aI a3)]) (L' := []) (obs := []) (by kernel_rfl) (by kernel_rfl) (by kernel_rfl) allP0 ?_
  refine seqQ_norm ?_
  refine W_seq (by kernel_rfl) ?_
  refine W_seq (by kernel_rfl) ?_
  refine W_region (by kernel_rfl) ?_
  refine WO_run (j := 2) (k := 2) (orcs := []) (kF := [0, 1, 2, 3, 16, 17]) (kL := []) (fr' := [(0, aI a0), (1, aD (.slice (.pair tI (.pair tI (.pair tI tI)))) a1), (2, aD (.slice tI) a2), (3, aI a3), (16, aI a0), (17, aD (.slice (.pair tI (.pair tI (.pair tI tI)))) a1)]) (L' := []) (obs := []) rfl (by kernel_rfl) allP0 ?_
  obtain ⟨r1, h2, h⟩ := bind_of h
  refine WO_call0 (us := [none, none]) (d := 18) (p := True) (j := 3) rfl ⟨by kernel_rfl, by kernel_rfl, by kernel_rfl⟩ trivial (count_Check_ok h2) (by kernel_rfl) ?_
  refine WO_run (j := 4) (k := 1) (orcs := []) (kF := [0, 1, 2, 3, 12]) (kL := []) (fr' := [(0, aI a0), (1, aD (.slice (.pair tI (.pair tI (.pair tI tI)))) a1), (2, aD (.slice tI) a2), (3, aI a3), (12, aI r1)]) (L' := []) (obs := []) rfl (by kernel_rfl) allP0 ?_
  refine WO_fin [0, 1, 2, 3, 12] [] (fr' := [(0, aI a0), (1, aD (.slice (.pair tI (.pair tI (.pair tI tI)))) a1), (2, aD (.slice tI) a2), (3, aI a3), (12, aI r1)]) (L' := []) (by kernel_rfl) (by kernel_rfl) ?_
  refine seqQ_norm ?_
  refine W_seq (by kernel_rfl) ?_
  refine W_run 2 [] [0, 1, 2, 3, 12, 20] [] (fr' := [(0, aI a0), (1, aD (.slice (.pair tI (.pair tI (.pair tI tI)))) a1), (2, aD (.slice tI) a2), (3, aI a3), (12, aI r1), (20, aB (r1 != (0 : Int)))]) (L' := []) (obs := []) (by kernel_rfl) (by kernel_rfl) (by kernel_rfl) allP0 ?_
  refine seqQ_norm ?_
  refine W_cond (o := .tmp 20) (b := r1 != (0 : Int)) (by kernel_rfl) (by kernel_rfl) (fun h3 => ?_) (fun h3 => ?_)
  · replace h := ofT h3 h
    refine W_seq (by kernel_rfl) ?_
    refine W_run 5 [] [8, 9, 10, 11] [] (fr' := [(8, .one (.nilS)), (9, aI (0 : Int)), (10, aI (0 : Int)), (11, aI r1)]) (L' := []) (obs := []) (by kernel_rfl) (by kernel_rfl) (by kernel_rfl) allP0 ?_
    refine seqQ_norm ?_
    obtain rfl := Option.some.inj h
    refine W_cnv 8 (.slice tI) (by kernel_rfl) ?_
    refine W_ret [8, 9, 10, 11] [] (fr' := [(8, aD (.slice tI) []), (9, aI (0 : Int)), (10, aI (0 : Int)), (11, aI r1)]) (L' := []) (by kernel_rfl) (by kernel_rfl) ?_
    refine seqQ_ret ?_
    exact retQ_mk (by kernel_rfl) (by kernel_rfl) (by kernel_rfl)
  · replace h := ofF h3 h
    refine W_skip [0, 1, 2, 3] [] (fr' := [(0, aI a0), (1, aD (.slice (.pair tI (.pair tI (.pair tI tI)))) a1), (2, aD (.slice tI) a2), (3, aI a3)]) (L' := []) (by kernel_rfl) (by kernel_rfl) ?_
    refine seqQ_norm ?_
    refine W_seq (by kernel_rfl) ?_
    refine W_seq (by kernel_rfl) ?_
    refine W_run 4 [] [1, 2, 3, 25] [] (fr' := [(1, aD (.slice (.pair tI (.pair tI (.pair tI tI)))) a1), (2, aD (.slice tI) a2), (3, aI a3), (25, aB ((List.length a2 : Int) != a0))]) (L' := []) (obs := []) (by kernel_rfl) (by kernel_rfl) (by kernel_rfl) allP0 ?_
    refine seqQ_norm ?_
    refine W_cond (o := .tmp 25) (b := (List.length a2 : Int) != a0) (by kernel_rfl) (by kernel_rfl) (fun h4 => ?_) (fun h4 => ?_)
    · replace h := ofT h4 h
      refine W_seq (by kernel_rfl) ?_
      refine W_run 4 [] [8, 9, 10, 11] [] (fr' := [(8, .one (.nilS)), (9, aI (0 : Int)), (10, aI (0 : Int)), (11, aI (3 : Int))]) (L' := []) (obs := []) (by kernel_rfl) (by kernel_rfl) (by kernel_rfl) allP0 ?_
      refine seqQ_norm ?_
      obtain rfl := Option.some.inj h
      refine W_cnv 8 (.slice tI) (by kernel_rfl) ?_
      refine W_ret [8, 9, 10, 11] [] (fr' := [(8, aD (.slice tI) []), (9, aI (0 : Int)), (10, aI (0 : Int)), (11, aI (3 : Int))]) (L' := []) (by kernel_rfl) (by kernel_rfl) ?_
      refine seqQ_ret ?_
      exact retQ_mk (by kernel_rfl) (by kernel_rfl) (by kernel_rfl)
    · replace h := ofF h4 h
      refine W_skip [1, 2, 3] [] (fr' := [(1, aD (.slice (.pair tI (.pair tI (.pair tI tI)))) a1), (2, aD (.slice tI) a2), (3, aI a3)]) (L' := []) (by kernel_rfl) (by kernel_rfl) ?_
      refine seqQ_norm ?_
      refine W_seq (by kernel_rfl) ?_
      refine W_seq (by kernel_rfl) ?_
      refine W_region (by kernel_rfl) ?_
      refine WO_run (j := 1) (k := 1) (orcs := []) (kF := [1, 2, 3, 26]) (kL := []) (fr' := [(1, aD (.slice (.pair tI (.pair tI (.pair tI tI)))) a1), (2, aD (.slice tI) a2), (3, aI a3), (26, aD (.slice tI) a2)]) (L' := []) (obs := []) rfl (by kernel_rfl) allP0 ?_
      obtain ⟨r5, h6, h⟩ := bind_of h
      refine WO_call0 (us := [none, none]) (d := 27) (p := True) (j := 2) rfl ⟨by kernel_rfl, by kernel_rfl, by kernel_rfl⟩ trivial (slices_ContainsFunc_Lintint_with_count_Run_1_ok h6) (by kernel_rfl) ?_
      refine WO_fin [1, 2, 3, 27] [] (fr' := [(1, aD (.slice (.pair tI (.pair tI (.pair tI tI)))) a1), (2, aD (.slice tI) a2), (3, aI a3), (27, aB r5)]) (L' := []) (by kernel_rfl) (by kernel_rfl) ?_
      refine seqQ_norm ?_
      refine W_cond (o := .tmp 27) (b := r5) (by kernel_rfl) (by kernel_rfl) (fun h7 => ?_) (fun h7 => ?_)
      · replace h := ofT h7 h
        refine W_seq (by kernel_rfl) ?_
        refine W_run 4 [] [8, 9, 10, 11] [] (fr' := [(8, .one (.nilS)), (9, aI (0 : Int)), (10, aI (0 : Int)), (11, aI (4 : Int))]) (L' := []) (obs := []) (by kernel_rfl) (by kernel_rfl) (by kernel_rfl) allP0 ?_
        refine seqQ_norm ?_
        obtain rfl := Option.some.inj h
        refine W_cnv 8 (.slice tI) (by kernel_rfl) ?_
        refine W_ret [8, 9, 10, 11] [] (fr' := [(8, aD (.slice tI) []), (9, aI (0 : Int)), (10, aI (0 : Int)), (11, aI (4 : Int))]) (L' := []) (by kernel_rfl) (by kernel_rfl) ?_
        refine seqQ_ret ?_
        exact retQ_mk (by kernel_rfl) (by kernel_rfl) (by kernel_rfl)
      · replace h := ofF h7 h
        refine W_skip [1, 2, 3] [] (fr' := [(1, aD (.slice (.pair tI (.pair tI (.pair tI tI)))) a1), (2, aD (.slice tI) a2), (3, aI a3)]) (L' := []) (by kernel_rfl) (by kernel_rfl) ?_
        refine seqQ_norm ?_
        refine W_seq (by kernel_rfl) ?_
        refine W_seq (by kernel_rfl) ?_
        refine W_run 6 [] [1, 2, 3, 33] [] (fr' := [(1, aD (.slice (.pair tI (.pair tI (.pair tI tI)))) a1), (2, aD (.slice tI) a2), (3, aI a3), (33, aB ((decide (a3 < (0 : Int))) || (decide (a3 > (400 : Int)))))]) (L' := []) (obs := []) (by kernel_rfl) (by kernel_rfl) (by kernel_rfl) allP0 ?_
        refine seqQ_norm ?_
        refine W_cond (o := .tmp 33) (b := (decide (a3 < (0 : Int))) || (decide (a3 > (400 : Int)))) (by kernel_rfl) (by kernel_rfl) (fun h8 => ?_) (fun h8 => ?_)
        · replace h := ofT h8 h
          refine W_seq (by kernel_rfl) ?_
          refine W_run 4 [] [8, 9, 10, 11] [] (fr' := [(8, .one (.nilS)), (9, aI (0 : Int)), (10, aI (0 : Int)), (11, aI (7 : Int))]) (L' := []) (obs := []) (by kernel_rfl) (by kernel_rfl) (by kernel_rfl) allP0 ?_
          refine seqQ_norm ?_
          obtain rfl := Option.some.inj h
          refine W_cnv 8 (.slice tI) (by kernel_rfl) ?_
          refine W_ret [8, 9, 10, 11] [] (fr' := [(8, aD (.slice tI) []), (9, aI (0 : Int)), (10, aI (0 : Int)), (11, aI (7 : Int))]) (L' := []) (by kernel_rfl) (by kernel_rfl) ?_
          refine seqQ_ret ?_
          exact retQ_mk (by kernel_rfl) (by kernel_rfl) (by kernel_rfl)
        · replace h := ofF h8 h
          refine W_skip [1, 2, 3] [] (fr' := [(1, aD (.slice (.pair tI (.pair tI (.pair tI tI)))) a1), (2, aD (.slice tI) a2), (3, aI a3)]) (L' := []) (by kernel_rfl) (by kernel_rfl) ?_
          refine seqQ_norm ?_
          refine W_seq (by kernel_rfl) ?_
          refine W_region (by kernel_rfl) ?_
          refine WO_run (j := 1) (k := 1) (orcs := []) (kF := [1, 3, 34]) (kL := []) (fr' := [(1, aD (.slice (.pair tI (.pair tI (.pair tI tI)))) a1), (3, aI a3), (34, aD (.slice tI) a2)]) (L' := []) (obs := []) rfl (by kernel_rfl) allP0 ?_
          obtain ⟨r9, h10, h⟩ := bind_of h
          refine WO_call1 (us := [none]) (d := 35) (t := 35) (p := True) (j := 2) rfl ⟨by kernel_rfl, by kernel_rfl, by kernel_rfl⟩ trivial (slices_Clone_Lintint_ok h10) (by kernel_rfl) ?_
          refine WO_run (j := 3) (k := 1) (orcs := []) (kF := [1, 3, 13]) (kL := [35]) (fr' := [(1, aD (.slice (.pair tI (.pair tI (.pair tI tI)))) a1), (3, aI a3), (13, .one (.slc 35))]) (L' := [(35, .seq tI r9)]) (obs := []) rfl (by kernel_rfl) allP0 ?_
          refine WO_fin [1, 3, 13] [35] (fr' := [(1, aD (.slice (.pair tI (.pair tI (.pair tI tI)))) a1), (3, aI a3), (13, .one (.slc 35))]) (L' := [(35, .seq tI r9)]) (by kernel_rfl) (by kernel_rfl) ?_
          refine seqQ_norm ?_
          refine W_seq (by kernel_rfl) ?_
          refine W_run 2 [] [1, 3, 13, 14, 15] [35] (fr' := [(1, aD (.slice (.pair tI (.pair tI (.pair tI tI)))) a1), (3, aI a3), (13, .one (.slc 35)), (14, aI (0 : Int)), (15, aI (0 : Int))]) (L' := [(35, .seq tI r9)]) (obs := []) (by kernel_rfl) (by kernel_rfl) (by kernel_rfl) allP0 ?_
          refine seqQ_norm ?_
          refine W_seq (by kernel_rfl) ?_
          refine W_block (id := 0) (by kernel_rfl) ?_
          obtain ⟨v28, h29, h⟩ := bind_of h
          refine W_weaken [1, 3, 13, 14, 15] [35] (fr' := ((count_Run_s2 a1 a3) ((0 : Int), (0 : Int), r9)).1) (L' := ((count_Run_s2 a1 a3) ((0 : Int), (0 : Int), r9)).2) (by kernel_rfl) ?_
          refine W_cutK (W_loop (S := (count_Run_s2 a1 a3)) (J := (exQ (.exit 0) count_Run_s3)) (by kernel_rfl) ?_ fuel _ v28 h29) ?_
          · rintro x17 s h
            refine W_seq (by kernel_rfl) ?_
            refine W_seq (by kernel_rfl) ?_
            refine W_run 9 [] [1, 3, 13, 14, 15, 44] [35] (fr' := [(1, aD (.slice (.pair tI (.pair tI (.pair tI tI)))) a1), (3, aI a3), (13, .one (.slc 35)), (14, aI x17.1), (15, aI x17.2.1), (44, aB ((decide (x17.2.1 < a3)) && (decide (x17.1 < (List.length a1 : Int)))))]) (L' := [(35, .seq tI x17.2.2)]) (obs := []) (by kernel_rfl) (by kernel_rfl) (by kernel_rfl) allP0 ?_
            refine seqQ_norm ?_
            refine W_cond (o := .tmp 44) (b := (decide (x17.2.1 < a3)) && (decide (x17.1 < (List.length a1 : Int)))) (by kernel_rfl) (by kernel_rfl) (fun h23 => ?_) (fun h23 => ?_)
            · replace h := ofT h23 h
              refine W_skip [1, 3, 13, 14, 15] [35] (fr' := [(1, aD (.slice (.pair tI (.pair tI (.pair tI tI)))) a1), (3, aI a3), (13, .one (.slc 35)), (14, aI x17.1), (15, aI x17.2.1)]) (L' := [(35, .seq tI x17.2.2)]) (by kernel_rfl) (by kernel_rfl) ?_
              refine seqQ_norm ?_
              refine W_seq (by kernel_rfl) ?_
              refine W_block (id := 1) (by kernel_rfl) ?_
              obtain ⟨v24, h25, h⟩ := bind_of h
              refine W_region (by kernel_rfl) ?_
              refine WO_run (j := 5) (k := 5) (orcs := [(5, .val (.dat (.pair tI (.pair tI (.pair tI tI))) v24))]) (kF := [1, 3, 13, 14, 15, 50, 51]) (kL := [35]) (fr' := [(1, aD (.slice (.pair tI (.pair tI (.pair tI tI)))) a1), (3, aI a3), (13, .one (.slc 35)), (14, aI x17.1), (15, aI x17.2.1), (50, aD (.pair tI (.pair tI (.pair tI tI))) v24), (51, .one (.slc 35))]) (L' := [(35, .seq tI x17.2.2)]) (obs := [Idx a1 x17.1 v24]) rfl (by kernel_rfl) (allP1 (Idx.of h25)) ?_
              obtain ⟨r26, h27, h⟩ := bind_of h
              refine WO_lend [(1000, 35)] (us := [none, none]) (d := 52) (p := True) (j := 6) rfl ⟨by kernel_rfl, by kernel_rfl, by kernel_rfl⟩ trivial (count_Turn_ok h27) (by kernel_rfl) (by kernel_rfl) ?_
              refine WO_run (j := 7) (k := 1) (orcs := []) (kF := [1, 3, 13, 14, 15]) (kL := [35]) (fr' := [(1, aD (.slice (.pair tI (.pair tI (.pair tI tI)))) a1), (3, aI a3), (13, .one (.slc 35)), (14, aI r26.1), (15, aI x17.2.1)]) (L' := [(35, .seq tI r26.2)]) (obs := []) rfl (by kernel_rfl) allP0 ?_
              refine WO_fin [1, 3, 13, 14, 15] [35] (fr' := [(1, aD (.slice (.pair tI (.pair tI (.pair tI tI)))) a1), (3, aI a3), (13, .one (.slc 35)), (14, aI r26.1), (15, aI x17.2.1)]) (L' := [(35, .seq tI r26.2)]) (by kernel_rfl) (by kernel_rfl) ?_
              refine blockQ_norm ?_
              refine seqQ_norm ?_
              obtain rfl := Option.some.inj h
              refine W_run 3 [] [1, 3, 13, 14, 15] [35] (fr' := [(1, aD (.slice (.pair tI (.pair tI (.pair tI tI)))) a1), (3, aI a3), (13, .one (.slc 35)), (14, aI r26.1), (15, aI (w64 (x17.2.1 + (1 : Int))))]) (L' := [(35, .seq tI r26.2)]) (obs := []) (by kernel_rfl) (by kernel_rfl) (by kernel_rfl) allP0 ?_
              exact round_next' (by kernel_rfl) (by kernel_rfl)
            · replace h := ofF h23 h
              obtain rfl := Option.some.inj h
              refine W_exit (id := 0) [13, 14, 15] [35] (fr' := [(13, .one (.slc 35)), (14, aI x17.1), (15, aI x17.2.1)]) (L' := [(35, .seq tI x17.2.2)]) (by kernel_rfl) (by kernel_rfl) ?_
              refine seqQ_exit ?_
              refine round_exit ?_
              exact exQ_mk (by kernel_rfl) (by kernel_rfl)
          · intro e fr L hJ
            obtain ⟨rfl, rfl, rfl⟩ := hJ
            refine LT_keep [13, 14, 15] [35] (fr' := [(13, .one (.slc 35)), (14, aI v28.1), (15, aI v28.2.1)]) (L' := [(35, .seq tI v28.2.2)]) (by kernel_rfl) ?_
            refine blockQ_hit ?_
            refine seqQ_norm ?_
            refine W_seq (by kernel_rfl) ?_
            refine W_run 7 [] [8, 9, 10, 11] [35] (fr' := [(8, .one (.slc 35)), (9, aI v28.1), (10, aI v28.2.1), (11, aI (0 : Int))]) (L' := [(35, .seq tI v28.2.2)]) (obs := []) (by kernel_rfl) (by kernel_rfl) (by kernel_rfl) allP0 ?_
            refine seqQ_norm ?_
            obtain rfl := Option.some.inj h
            refine W_frz 35 (by kernel_rfl) ?_
            refine W_ret [8, 9, 10, 11] [] (fr' := [(8, aD (.slice tI) v28.2.2), (9, aI v28.1), (10, aI v28.2.1), (11, aI (0 : Int))]) (L' := []) (by kernel_rfl) (by kernel_rfl) ?_
            exact retQ_mk (by kernel_rfl) (by kernel_rfl) (by kernel_rfl)

noncomputable def two_Pack_b7 (i50 : Int) (i65 : Int) (x66 : Int) : Option (Flow Int Int) :=
(two_prime i50).bind fun r69 =>
some (.next (w64 (x66 * r69)))
@[reducible] def two_Pack_s8 (a0 : (List Int)) (i50 : Int) (v53 : Int) (v : Int × Int) : Fr × LL := ([(4, aI v.2), (5, aI i50), (15, aD (.slice tI) a0), (16, aI (List.length a0 : Int)), (17, aI i50), (28, aI v53), (29, aI v.1)], [])
@[reducible] def two_Pack_s9 (a0 : (List Int)) (i50 : Int) (v : Int) : Fr × LL := ([(4, aI v), (15, aD (.slice tI) a0), (16, aI (List.length a0 : Int)), (17, aI i50)], [])
noncomputable def two_Pack_b10 (i50 : Int) (v53 : Int) (x51 : Int) : Option (Flow Int (Esc (Int × Int) Int)) :=
bif (decide (v53 < (0 : Int))) || (decide (v53 > (4 : Int))) then
(some (.done (.ret ((0 : Int), (4 : Int)))))
else
((forI (0 : Int) v53 (two_Pack_b7 i50) (fun x66 => x66) x51).bind fun v72 =>
some (.next v72))
@[reducible] def two_Pack_s11 (a0 : (List Int)) (v : Int × Int) : Fr × LL := ([(4, aI v.2), (15, aD (.slice tI) a0), (16, aI (List.length a0 : Int)), (17, aI v.1)], [])
@[reducible] def two_Pack_s12 (v : (Int × Int)) : Fr × LL := ([(2, aI v.1), (3, aI v.2)], [])
@[reducible] def two_Pack_s13 (v : Int) : Fr × LL := ([(4, aI v)], [])
noncomputable def two_Pack (a0 : (List Int)) : Option (Int × Int) :=
bif (decide ((List.length a0 : Int) < (1 : Int))) || (decide ((List.length a0 : Int) > (4 : Int))) then
(some ((0 : Int), (1 : Int)))
else
((forL two_Pack_b10 (fun x51 => (.brk x51)) a0 0 (1 : Int)).bind fun v77 =>
match v77 with
| .ret v82 =>
(some (v82.1, v82.2))
| .brk v83 =>
(some (v83, (0 : Int))))
theorem two_Pack_ok {a0 : (List Int)} {r : (Int × Int)} (h : two_Pack a0 = some r) : FnC Try.prog 30 [aD (.slice tI) a0] [] (.tup [.dat tI r.1, .dat tI r.2]) [] := by
  refine fnC_of_W (B := bodyOf Try.f30) (n := 38) Try.func30 (by kernel_rfl) (by kernel_rfl) (by kernel_rfl) (by kernel_rfl) (by kernel_rfl) ?_
  intro K
  refine W_seq (by kernel_rfl) ?_
  refine W_run 2 [] [0] [] (fr' := [(0, aD (.slice tI) a0)]) (L' := []) (obs := []) (by kernel_rfl) (by kernel_rfl) (by kernel_rfl) allP0 ?_
  refine seqQ_norm ?_
  refine W_seq (by kernel_rfl) ?_
  refine W_seq (by kernel_rfl) ?_
  refine W_run 8 [] [0, 14] [] (fr' := [(0, aD (.slice tI) a0), (14, aB ((decide ((List.length a0 : Int) < (1 : Int))) || (decide ((List.length a0 : Int) > (4 : Int)))))]) (L' := []) (obs := []) (by kernel_rfl) (by kernel_rfl) (by kernel_rfl) allP0 ?_
  refine seqQ_norm ?_
  refine W_cond (o := .tmp 14) (b := (decide ((List.length a0 : Int) < (1 : Int))) || (decide ((List.length a0 : Int) > (4 : Int)))) (by kernel_rfl) (by kernel_rfl) (fun h1 => ?_) (fun h1 => ?_)
  · replace h := ofT h1 h
    refine W_seq (by kernel_rfl) ?_
    refine W_run 2 [] [2, 3] [] (fr' := [(2, aI (0 : Int)), (3, aI (1 : Int))]) (L' := []) (obs := []) (by kernel_rfl) (by kernel_rfl) (by kernel_rfl) allP0 ?_
    refine seqQ_norm ?_
    obtain rfl := Option.some.inj h
    refine W_ret [2, 3] [] (fr' := [(2, aI (0 : Int)), (3, aI (1 : Int))]) (L' := []) (by kernel_rfl) (by kernel_rfl) ?_
    refine seqQ_ret ?_
    exact retQ_mk (by kernel_rfl) (by kernel_rfl) (by kernel_rfl)
  · replace h := ofF h1 h
    refine W_skip [0] [] (fr' := [(0, aD (.slice tI) a0)]) (L' := []) (by kernel_rfl) (by kernel_rfl) ?_
    refine seqQ_norm ?_
    refine W_seq (by kernel_rfl) ?_
    refine W_run 1 [] [0, 4] [] (fr' := [(0, aD (.slice tI) a0), (4, aI (1 : Int))]) (L' := []) (obs := []) (by kernel_rfl) (by kernel_rfl) (by kernel_rfl) allP0 ?_
    refine seqQ_norm ?_
    refine W_seq (by kernel_rfl) ?_
    refine W_seq (by kernel_rfl) ?_
    refine W_run 3 [] [4, 15, 16, 17] [] (fr' := [(4, aI (1 : Int)), (15, aD (.slice tI) a0), (16, aI (List.length a0 : Int)), (17, aI (0 : Int))]) (L' := []) (obs := []) (by kernel_rfl) (by kernel_rfl) (by kernel_rfl) allP0 ?_
    refine seqQ_norm ?_
    refine W_block (id := 0) (by kernel_rfl) ?_
    obtain ⟨v77, h78, h⟩ := bind_of h
    refine W_len (t := 15) (u := tI) (xs := a0) (by kernel_rfl) (fun h81 => ?_)
    obtain ⟨h79, h80⟩ := forL_iter h81 h78
    refine W_weaken [4, 15, 16, 17] [] (fr' := ((two_Pack_s11 a0) ((0 : Int), (1 : Int))).1) (L' := ((two_Pack_s11 a0) ((0 : Int), (1 : Int))).2) (by kernel_rfl) ?_
    refine W_cutK (W_loop (S := (two_Pack_s11 a0)) (J := (escQ (exQ .ret two_Pack_s12) (exQ (.exit 0) two_Pack_s13))) (by kernel_rfl) ?_ h79 _ v77 h80) ?_
    · rintro ⟨i50, x51⟩ s h
      refine W_seq (by kernel_rfl) ?_
      refine W_run 1 [] [4, 15, 16, 17, 18] [] (fr' := [(4, aI x51), (15, aD (.slice tI) a0), (16, aI (List.length a0 : Int)), (17, aI i50), (18, aB (decide (i50 < (List.length a0 : Int))))]) (L' := []) (obs := []) (by kernel_rfl) (by kernel_rfl) (by kernel_rfl) allP0 ?_
      refine seqQ_norm ?_
      refine W_seq (by kernel_rfl) ?_
      refine W_cond (o := .tmp 18) (b := decide (i50 < (List.length a0 : Int))) (by kernel_rfl) (by kernel_rfl) (fun h55 => ?_) (fun h55 => ?_)
      · replace h := stepL_true h55 h
        obtain ⟨v53, _, h54, h, rfl⟩ := h
        refine W_skip [4, 15, 16, 17] [] (fr' := [(4, aI x51), (15, aD (.slice tI) a0), (16, aI (List.length a0 : Int)), (17, aI i50)]) (L' := []) (by kernel_rfl) (by kernel_rfl) ?_
        refine seqQ_norm ?_
        refine W_seq (by kernel_rfl) ?_
        refine W_block (id := 1) (by kernel_rfl) ?_
        refine W_seq (by kernel_rfl) ?_
        refine W_run 5 [(3, .val (.dat tI v53))] [4, 5, 6, 15, 16, 17] [] (fr' := [(4, aI x51), (5, aI i50), (6, aI v53), (15, aD (.slice tI) a0), (16, aI (List.length a0 : Int)), (17, aI i50)]) (L' := []) (obs := [Idx a0 i50 v53]) (by kernel_rfl) (by kernel_rfl) (by kernel_rfl) (allP1 (Idx.of h54)) ?_
        refine seqQ_norm ?_
        refine W_seq (by kernel_rfl) ?_
        refine W_seq (by kernel_rfl) ?_
        refine W_run 6 [] [4, 5, 6, 15, 16, 17, 27] [] (fr' := [(4, aI x51), (5, aI i50), (6, aI v53), (15, aD (.slice tI) a0), (16, aI (List.length a0 : Int)), (17, aI i50), (27, aB ((decide (v53 < (0 : Int))) || (decide (v53 > (4 : Int)))))]) (L' := []) (obs := []) (by kernel_rfl) (by kernel_rfl) (by kernel_rfl) allP0 ?_
        refine seqQ_norm ?_
        refine W_cond (o := .tmp 27) (b := (decide (v53 < (0 : Int))) || (decide (v53 > (4 : Int)))) (by kernel_rfl) (by kernel_rfl) (fun h56 => ?_) (fun h56 => ?_)
        · replace h := ofT h56 h
          refine W_seq (by kernel_rfl) ?_
          refine W_run 2 [] [2, 3] [] (fr' := [(2, aI (0 : Int)), (3, aI (4 : Int))]) (L' := []) (obs := []) (by kernel_rfl) (by kernel_rfl) (by kernel_rfl) allP0 ?_
          refine seqQ_norm ?_
          obtain rfl := Option.some.inj h
          refine W_ret [2, 3] [] (fr' := [(2, aI (0 : Int)), (3, aI (4 : Int))]) (L' := []) (by kernel_rfl) (by kernel_rfl) ?_
          refine seqQ_ret ?_
          refine blockQ_ret ?_
          refine seqQ_ret ?_
          refine round_ret ?_
          refine escQ_ret ?_
          exact exQ_mk (by kernel_rfl) (by kernel_rfl)
        · replace h := ofF h56 h
          refine W_skip [4, 5, 6, 15, 16, 17] [] (fr' := [(4, aI x51), (5, aI i50), (6, aI v53), (15, aD (.slice tI) a0), (16, aI (List.length a0 : Int)), (17, aI i50)]) (L' := []) (by kernel_rfl) (by kernel_rfl) ?_
          refine seqQ_norm ?_
          refine W_seq (by kernel_rfl) ?_
          refine W_run 2 [] [4, 5, 15, 16, 17, 28, 29] [] (fr' := [(4, aI x51), (5, aI i50), (15, aD (.slice tI) a0), (16, aI (List.length a0 : Int)), (17, aI i50), (28, aI v53), (29, aI (0 : Int))]) (L' := []) (obs := []) (by kernel_rfl) (by kernel_rfl) (by kernel_rfl) allP0 ?_
          refine seqQ_norm ?_
          refine W_block (id := 2) (by kernel_rfl) ?_
          obtain ⟨v72, h73, h⟩ := bind_of h
          obtain ⟨h74, h75⟩ := forI_iter h73
          refine W_weaken [4, 5, 15, 16, 17, 28, 29] [] (fr' := ((two_Pack_s8 a0 i50 v53) ((0 : Int), x51)).1) (L' := ((two_Pack_s8 a0 i50 v53) ((0 : Int), x51)).2) (by kernel_rfl) ?_
          refine W_cutK (W_loop (S := (two_Pack_s8 a0 i50 v53)) (J := (exQ (.exit 2) (two_Pack_s9 a0 i50))) (by kernel_rfl) ?_ h74 _ v72 h75) ?_
          · rintro ⟨i65, x66⟩ s h
            refine W_seq (by kernel_rfl) ?_
            refine W_run 1 [] [4, 5, 15, 16, 17, 28, 29, 30] [] (fr' := [(4, aI x66), (5, aI i50), (15, aD (.slice tI) a0), (16, aI (List.length a0 : Int)), (17, aI i50), (28, aI v53), (29, aI i65), (30, aB (decide (i65 < v53)))]) (L' := []) (obs := []) (by kernel_rfl) (by kernel_rfl) (by kernel_rfl) allP0 ?_
            refine seqQ_norm ?_
            refine W_seq (by kernel_rfl) ?_
            refine W_cond (o := .tmp 30) (b := decide (i65 < v53)) (by kernel_rfl) (by kernel_rfl) (fun h68 => ?_) (fun h68 => ?_)
            · replace h := stepI_true h68 h
              obtain ⟨_, h, rfl⟩ := h
              refine W_skip [4, 5, 15, 16, 17, 28, 29] [] (fr' := [(4, aI x66), (5, aI i50), (15, aD (.slice tI) a0), (16, aI (List.length a0 : Int)), (17, aI i50), (28, aI v53), (29, aI i65)]) (L' := []) (by kernel_rfl) (by kernel_rfl) ?_
              refine seqQ_norm ?_
              refine W_seq (by kernel_rfl) ?_
              refine W_block (id := 3) (by kernel_rfl) ?_
              refine W_region (by kernel_rfl) ?_
              refine WO_run (j := 2) (k := 2) (orcs := []) (kF := [4, 5, 15, 16, 17, 28, 29, 31, 32]) (kL := []) (fr' := [(4, aI x66), (5, aI i50), (15, aD (.slice tI) a0), (16, aI (List.length a0 : Int)), (17, aI i50), (28, aI v53), (29, aI i65), (31, aI x66), (32, aI i50)]) (L' := []) (obs := []) rfl (by kernel_rfl) allP0 ?_
              obtain ⟨r69, h70, h⟩ := bind_of h
              refine WO_call0 (us := [none]) (d := 33) (p := True) (j := 3) rfl ⟨by kernel_rfl, by kernel_rfl, by kernel_rfl⟩ trivial (two_prime_ok h70) (by kernel_rfl) ?_
              refine WO_run (j := 5) (k := 2) (orcs := []) (kF := [4, 5, 15, 16, 17, 28, 29]) (kL := []) (fr' := [(4, aI (w64 (x66 * r69))), (5, aI i50), (15, aD (.slice tI) a0), (16, aI (List.length a0 : Int)), (17, aI i50), (28, aI v53), (29, aI i65)]) (L' := []) (obs := []) rfl (by kernel_rfl) allP0 ?_
              refine WO_fin [4, 5, 15, 16, 17, 28, 29] [] (fr' := [(4, aI (w64 (x66 * r69))), (5, aI i50), (15, aD (.slice tI) a0), (16, aI (List.length a0 : Int)), (17, aI i50), (28, aI v53), (29, aI i65)]) (L' := []) (by kernel_rfl) (by kernel_rfl) ?_
              refine blockQ_norm ?_
              refine seqQ_norm ?_
              obtain rfl := Option.some.inj h
              refine W_run 2 [] [4, 5, 15, 16, 17, 28, 29] [] (fr' := [(4, aI (w64 (x66 * r69))), (5, aI i50), (15, aD (.slice tI) a0), (16, aI (List.length a0 : Int)), (17, aI i50), (28, aI v53), (29, aI (w64 (i65 + (1 : Int))))]) (L' := []) (obs := []) (by kernel_rfl) (by kernel_rfl) (by kernel_rfl) allP0 ?_
              exact round_next' (by kernel_rfl) (by kernel_rfl)
            · obtain rfl := stepI_false h68 h
              refine W_exit (id := 2) [4, 15, 16, 17] [] (fr' := [(4, aI x66), (15, aD (.slice tI) a0), (16, aI (List.length a0 : Int)), (17, aI i50)]) (L' := []) (by kernel_rfl) (by kernel_rfl) ?_
              refine seqQ_exit ?_
              refine round_exit ?_
              exact exQ_mk (by kernel_rfl) (by kernel_rfl)
          · intro e fr L hJ
            obtain ⟨rfl, rfl, rfl⟩ := hJ
            refine LT_keep [4, 15, 16, 17] [] (fr' := [(4, aI v72), (15, aD (.slice tI) a0), (16, aI (List.length a0 : Int)), (17, aI i50)]) (L' := []) (by kernel_rfl) ?_
            refine blockQ_hit ?_
            refine blockQ_norm ?_
            refine seqQ_norm ?_
            obtain rfl := Option.some.inj h
            refine W_run 2 [] [4, 15, 16, 17] [] (fr' := [(4, aI v72), (15, aD (.slice tI) a0), (16, aI (List.length a0 : Int)), (17, aI (w64 (i50 + (1 : Int))))]) (L' := []) (obs := []) (by kernel_rfl) (by kernel_rfl) (by kernel_rfl) allP0 ?_
            exact round_next' (by kernel_rfl) (by kernel_rfl)
      · obtain rfl := stepL_false h55 h
        refine W_exit (id := 0) [4] [] (fr' := [(4, aI x51)]) (L' := []) (by kernel_rfl) (by kernel_rfl) ?_
        refine seqQ_exit ?_
        refine round_exit ?_
        refine escQ_brk ?_
        exact exQ_mk (by kernel_rfl) (by kernel_rfl)
    · intro e fr L hJ
      rcases v77 with v82 | v83
      · obtain ⟨rfl, rfl, rfl⟩ := hJ
        obtain rfl := Option.some.inj h
        refine LT_keep [2, 3] [] (fr' := [(2, aI v82.1), (3, aI v82.2)]) (L' := []) (by kernel_rfl) ?_
        refine blockQ_ret ?_
        refine seqQ_ret ?_
        exact retQ_mk (by kernel_rfl) (by kernel_rfl) (by kernel_rfl)
      · obtain ⟨rfl, rfl, rfl⟩ := hJ
        refine LT_keep [4] [] (fr' := [(4, aI v83)]) (L' := []) (by kernel_rfl) ?_
        refine blockQ_hit ?_
        refine seqQ_norm ?_
        refine W_seq (by kernel_rfl) ?_
        refine W_run 3 [] [2, 3] [] (fr' := [(2, aI v83), (3, aI (0 : Int))]) (L' := []) (obs := []) (by kernel_rfl) (by kernel_rfl) (by kernel_rfl) allP0 ?_
        refine seqQ_norm ?_
        obtain rfl := Option.some.inj h
        refine W_ret [2, 3] [] (fr' := [(2, aI v83), (3, aI (0 : Int))]) (L' := []) (by kernel_rfl) (by kernel_rfl) ?_
        exact retQ_mk (by kernel_rfl) (by kernel_rfl) (by kernel_rfl)
end Go.Proofs.Ytbjfglckfknheaa.topTwo
