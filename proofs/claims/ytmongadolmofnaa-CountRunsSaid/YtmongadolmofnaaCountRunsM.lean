/- What the functions that CountRuns calls compute, as models, and that they compute it: written by a program of mine. -/
import Derived.Test.YtmongadolmofnaaProg
import Derived.Test.YtmongadolmofnaaSl3
set_option linter.all false
set_option maxRecDepth 100000
namespace Go.Proofs.Ytmongadolmofnaa.countRuns
open Go Go.Sl
def count_Check_1 (a0 : Int) (c0 : (List (Int × (Int × (Int × Int))))) : Option Bool :=
some ((decide (a0 ≥ (0 : Int))) && (decide (a0 ≤ (List.length c0 : Int))))
theorem count_Check_1_ok {a0 : Int} {c0 : (List (Int × (Int × (Int × Int))))} {r : Bool} (h : count_Check_1 a0 c0 = some r) : FnC Try.prog 39 [aI a0, .one (.ptr 1000 0)] [(1000, .cells [.dat (.slice (.pair tI (.pair tI (.pair tI tI)))) c0])] (aB r) [(1000, .cells [.dat (.slice (.pair tI (.pair tI (.pair tI tI)))) c0])] := by
  refine fnC_of_W (B := bodyOf Try.f39) (n := 12) Try.func39 (by kernel_rfl) (by kernel_rfl) (by kernel_rfl) (by kernel_rfl) (by kernel_rfl) ?_
  intro K
  refine W_seq (by kernel_rfl) ?_
  refine W_run 1 [] [0, 1] [1000] (fr' := [(0, aI a0), (1, .one (.ptr 1000 0))]) (L' := [(1000, .cells [.dat (.slice (.pair tI (.pair tI (.pair tI tI)))) c0])]) (obs := []) (by kernel_rfl) (by kernel_rfl) (by kernel_rfl) allP0 ?_
  refine seqQ_norm ?_
  refine W_seq (by kernel_rfl) ?_
  refine W_run 9 [] [3] [1000] (fr' := [(3, aB ((decide (a0 ≥ (0 : Int))) && (decide (a0 ≤ (List.length c0 : Int)))))]) (L' := [(1000, .cells [.dat (.slice (.pair tI (.pair tI (.pair tI tI)))) c0])]) (obs := []) (by kernel_rfl) (by kernel_rfl) (by kernel_rfl) allP0 ?_
  refine seqQ_norm ?_
  obtain rfl := Option.some.inj h
  refine W_ret [3] [1000] (fr' := [(3, aB ((decide (a0 ≥ (0 : Int))) && (decide (a0 ≤ (List.length c0 : Int)))))]) (L' := [(1000, .cells [.dat (.slice (.pair tI (.pair tI (.pair tI tI)))) c0])]) (by kernel_rfl) (by kernel_rfl) ?_
  exact retQ_mk (by kernel_rfl) (by kernel_rfl) (by kernel_rfl)

def count_Check_g9 (a1 : (List (Int × (Int × (Int × Int))))) (v79 : (Int × (Int × (Int × Int)))) : Option Bool :=
(count_Check_1 v79.2.2.1 a1).bind fun r106 =>
bif !r106 then
(some true)
else
(bif v79.1 == (2 : Int) then
((count_Check_1 v79.2.2.2 a1).bind fun r110 =>
some (!r110))
else
(some false))
@[reducible] def count_Check_s10 (a0 : Int) (a1 : (List (Int × (Int × (Int × Int))))) (i76 : Int) (v : Bool) : Fr × LL := ([(0, aI a0), (5, .one (.fn 39 [(3, 0)])), (25, aD (.slice (.pair tI (.pair tI (.pair tI tI)))) a1), (26, aI (List.length a1 : Int)), (27, aI i76), (50, aB v)], [(3, .cells [.dat (.slice (.pair tI (.pair tI (.pair tI tI)))) a1])])
@[reducible] def count_Check_s11 (a0 : Int) (a1 : (List (Int × (Int × (Int × Int))))) (i76 : Int) (v79 : (Int × (Int × (Int × Int)))) (v : Bool) : Fr × LL := ([(0, aI a0), (5, .one (.fn 39 [(3, 0)])), (7, .one (.ptr 7 0)), (25, aD (.slice (.pair tI (.pair tI (.pair tI tI)))) a1), (26, aI (List.length a1 : Int)), (27, aI i76), (40, aB v)], [(3, .cells [.dat (.slice (.pair tI (.pair tI (.pair tI tI)))) a1]), (7, .one (.pair tI (.pair tI (.pair tI tI))) v79)])
@[reducible] def count_Check_s12 (a0 : Int) (a1 : (List (Int × (Int × (Int × Int))))) (i76 : Int) (v79 : (Int × (Int × (Int × Int)))) (v : Bool) : Fr × LL := ([(0, aI a0), (5, .one (.fn 39 [(3, 0)])), (7, .one (.ptr 7 0)), (25, aD (.slice (.pair tI (.pair tI (.pair tI tI)))) a1), (26, aI (List.length a1 : Int)), (27, aI i76), (31, aB v)], [(3, .cells [.dat (.slice (.pair tI (.pair tI (.pair tI tI)))) a1]), (7, .one (.pair tI (.pair tI (.pair tI tI))) v79)])
def count_Check_b13 (a0 : Int) (a1 : (List (Int × (Int × (Int × Int))))) (i76 : Int) (v79 : (Int × (Int × (Int × Int)))) (x77 : Unit) : Option (Flow Unit (Esc Int Unit)) :=
(bif v79.1 != (1 : Int) then
(some (v79.1 != (2 : Int)))
else
(some false)).bind fun v85 =>
bif v85 then
(some (.done (.ret (6 : Int))))
else
((bif decide (v79.2.1 < (0 : Int)) then
(some true)
else
(some (decide (v79.2.1 ≥ a0)))).bind fun v91 =>
bif v91 then
(some (.done (.ret (2 : Int))))
else
((count_Check_g9 a1 v79).bind fun v112 =>
bif v112 then
(some (.done (.ret (3 : Int))))
else
(some (.next ()))))
@[reducible] def count_Check_s14 (a0 : Int) (a1 : (List (Int × (Int × (Int × Int))))) (v : Int × Unit) : Fr × LL := ([(0, aI a0), (5, .one (.fn 39 [(3, 0)])), (25, aD (.slice (.pair tI (.pair tI (.pair tI tI)))) a1), (26, aI (List.length a1 : Int)), (27, aI v.1)], [(3, .cells [.dat (.slice (.pair tI (.pair tI (.pair tI tI)))) a1])])
@[reducible] def count_Check_s15 (v : Int) : Fr × LL := ([(4, aI v)], [])
@[reducible] def count_Check_s16 (v : Unit) : Fr × LL := ([], [])
def count_Check (a0 : Int) (a1 : (List (Int × (Int × (Int × Int))))) : Option Int :=
bif (((decide (a0 < (1 : Int))) || (decide (a0 > (4 : Int)))) || (decide ((List.length a1 : Int) < (1 : Int)))) || (decide ((List.length a1 : Int) > (12 : Int))) then
(some (1 : Int))
else
((forL (count_Check_b13 a0 a1) (fun x77 => (.brk ())) a1 0 ()).bind fun v116 =>
match v116 with
| .ret v121 =>
(some v121)
| .brk v122 =>
(some (0 : Int)))
theorem count_Check_ok {a0 : Int} {a1 : (List (Int × (Int × (Int × Int))))} {r : Int} (h : count_Check a0 a1 = some r) : FnC Try.prog 22 [aI a0, aD (.slice (.pair tI (.pair tI (.pair tI tI)))) a1] [] (aI r) [] := by
  refine fnC_of_W (B := bodyOf Try.f22) (n := 69) Try.func22 (by kernel_rfl) (by kernel_rfl) (by kernel_rfl) (by kernel_rfl) (by kernel_rfl) ?_
  intro K
  refine W_seq (by kernel_rfl) ?_
  refine W_run 2 [] [0, 3] [3] (fr' := [(0, aI a0), (3, .one (.ptr 3 0))]) (L' := [(3, .cells [.dat (.slice (.pair tI (.pair tI (.pair tI tI)))) a1])]) (obs := []) (by kernel_rfl) (by kernel_rfl) (by kernel_rfl) allP0 ?_
  refine seqQ_norm ?_
  refine W_seq (by kernel_rfl) ?_
  refine W_seq (by kernel_rfl) ?_
  refine W_run 16 [] [0, 3, 23] [3] (fr' := [(0, aI a0), (3, .one (.ptr 3 0)), (23, aB ((((decide (a0 < (1 : Int))) || (decide (a0 > (4 : Int)))) || (decide ((List.length a1 : Int) < (1 : Int)))) || (decide ((List.length a1 : Int) > (12 : Int)))))]) (L' := [(3, .cells [.dat (.slice (.pair tI (.pair tI (.pair tI tI)))) a1])]) (obs := []) (by kernel_rfl) (by kernel_rfl) (by kernel_rfl) allP0 ?_
  refine seqQ_norm ?_
  refine W_cond (o := .tmp 23) (b := (((decide (a0 < (1 : Int))) || (decide (a0 > (4 : Int)))) || (decide ((List.length a1 : Int) < (1 : Int)))) || (decide ((List.length a1 : Int) > (12 : Int)))) (by kernel_rfl) (by kernel_rfl) (fun h1 => ?_) (fun h1 => ?_)
  · replace h := ofT h1 h
    refine W_seq (by kernel_rfl) ?_
    refine W_run 1 [] [4] [] (fr' := [(4, aI (1 : Int))]) (L' := []) (obs := []) (by kernel_rfl) (by kernel_rfl) (by kernel_rfl) allP0 ?_
    refine seqQ_norm ?_
    obtain rfl := Option.some.inj h
    refine W_ret [4] [] (fr' := [(4, aI (1 : Int))]) (L' := []) (by kernel_rfl) (by kernel_rfl) ?_
    refine seqQ_ret ?_
    exact retQ_mk (by kernel_rfl) (by kernel_rfl) (by kernel_rfl)
  · replace h := ofF h1 h
    refine W_skip [0, 3] [3] (fr' := [(0, aI a0), (3, .one (.ptr 3 0))]) (L' := [(3, .cells [.dat (.slice (.pair tI (.pair tI (.pair tI tI)))) a1])]) (by kernel_rfl) (by kernel_rfl) ?_
    refine seqQ_norm ?_
    refine W_seq (by kernel_rfl) ?_
    refine W_run 2 [] [0, 3, 5] [3] (fr' := [(0, aI a0), (3, .one (.ptr 3 0)), (5, .one (.fn 39 [(3, 0)]))]) (L' := [(3, .cells [.dat (.slice (.pair tI (.pair tI (.pair tI tI)))) a1])]) (obs := []) (by kernel_rfl) (by kernel_rfl) (by kernel_rfl) allP0 ?_
    refine seqQ_norm ?_
    refine W_seq (by kernel_rfl) ?_
    refine W_seq (by kernel_rfl) ?_
    refine W_run 3 [] [0, 5, 25, 26, 27] [3] (fr' := [(0, aI a0), (5, .one (.fn 39 [(3, 0)])), (25, aD (.slice (.pair tI (.pair tI (.pair tI tI)))) a1), (26, aI (List.length a1 : Int)), (27, aI (0 : Int))]) (L' := [(3, .cells [.dat (.slice (.pair tI (.pair tI (.pair tI tI)))) a1])]) (obs := []) (by kernel_rfl) (by kernel_rfl) (by kernel_rfl) allP0 ?_
    refine seqQ_norm ?_
    refine W_block (id := 0) (by kernel_rfl) ?_
    obtain ⟨v116, h117, h⟩ := bind_of h
    refine W_len (t := 25) (u := (.pair tI (.pair tI (.pair tI tI)))) (xs := a1) (by kernel_rfl) (fun h120 => ?_)
    obtain ⟨h118, h119⟩ := forL_iter h120 h117
    refine W_weaken [0, 5, 25, 26, 27] [3] (fr' := ((count_Check_s14 a0 a1) ((0 : Int), ())).1) (L' := ((count_Check_s14 a0 a1) ((0 : Int), ())).2) (by kernel_rfl) ?_
    refine W_cutK (W_loop (S := (count_Check_s14 a0 a1)) (J := (escQ (exQ .ret count_Check_s15) (exQ (.exit 0) count_Check_s16))) (by kernel_rfl) ?_ h118 _ v116 h119) ?_
    · rintro ⟨i76, x77⟩ s h
      refine W_seq (by kernel_rfl) ?_
      refine W_run 1 [] [0, 5, 25, 26, 27, 28] [3] (fr' := [(0, aI a0), (5, .one (.fn 39 [(3, 0)])), (25, aD (.slice (.pair tI (.pair tI (.pair tI tI)))) a1), (26, aI (List.length a1 : Int)), (27, aI i76), (28, aB (decide (i76 < (List.length a1 : Int))))]) (L' := [(3, .cells [.dat (.slice (.pair tI (.pair tI (.pair tI tI)))) a1])]) (obs := []) (by kernel_rfl) (by kernel_rfl) (by kernel_rfl) allP0 ?_
      refine seqQ_norm ?_
      refine W_seq (by kernel_rfl) ?_
      refine W_cond (o := .tmp 28) (b := decide (i76 < (List.length a1 : Int))) (by kernel_rfl) (by kernel_rfl) (fun h81 => ?_) (fun h81 => ?_)
      · replace h := stepL_true h81 h
        obtain ⟨v79, _, h80, h, rfl⟩ := h
        refine W_skip [0, 5, 25, 26, 27] [3] (fr' := [(0, aI a0), (5, .one (.fn 39 [(3, 0)])), (25, aD (.slice (.pair tI (.pair tI (.pair tI tI)))) a1), (26, aI (List.length a1 : Int)), (27, aI i76)]) (L' := [(3, .cells [.dat (.slice (.pair tI (.pair tI (.pair tI tI)))) a1])]) (by kernel_rfl) (by kernel_rfl) ?_
        refine seqQ_norm ?_
        refine W_seq (by kernel_rfl) ?_
        refine W_block (id := 1) (by kernel_rfl) ?_
        refine W_seq (by kernel_rfl) ?_
        refine W_run 4 [(1, .val (.dat (.pair tI (.pair tI (.pair tI tI))) v79)), (5, .typed)] [0, 5, 7, 25, 26, 27] [3, 7] (fr' := [(0, aI a0), (5, .one (.fn 39 [(3, 0)])), (7, .one (.ptr 7 0)), (25, aD (.slice (.pair tI (.pair tI (.pair tI tI)))) a1), (26, aI (List.length a1 : Int)), (27, aI i76)]) (L' := [(3, .cells [.dat (.slice (.pair tI (.pair tI (.pair tI tI)))) a1]), (7, .one (.pair tI (.pair tI (.pair tI tI))) v79)]) (obs := [Idx a1 i76 v79, True]) (by kernel_rfl) (by kernel_rfl) (by kernel_rfl) (allP2 (Idx.of h80) (allP1 trivial)) ?_
        refine seqQ_norm ?_
        refine W_block (id := 2) (by kernel_rfl) ?_
        refine W_seq (by kernel_rfl) ?_
        obtain ⟨v85, h86, h⟩ := bind_of h
        refine W_cutK (Q' := (exQ .normal (count_Check_s12 a0 a1 i76 v79)) v85) ?_ ?_
        · replace h := h86
          refine W_region (by kernel_rfl) ?_
          refine WO_run (j := 4) (k := 4) (orcs := []) (kF := [0, 5, 7, 25, 26, 27, 35]) (kL := [3, 7]) (fr' := [(0, aI a0), (5, .one (.fn 39 [(3, 0)])), (7, .one (.ptr 7 0)), (25, aD (.slice (.pair tI (.pair tI (.pair tI tI)))) a1), (26, aI (List.length a1 : Int)), (27, aI i76), (35, aB (v79.1 != (1 : Int)))]) (L' := [(3, .cells [.dat (.slice (.pair tI (.pair tI (.pair tI tI)))) a1]), (7, .one (.pair tI (.pair tI (.pair tI tI))) v79)]) (obs := []) rfl (by kernel_rfl) allP0 ?_
          rcases Bool.eq_false_or_eq_true (v79.1 != (1 : Int)) with h84 | h84
          · replace h := ofT h84 h
            refine WO_run (j := 9) (k := 5) (orcs := [(8, .known true), (10, .known true), (12, .known true), (15, .val (.dat .bool true))]) (kF := [0, 5, 7, 25, 26, 27, 31]) (kL := [3, 7]) (fr' := [(0, aI a0), (5, .one (.fn 39 [(3, 0)])), (7, .one (.ptr 7 0)), (25, aD (.slice (.pair tI (.pair tI (.pair tI tI)))) a1), (26, aI (List.length a1 : Int)), (27, aI i76), (31, aB (v79.1 != (2 : Int)))]) (L' := [(3, .cells [.dat (.slice (.pair tI (.pair tI (.pair tI tI)))) a1]), (7, .one (.pair tI (.pair tI (.pair tI tI))) v79)]) (obs := [((v79.1 != (1 : Int)) = true), ((v79.1 != (1 : Int)) = true), ((v79.1 != (1 : Int)) = true), ((v79.1 != (1 : Int)) = true)]) rfl (by kernel_rfl) (allP2 h84 (allP2 h84 (allP2 h84 (allP1 h84)))) ?_
            obtain rfl := Option.some.inj h
            refine WO_fin [0, 5, 7, 25, 26, 27, 31] [3, 7] (fr' := [(0, aI a0), (5, .one (.fn 39 [(3, 0)])), (7, .one (.ptr 7 0)), (25, aD (.slice (.pair tI (.pair tI (.pair tI tI)))) a1), (26, aI (List.length a1 : Int)), (27, aI i76), (31, aB (v79.1 != (2 : Int)))]) (L' := [(3, .cells [.dat (.slice (.pair tI (.pair tI (.pair tI tI)))) a1]), (7, .one (.pair tI (.pair tI (.pair tI tI))) v79)]) (by kernel_rfl) (by kernel_rfl) ?_
            exact exQ_mk (by kernel_rfl) (by kernel_rfl)
          · replace h := ofF h84 h
            refine WO_run (j := 9) (k := 5) (orcs := [(8, .known false), (10, .known false), (12, .known false), (15, .val (.dat .bool false))]) (kF := [0, 5, 7, 25, 26, 27, 31]) (kL := [3, 7]) (fr' := [(0, aI a0), (5, .one (.fn 39 [(3, 0)])), (7, .one (.ptr 7 0)), (25, aD (.slice (.pair tI (.pair tI (.pair tI tI)))) a1), (26, aI (List.length a1 : Int)), (27, aI i76), (31, aB false)]) (L' := [(3, .cells [.dat (.slice (.pair tI (.pair tI (.pair tI tI)))) a1]), (7, .one (.pair tI (.pair tI (.pair tI tI))) v79)]) (obs := [((v79.1 != (1 : Int)) = false), ((v79.1 != (1 : Int)) = false), ((v79.1 != (1 : Int)) = false), ((v79.1 != (1 : Int)) = false)]) rfl (by kernel_rfl) (allP2 h84 (allP2 h84 (allP2 h84 (allP1 h84)))) ?_
            obtain rfl := Option.some.inj h
            refine WO_fin [0, 5, 7, 25, 26, 27, 31] [3, 7] (fr' := [(0, aI a0), (5, .one (.fn 39 [(3, 0)])), (7, .one (.ptr 7 0)), (25, aD (.slice (.pair tI (.pair tI (.pair tI tI)))) a1), (26, aI (List.length a1 : Int)), (27, aI i76), (31, aB false)]) (L' := [(3, .cells [.dat (.slice (.pair tI (.pair tI (.pair tI tI)))) a1]), (7, .one (.pair tI (.pair tI (.pair tI tI))) v79)]) (by kernel_rfl) (by kernel_rfl) ?_
            exact exQ_mk (by kernel_rfl) (by kernel_rfl)
        · intro e fr L hJ
          obtain ⟨rfl, rfl, rfl⟩ := hJ
          refine LT_keep [0, 5, 7, 25, 26, 27, 31] [3, 7] (fr' := [(0, aI a0), (5, .one (.fn 39 [(3, 0)])), (7, .one (.ptr 7 0)), (25, aD (.slice (.pair tI (.pair tI (.pair tI tI)))) a1), (26, aI (List.length a1 : Int)), (27, aI i76), (31, aB v85)]) (L' := [(3, .cells [.dat (.slice (.pair tI (.pair tI (.pair tI tI)))) a1]), (7, .one (.pair tI (.pair tI (.pair tI tI))) v79)]) (by kernel_rfl) ?_
          refine seqQ_norm ?_
          refine W_cond (o := .tmp 31) (b := v85) (by kernel_rfl) (by kernel_rfl) (fun h87 => ?_) (fun h87 => ?_)
          · replace h := ofT h87 h
            refine W_seq (by kernel_rfl) ?_
            refine W_run 1 [] [4] [] (fr' := [(4, aI (6 : Int))]) (L' := []) (obs := []) (by kernel_rfl) (by kernel_rfl) (by kernel_rfl) allP0 ?_
            refine seqQ_norm ?_
            obtain rfl := Option.some.inj h
            refine W_ret [4] [] (fr' := [(4, aI (6 : Int))]) (L' := []) (by kernel_rfl) (by kernel_rfl) ?_
            refine blockQ_ret ?_
            refine blockQ_ret ?_
            refine seqQ_ret ?_
            refine round_ret ?_
            refine escQ_ret ?_
            exact exQ_mk (by kernel_rfl) (by kernel_rfl)
          · replace h := ofF h87 h
            refine W_seq (by kernel_rfl) ?_
            obtain ⟨v91, h92, h⟩ := bind_of h
            refine W_cutK (Q' := (exQ .normal (count_Check_s11 a0 a1 i76 v79)) v91) ?_ ?_
            · replace h := h92
              refine W_region (by kernel_rfl) ?_
              refine WO_run (j := 4) (k := 4) (orcs := []) (kF := [0, 5, 7, 25, 26, 27, 44]) (kL := [3, 7]) (fr' := [(0, aI a0), (5, .one (.fn 39 [(3, 0)])), (7, .one (.ptr 7 0)), (25, aD (.slice (.pair tI (.pair tI (.pair tI tI)))) a1), (26, aI (List.length a1 : Int)), (27, aI i76), (44, aB (decide (v79.2.1 < (0 : Int))))]) (L' := [(3, .cells [.dat (.slice (.pair tI (.pair tI (.pair tI tI)))) a1]), (7, .one (.pair tI (.pair tI (.pair tI tI))) v79)]) (obs := []) rfl (by kernel_rfl) allP0 ?_
              rcases Bool.eq_false_or_eq_true (decide (v79.2.1 < (0 : Int))) with h90 | h90
              · replace h := ofT h90 h
                refine WO_run (j := 10) (k := 6) (orcs := [(8, .known true), (10, .known true), (12, .known true), (14, .known true), (17, .val (.dat .bool true))]) (kF := [0, 5, 7, 25, 26, 27, 40]) (kL := [3, 7]) (fr' := [(0, aI a0), (5, .one (.fn 39 [(3, 0)])), (7, .one (.ptr 7 0)), (25, aD (.slice (.pair tI (.pair tI (.pair tI tI)))) a1), (26, aI (List.length a1 : Int)), (27, aI i76), (40, aB true)]) (L' := [(3, .cells [.dat (.slice (.pair tI (.pair tI (.pair tI tI)))) a1]), (7, .one (.pair tI (.pair tI (.pair tI tI))) v79)]) (obs := [((decide (v79.2.1 < (0 : Int))) = true), ((decide (v79.2.1 < (0 : Int))) = true), ((decide (v79.2.1 < (0 : Int))) = true), ((decide (v79.2.1 < (0 : Int))) = true), ((decide (v79.2.1 < (0 : Int))) = true)]) rfl (by kernel_rfl) (allP2 h90 (allP2 h90 (allP2 h90 (allP2 h90 (allP1 h90))))) ?_
                obtain rfl := Option.some.inj h
                refine WO_fin [0, 5, 7, 25, 26, 27, 40] [3, 7] (fr' := [(0, aI a0), (5, .one (.fn 39 [(3, 0)])), (7, .one (.ptr 7 0)), (25, aD (.slice (.pair tI (.pair tI (.pair tI tI)))) a1), (26, aI (List.length a1 : Int)), (27, aI i76), (40, aB true)]) (L' := [(3, .cells [.dat (.slice (.pair tI (.pair tI (.pair tI tI)))) a1]), (7, .one (.pair tI (.pair tI (.pair tI tI))) v79)]) (by kernel_rfl) (by kernel_rfl) ?_
                exact exQ_mk (by kernel_rfl) (by kernel_rfl)
              · replace h := ofF h90 h
                refine WO_run (j := 10) (k := 6) (orcs := [(8, .known false), (10, .known false), (12, .known false), (14, .known false), (17, .val (.dat .bool false))]) (kF := [0, 5, 7, 25, 26, 27, 40]) (kL := [3, 7]) (fr' := [(0, aI a0), (5, .one (.fn 39 [(3, 0)])), (7, .one (.ptr 7 0)), (25, aD (.slice (.pair tI (.pair tI (.pair tI tI)))) a1), (26, aI (List.length a1 : Int)), (27, aI i76), (40, aB (decide (v79.2.1 ≥ a0)))]) (L' := [(3, .cells [.dat (.slice (.pair tI (.pair tI (.pair tI tI)))) a1]), (7, .one (.pair tI (.pair tI (.pair tI tI))) v79)]) (obs := [((decide (v79.2.1 < (0 : Int))) = false), ((decide (v79.2.1 < (0 : Int))) = false), ((decide (v79.2.1 < (0 : Int))) = false), ((decide (v79.2.1 < (0 : Int))) = false), ((decide (v79.2.1 < (0 : Int))) = false)]) rfl (by kernel_rfl) (allP2 h90 (allP2 h90 (allP2 h90 (allP2 h90 (allP1 h90))))) ?_
                obtain rfl := Option.some.inj h
                refine WO_fin [0, 5, 7, 25, 26, 27, 40] [3, 7] (fr' := [(0, aI a0), (5, .one (.fn 39 [(3, 0)])), (7, .one (.ptr 7 0)), (25, aD (.slice (.pair tI (.pair tI (.pair tI tI)))) a1), (26, aI (List.length a1 : Int)), (27, aI i76), (40, aB (decide (v79.2.1 ≥ a0)))]) (L' := [(3, .cells [.dat (.slice (.pair tI (.pair tI (.pair tI tI)))) a1]), (7, .one (.pair tI (.pair tI (.pair tI tI))) v79)]) (by kernel_rfl) (by kernel_rfl) ?_
                exact exQ_mk (by kernel_rfl) (by kernel_rfl)
            · intro e fr L hJ
              obtain ⟨rfl, rfl, rfl⟩ := hJ
              refine LT_keep [0, 5, 7, 25, 26, 27, 40] [3, 7] (fr' := [(0, aI a0), (5, .one (.fn 39 [(3, 0)])), (7, .one (.ptr 7 0)), (25, aD (.slice (.pair tI (.pair tI (.pair tI tI)))) a1), (26, aI (List.length a1 : Int)), (27, aI i76), (40, aB v91)]) (L' := [(3, .cells [.dat (.slice (.pair tI (.pair tI (.pair tI tI)))) a1]), (7, .one (.pair tI (.pair tI (.pair tI tI))) v79)]) (by kernel_rfl) ?_
              refine seqQ_norm ?_
              refine W_cond (o := .tmp 40) (b := v91) (by kernel_rfl) (by kernel_rfl) (fun h93 => ?_) (fun h93 => ?_)
              · replace h := ofT h93 h
                refine W_seq (by kernel_rfl) ?_
                refine W_run 1 [] [4] [] (fr' := [(4, aI (2 : Int))]) (L' := []) (obs := []) (by kernel_rfl) (by kernel_rfl) (by kernel_rfl) allP0 ?_
                refine seqQ_norm ?_
                obtain rfl := Option.some.inj h
                refine W_ret [4] [] (fr' := [(4, aI (2 : Int))]) (L' := []) (by kernel_rfl) (by kernel_rfl) ?_
                refine blockQ_ret ?_
                refine blockQ_ret ?_
                refine seqQ_ret ?_
                refine round_ret ?_
                refine escQ_ret ?_
                exact exQ_mk (by kernel_rfl) (by kernel_rfl)
              · replace h := ofF h93 h
                refine W_seq (by kernel_rfl) ?_
                obtain ⟨v112, h113, h⟩ := bind_of h
                refine W_cutK (Q' := (exQ .normal (count_Check_s10 a0 a1 i76)) v112) ?_ ?_
                · replace h := h113
                  refine W_region (by kernel_rfl) ?_
                  refine WO_run (j := 3) (k := 3) (orcs := []) (kF := [0, 5, 7, 25, 26, 27, 51, 53]) (kL := [3, 7]) (fr' := [(0, aI a0), (5, .one (.fn 39 [(3, 0)])), (7, .one (.ptr 7 0)), (25, aD (.slice (.pair tI (.pair tI (.pair tI tI)))) a1), (26, aI (List.length a1 : Int)), (27, aI i76), (51, .one (.fn 39 [(3, 0)])), (53, aI v79.2.2.1)]) (L' := [(3, .cells [.dat (.slice (.pair tI (.pair tI (.pair tI tI)))) a1]), (7, .one (.pair tI (.pair tI (.pair tI tI))) v79)]) (obs := []) rfl (by kernel_rfl) allP0 ?_
                  obtain ⟨r106, h107, h⟩ := bind_of h
                  refine WO_lend [(1000, 3)] (us := [none, none]) (d := 54) (p := True) (j := 4) rfl ⟨by kernel_rfl, by kernel_rfl, by kernel_rfl⟩ trivial (count_Check_1_ok h107) (by kernel_rfl) (by kernel_rfl) ?_
                  refine WO_run (j := 6) (k := 2) (orcs := []) (kF := [0, 5, 7, 25, 26, 27, 56]) (kL := [3, 7]) (fr' := [(0, aI a0), (5, .one (.fn 39 [(3, 0)])), (7, .one (.ptr 7 0)), (25, aD (.slice (.pair tI (.pair tI (.pair tI tI)))) a1), (26, aI (List.length a1 : Int)), (27, aI i76), (56, aB (!r106))]) (L' := [(3, .cells [.dat (.slice (.pair tI (.pair tI (.pair tI tI)))) a1]), (7, .one (.pair tI (.pair tI (.pair tI tI))) v79)]) (obs := []) rfl (by kernel_rfl) allP0 ?_
                  rcases Bool.eq_false_or_eq_true (!r106) with h108 | h108
                  · replace h := ofT h108 h
                    refine WO_run (j := 18) (k := 12) (orcs := [(12, .known true), (14, .known true), (16, .known true), (18, .known true), (20, .known true), (22, .known true), (24, .known true), (26, .known true), (28, .known true), (30, .known true), (33, .val (.dat .bool true))]) (kF := [0, 5, 25, 26, 27, 50]) (kL := [3, 7]) (fr' := [(0, aI a0), (5, .one (.fn 39 [(3, 0)])), (25, aD (.slice (.pair tI (.pair tI (.pair tI tI)))) a1), (26, aI (List.length a1 : Int)), (27, aI i76), (50, aB true)]) (L' := [(3, .cells [.dat (.slice (.pair tI (.pair tI (.pair tI tI)))) a1]), (7, .one (.pair tI (.pair tI (.pair tI tI))) v79)]) (obs := [((!r106) = true), ((!r106) = true), ((!r106) = true), ((!r106) = true), ((!r106) = true), ((!r106) = true)]) rfl (by kernel_rfl) (allP2 h108 (allP2 h108 (allP2 h108 (allP2 h108 (allP2 h108 (allP1 h108)))))) ?_
                    obtain rfl := Option.some.inj h
                    refine WO_fin [0, 5, 25, 26, 27, 50] [3] (fr' := [(0, aI a0), (5, .one (.fn 39 [(3, 0)])), (25, aD (.slice (.pair tI (.pair tI (.pair tI tI)))) a1), (26, aI (List.length a1 : Int)), (27, aI i76), (50, aB true)]) (L' := [(3, .cells [.dat (.slice (.pair tI (.pair tI (.pair tI tI)))) a1])]) (by kernel_rfl) (by kernel_rfl) ?_
                    exact exQ_mk (by kernel_rfl) (by kernel_rfl)
                  · replace h := ofF h108 h
                    refine WO_run (j := 10) (k := 4) (orcs := [(12, .known false), (14, .known false), (16, .known false), (18, .known false)]) (kF := [0, 5, 7, 25, 26, 27, 56, 60]) (kL := [3, 7]) (fr' := [(0, aI a0), (5, .one (.fn 39 [(3, 0)])), (7, .one (.ptr 7 0)), (25, aD (.slice (.pair tI (.pair tI (.pair tI tI)))) a1), (26, aI (List.length a1 : Int)), (27, aI i76), (56, aB (!r106)), (60, aB (v79.1 == (2 : Int)))]) (L' := [(3, .cells [.dat (.slice (.pair tI (.pair tI (.pair tI tI)))) a1]), (7, .one (.pair tI (.pair tI (.pair tI tI))) v79)]) (obs := [((!r106) = false), ((!r106) = false), ((!r106) = false), ((!r106) = false)]) rfl (by kernel_rfl) (allP2 h108 (allP2 h108 (allP2 h108 (allP1 h108)))) ?_
                    rcases Bool.eq_false_or_eq_true (v79.1 == (2 : Int)) with h109 | h109
                    · replace h := ofT h109 h
                      refine WO_run (j := 13) (k := 3) (orcs := [(20, .known true), (22, .known true), (24, .known true)]) (kF := [0, 5, 25, 26, 27, 56, 60, 61, 63]) (kL := [3, 7]) (fr' := [(0, aI a0), (5, .one (.fn 39 [(3, 0)])), (25, aD (.slice (.pair tI (.pair tI (.pair tI tI)))) a1), (26, aI (List.length a1 : Int)), (27, aI i76), (56, aB (!r106)), (60, aB (v79.1 == (2 : Int))), (61, .one (.fn 39 [(3, 0)])), (63, aI v79.2.2.2)]) (L' := [(3, .cells [.dat (.slice (.pair tI (.pair tI (.pair tI tI)))) a1]), (7, .one (.pair tI (.pair tI (.pair tI tI))) v79)]) (obs := [((v79.1 == (2 : Int)) = true), ((v79.1 == (2 : Int)) = true), ((v79.1 == (2 : Int)) = true)]) rfl (by kernel_rfl) (allP2 h109 (allP2 h109 (allP1 h109))) ?_
                      obtain ⟨r110, h111, h⟩ := bind_of h
                      refine WO_lend [(1000, 3)] (us := [none, none]) (d := 64) (p := ((v79.1 == (2 : Int)) = true)) (j := 14) rfl ⟨by kernel_rfl, by kernel_rfl, by kernel_rfl⟩ h109 (count_Check_1_ok h111) (by kernel_rfl) (by kernel_rfl) ?_
                      refine WO_run (j := 18) (k := 4) (orcs := [(28, .known true), (30, .known false), (31, .val (.dat .bool true)), (33, .val (.dat .bool false))]) (kF := [0, 5, 25, 26, 27, 50]) (kL := [3, 7]) (fr' := [(0, aI a0), (5, .one (.fn 39 [(3, 0)])), (25, aD (.slice (.pair tI (.pair tI (.pair tI tI)))) a1), (26, aI (List.length a1 : Int)), (27, aI i76), (50, aB (!r110))]) (L' := [(3, .cells [.dat (.slice (.pair tI (.pair tI (.pair tI tI)))) a1]), (7, .one (.pair tI (.pair tI (.pair tI tI))) v79)]) (obs := [((v79.1 == (2 : Int)) = true), ((!r106) = false), ((v79.1 == (2 : Int)) = true), ((!r106) = false)]) rfl (by kernel_rfl) (allP2 h109 (allP2 h108 (allP2 h109 (allP1 h108)))) ?_
                      obtain rfl := Option.some.inj h
                      refine WO_fin [0, 5, 25, 26, 27, 50] [3] (fr' := [(0, aI a0), (5, .one (.fn 39 [(3, 0)])), (25, aD (.slice (.pair tI (.pair tI (.pair tI tI)))) a1), (26, aI (List.length a1 : Int)), (27, aI i76), (50, aB (!r110))]) (L' := [(3, .cells [.dat (.slice (.pair tI (.pair tI (.pair tI tI)))) a1])]) (by kernel_rfl) (by kernel_rfl) ?_
                      exact exQ_mk (by kernel_rfl) (by kernel_rfl)
                    · replace h := ofF h109 h
                      refine WO_run (j := 18) (k := 8) (orcs := [(20, .known false), (22, .known false), (24, .known false), (26, .known false), (28, .known false), (30, .known false), (31, .val (.dat .bool false)), (33, .val (.dat .bool false))]) (kF := [0, 5, 25, 26, 27, 50]) (kL := [3, 7]) (fr' := [(0, aI a0), (5, .one (.fn 39 [(3, 0)])), (25, aD (.slice (.pair tI (.pair tI (.pair tI tI)))) a1), (26, aI (List.length a1 : Int)), (27, aI i76), (50, aB false)]) (L' := [(3, .cells [.dat (.slice (.pair tI (.pair tI (.pair tI tI)))) a1]), (7, .one (.pair tI (.pair tI (.pair tI tI))) v79)]) (obs := [((v79.1 == (2 : Int)) = false), ((v79.1 == (2 : Int)) = false), ((v79.1 == (2 : Int)) = false), ((v79.1 == (2 : Int)) = false), ((v79.1 == (2 : Int)) = false), ((!r106) = false), ((v79.1 == (2 : Int)) = false), ((!r106) = false)]) rfl (by kernel_rfl) (allP2 h109 (allP2 h109 (allP2 h109 (allP2 h109 (allP2 h109 (allP2 h108 (allP2 h109 (allP1 h108)))))))) ?_
                      obtain rfl := Option.some.inj h
                      refine WO_fin [0, 5, 25, 26, 27, 50] [3] (fr' := [(0, aI a0), (5, .one (.fn 39 [(3, 0)])), (25, aD (.slice (.pair tI (.pair tI (.pair tI tI)))) a1), (26, aI (List.length a1 : Int)), (27, aI i76), (50, aB false)]) (L' := [(3, .cells [.dat (.slice (.pair tI (.pair tI (.pair tI tI)))) a1])]) (by kernel_rfl) (by kernel_rfl) ?_
                      exact exQ_mk (by kernel_rfl) (by kernel_rfl)
                · intro e fr L hJ
                  obtain ⟨rfl, rfl, rfl⟩ := hJ
                  refine LT_keep [0, 5, 25, 26, 27, 50] [3] (fr' := [(0, aI a0), (5, .one (.fn 39 [(3, 0)])), (25, aD (.slice (.pair tI (.pair tI (.pair tI tI)))) a1), (26, aI (List.length a1 : Int)), (27, aI i76), (50, aB v112)]) (L' := [(3, .cells [.dat (.slice (.pair tI (.pair tI (.pair tI tI)))) a1])]) (by kernel_rfl) ?_
                  refine seqQ_norm ?_
                  refine W_cond (o := .tmp 50) (b := v112) (by kernel_rfl) (by kernel_rfl) (fun h114 => ?_) (fun h114 => ?_)
                  · replace h := ofT h114 h
                    refine W_seq (by kernel_rfl) ?_
                    refine W_run 1 [] [4] [] (fr' := [(4, aI (3 : Int))]) (L' := []) (obs := []) (by kernel_rfl) (by kernel_rfl) (by kernel_rfl) allP0 ?_
                    refine seqQ_norm ?_
                    obtain rfl := Option.some.inj h
                    refine W_ret [4] [] (fr' := [(4, aI (3 : Int))]) (L' := []) (by kernel_rfl) (by kernel_rfl) ?_
                    refine blockQ_ret ?_
                    refine blockQ_ret ?_
                    refine seqQ_ret ?_
                    refine round_ret ?_
                    refine escQ_ret ?_
                    exact exQ_mk (by kernel_rfl) (by kernel_rfl)
                  · replace h := ofF h114 h
                    refine W_skip [0, 5, 25, 26, 27] [3] (fr' := [(0, aI a0), (5, .one (.fn 39 [(3, 0)])), (25, aD (.slice (.pair tI (.pair tI (.pair tI tI)))) a1), (26, aI (List.length a1 : Int)), (27, aI i76)]) (L' := [(3, .cells [.dat (.slice (.pair tI (.pair tI (.pair tI tI)))) a1])]) (by kernel_rfl) (by kernel_rfl) ?_
                    refine blockQ_norm ?_
                    refine blockQ_norm ?_
                    refine seqQ_norm ?_
                    obtain rfl := Option.some.inj h
                    refine W_run 2 [] [0, 5, 25, 26, 27] [3] (fr' := [(0, aI a0), (5, .one (.fn 39 [(3, 0)])), (25, aD (.slice (.pair tI (.pair tI (.pair tI tI)))) a1), (26, aI (List.length a1 : Int)), (27, aI (w64 (i76 + (1 : Int))))]) (L' := [(3, .cells [.dat (.slice (.pair tI (.pair tI (.pair tI tI)))) a1])]) (obs := []) (by kernel_rfl) (by kernel_rfl) (by kernel_rfl) allP0 ?_
                    exact round_next' (by kernel_rfl) (by kernel_rfl)
      · obtain rfl := stepL_false h81 h
        refine W_exit (id := 0) [] [] (fr' := []) (L' := []) (by kernel_rfl) (by kernel_rfl) ?_
        refine seqQ_exit ?_
        refine round_exit ?_
        refine escQ_brk ?_
        exact exQ_mk (by kernel_rfl) (by kernel_rfl)
    · intro e fr L hJ
      rcases v116 with v121 | v122
      · obtain ⟨rfl, rfl, rfl⟩ := hJ
        obtain rfl := Option.some.inj h
        refine LT_keep [4] [] (fr' := [(4, aI v121)]) (L' := []) (by kernel_rfl) ?_
        refine blockQ_ret ?_
        refine seqQ_ret ?_
        exact retQ_mk (by kernel_rfl) (by kernel_rfl) (by kernel_rfl)
      · obtain ⟨rfl, rfl, rfl⟩ := hJ
        refine LT_keep [] [] (fr' := []) (L' := []) (by kernel_rfl) ?_
        refine blockQ_hit ?_
        refine seqQ_norm ?_
        refine W_seq (by kernel_rfl) ?_
        refine W_run 1 [] [4] [] (fr' := [(4, aI (0 : Int))]) (L' := []) (obs := []) (by kernel_rfl) (by kernel_rfl) (by kernel_rfl) allP0 ?_
        refine seqQ_norm ?_
        obtain rfl := Option.some.inj h
        refine W_ret [4] [] (fr' := [(4, aI (0 : Int))]) (L' := []) (by kernel_rfl) (by kernel_rfl) ?_
        exact retQ_mk (by kernel_rfl) (by kernel_rfl) (by kernel_rfl)

def count_Run_1 (a0 : Int) : Option Bool :=
some ((decide (a0 < (0 : Int))) || (decide (a0 > (20 : Int))))
theorem count_Run_1_ok {a0 : Int} {r : Bool} (h : count_Run_1 a0 = some r) : FnC Try.prog 42 [aI a0] [] (aB r) [] := by
  refine fnC_of_W (B := bodyOf Try.f42) (n := 9) Try.func42 (by kernel_rfl) (by kernel_rfl) (by kernel_rfl) (by kernel_rfl) (by kernel_rfl) ?_
  intro K
  refine W_seq (by kernel_rfl) ?_
  refine W_run 1 [] [0] [] (fr' := [(0, aI a0)]) (L' := []) (obs := []) (by kernel_rfl) (by kernel_rfl) (by kernel_rfl) allP0 ?_
  refine seqQ_norm ?_
  refine W_seq (by kernel_rfl) ?_
  refine W_run 7 [] [2] [] (fr' := [(2, aB ((decide (a0 < (0 : Int))) || (decide (a0 > (20 : Int)))))]) (L' := []) (obs := []) (by kernel_rfl) (by kernel_rfl) (by kernel_rfl) allP0 ?_
  refine seqQ_norm ?_
  obtain rfl := Option.some.inj h
  refine W_ret [2] [] (fr' := [(2, aB ((decide (a0 < (0 : Int))) || (decide (a0 > (20 : Int)))))]) (L' := []) (by kernel_rfl) (by kernel_rfl) ?_
  exact retQ_mk (by kernel_rfl) (by kernel_rfl) (by kernel_rfl)

def slices_IndexFunc_Lintint_with_count_Run_1_b1 (i15 : Int) (v18 : Int) (x16 : Unit) : Option (Flow Unit (Esc Int Unit)) :=
(count_Run_1 v18).bind fun r21 =>
bif r21 then
(some (.done (.ret i15)))
else
(some (.next ()))
@[reducible] def slices_IndexFunc_Lintint_with_count_Run_1_s2 (a0 : (List Int)) (v : Int × Unit) : Fr × LL := ([(0, aD (.slice tI) a0), (1, .one (.fn 42 [])), (7, aI (List.length a0 : Int)), (8, aI v.1)], [])
@[reducible] def slices_IndexFunc_Lintint_with_count_Run_1_s3 (v : Int) : Fr × LL := ([(4, aI v)], [])
@[reducible] def slices_IndexFunc_Lintint_with_count_Run_1_s4 (v : Unit) : Fr × LL := ([], [])
def slices_IndexFunc_Lintint_with_count_Run_1 (a0 : (List Int)) : Option Int :=
(forL slices_IndexFunc_Lintint_with_count_Run_1_b1 (fun x16 => (.brk ())) a0 0 ()).bind fun v25 =>
match v25 with
| .ret v30 =>
(some v30)
| .brk v31 =>
(some (-1 : Int))
theorem slices_IndexFunc_Lintint_with_count_Run_1_ok {a0 : (List Int)} {r : Int} (h : slices_IndexFunc_Lintint_with_count_Run_1 a0 = some r) : FnC Try.prog 52 [aD (.slice tI) a0, .one (.fn 42 [])] [] (aI r) [] := by
  refine fnC_of_W (B := bodyOf Try.f52) (n := 19) Try.func52 (by kernel_rfl) (by kernel_rfl) (by kernel_rfl) (by kernel_rfl) (by kernel_rfl) ?_
  intro K
  refine W_seq (by kernel_rfl) ?_
  refine W_run 1 [] [0, 1] [] (fr' := [(0, aD (.slice tI) a0), (1, .one (.fn 42 []))]) (L' := []) (obs := []) (by kernel_rfl) (by kernel_rfl) (by kernel_rfl) allP0 ?_
  refine seqQ_norm ?_
  refine W_seq (by kernel_rfl) ?_
  refine W_seq (by kernel_rfl) ?_
  refine W_run 3 [] [0, 1, 7, 8] [] (fr' := [(0, aD (.slice tI) a0), (1, .one (.fn 42 [])), (7, aI (List.length a0 : Int)), (8, aI (0 : Int))]) (L' := []) (obs := []) (by kernel_rfl) (by kernel_rfl) (by kernel_rfl) allP0 ?_
  refine seqQ_norm ?_
  refine W_block (id := 0) (by kernel_rfl) ?_
  obtain ⟨v25, h26, h⟩ := bind_of h
  refine W_len (t := 0) (u := tI) (xs := a0) (by kernel_rfl) (fun h29 => ?_)
  obtain ⟨h27, h28⟩ := forL_iter h29 h26
  refine W_weaken [0, 1, 7, 8] [] (fr' := ((slices_IndexFunc_Lintint_with_count_Run_1_s2 a0) ((0 : Int), ())).1) (L' := ((slices_IndexFunc_Lintint_with_count_Run_1_s2 a0) ((0 : Int), ())).2) (by kernel_rfl) ?_
  refine W_cutK (W_loop (S := (slices_IndexFunc_Lintint_with_count_Run_1_s2 a0)) (J := (escQ (exQ .ret slices_IndexFunc_Lintint_with_count_Run_1_s3) (exQ (.exit 0) slices_IndexFunc_Lintint_with_count_Run_1_s4))) (by kernel_rfl) ?_ h27 _ v25 h28) ?_
  · rintro ⟨i15, x16⟩ s h
    refine W_seq (by kernel_rfl) ?_
    refine W_run 1 [] [0, 1, 7, 8, 9] [] (fr' := [(0, aD (.slice tI) a0), (1, .one (.fn 42 [])), (7, aI (List.length a0 : Int)), (8, aI i15), (9, aB (decide (i15 < (List.length a0 : Int))))]) (L' := []) (obs := []) (by kernel_rfl) (by kernel_rfl) (by kernel_rfl) allP0 ?_
    refine seqQ_norm ?_
    refine W_seq (by kernel_rfl) ?_
    refine W_cond (o := .tmp 9) (b := decide (i15 < (List.length a0 : Int))) (by kernel_rfl) (by kernel_rfl) (fun h20 => ?_) (fun h20 => ?_)
    · replace h := stepL_true h20 h
      obtain ⟨v18, _, h19, h, rfl⟩ := h
      refine W_skip [0, 1, 7, 8] [] (fr' := [(0, aD (.slice tI) a0), (1, .one (.fn 42 [])), (7, aI (List.length a0 : Int)), (8, aI i15)]) (L' := []) (by kernel_rfl) (by kernel_rfl) ?_
      refine seqQ_norm ?_
      refine W_seq (by kernel_rfl) ?_
      refine W_block (id := 1) (by kernel_rfl) ?_
      refine W_seq (by kernel_rfl) ?_
      refine W_run 2 [] [0, 1, 5, 7, 8] [] (fr' := [(0, aD (.slice tI) a0), (1, .one (.fn 42 [])), (5, aI i15), (7, aI (List.length a0 : Int)), (8, aI i15)]) (L' := []) (obs := []) (by kernel_rfl) (by kernel_rfl) (by kernel_rfl) allP0 ?_
      refine seqQ_norm ?_
      refine W_seq (by kernel_rfl) ?_
      refine W_region (by kernel_rfl) ?_
      refine WO_run (j := 5) (k := 5) (orcs := [(7, .val (.dat tI v18))]) (kF := [0, 1, 5, 7, 8, 11, 15]) (kL := []) (fr' := [(0, aD (.slice tI) a0), (1, .one (.fn 42 [])), (5, aI i15), (7, aI (List.length a0 : Int)), (8, aI i15), (11, .one (.fn 42 [])), (15, aI v18)]) (L' := []) (obs := [Idx a0 i15 v18]) rfl (by kernel_rfl) (allP1 (Idx.of h19)) ?_
      obtain ⟨r21, h22, h⟩ := bind_of h
      refine WO_call0 (us := [none]) (d := 16) (p := True) (j := 6) rfl ⟨by kernel_rfl, by kernel_rfl, by kernel_rfl⟩ trivial (count_Run_1_ok h22) (by kernel_rfl) ?_
      refine WO_fin [0, 1, 5, 7, 8, 16] [] (fr' := [(0, aD (.slice tI) a0), (1, .one (.fn 42 [])), (5, aI i15), (7, aI (List.length a0 : Int)), (8, aI i15), (16, aB r21)]) (L' := []) (by kernel_rfl) (by kernel_rfl) ?_
      refine seqQ_norm ?_
      refine W_cond (o := .tmp 16) (b := r21) (by kernel_rfl) (by kernel_rfl) (fun h23 => ?_) (fun h23 => ?_)
      · replace h := ofT h23 h
        refine W_seq (by kernel_rfl) ?_
        refine W_run 2 [] [4] [] (fr' := [(4, aI i15)]) (L' := []) (obs := []) (by kernel_rfl) (by kernel_rfl) (by kernel_rfl) allP0 ?_
        refine seqQ_norm ?_
        obtain rfl := Option.some.inj h
        refine W_ret [4] [] (fr' := [(4, aI i15)]) (L' := []) (by kernel_rfl) (by kernel_rfl) ?_
        refine blockQ_ret ?_
        refine seqQ_ret ?_
        refine round_ret ?_
        refine escQ_ret ?_
        exact exQ_mk (by kernel_rfl) (by kernel_rfl)
      · replace h := ofF h23 h
        refine W_skip [0, 1, 7, 8] [] (fr' := [(0, aD (.slice tI) a0), (1, .one (.fn 42 [])), (7, aI (List.length a0 : Int)), (8, aI i15)]) (L' := []) (by kernel_rfl) (by kernel_rfl) ?_
        refine blockQ_norm ?_
        refine seqQ_norm ?_
        obtain rfl := Option.some.inj h
        refine W_run 2 [] [0, 1, 7, 8] [] (fr' := [(0, aD (.slice tI) a0), (1, .one (.fn 42 [])), (7, aI (List.length a0 : Int)), (8, aI (w64 (i15 + (1 : Int))))]) (L' := []) (obs := []) (by kernel_rfl) (by kernel_rfl) (by kernel_rfl) allP0 ?_
        exact round_next' (by kernel_rfl) (by kernel_rfl)
    · obtain rfl := stepL_false h20 h
      refine W_exit (id := 0) [] [] (fr' := []) (L' := []) (by kernel_rfl) (by kernel_rfl) ?_
      refine seqQ_exit ?_
      refine round_exit ?_
      refine escQ_brk ?_
      exact exQ_mk (by kernel_rfl) (by kernel_rfl)
  · intro e fr L hJ
    rcases v25 with v30 | v31
    · obtain ⟨rfl, rfl, rfl⟩ := hJ
      obtain rfl := Option.some.inj h
      refine LT_keep [4] [] (fr' := [(4, aI v30)]) (L' := []) (by kernel_rfl) ?_
      refine blockQ_ret ?_
      refine seqQ_ret ?_
      exact retQ_mk (by kernel_rfl) (by kernel_rfl) (by kernel_rfl)
    · obtain ⟨rfl, rfl, rfl⟩ := hJ
      refine LT_keep [] [] (fr' := []) (L' := []) (by kernel_rfl) ?_
      refine blockQ_hit ?_
      refine seqQ_norm ?_
      refine W_seq (by kernel_rfl) ?_
      refine W_run 1 [] [4] [] (fr' := [(4, aI (-1 : Int))]) (L' := []) (obs := []) (by kernel_rfl) (by kernel_rfl) (by kernel_rfl) allP0 ?_
      refine seqQ_norm ?_
      obtain rfl := Option.some.inj h
      refine W_ret [4] [] (fr' := [(4, aI (-1 : Int))]) (L' := []) (by kernel_rfl) (by kernel_rfl) ?_
      exact retQ_mk (by kernel_rfl) (by kernel_rfl) (by kernel_rfl)

def slices_ContainsFunc_Lintint_with_count_Run_1 (a0 : (List Int)) : Option Bool :=
(slices_IndexFunc_Lintint_with_count_Run_1 a0).bind fun r1 =>
some (decide (r1 ≥ (0 : Int)))
theorem slices_ContainsFunc_Lintint_with_count_Run_1_ok {a0 : (List Int)} {r : Bool} (h : slices_ContainsFunc_Lintint_with_count_Run_1 a0 = some r) : FnC Try.prog 41 [aD (.slice tI) a0, .one (.fn 42 [])] [] (aB r) [] := by
  refine fnC_of_W (B := bodyOf Try.f41) (n := 9) Try.func41 (by kernel_rfl) (by kernel_rfl) (by kernel_rfl) (by kernel_rfl) (by kernel_rfl) ?_
  intro K
  refine W_seq (by kernel_rfl) ?_
  refine W_run 1 [] [0, 1] [] (fr' := [(0, aD (.slice tI) a0), (1, .one (.fn 42 []))]) (L' := []) (obs := []) (by kernel_rfl) (by kernel_rfl) (by kernel_rfl) allP0 ?_
  refine seqQ_norm ?_
  refine W_seq (by kernel_rfl) ?_
  refine W_region (by kernel_rfl) ?_
  refine WO_run (j := 2) (k := 2) (orcs := []) (kF := [5, 6]) (kL := []) (fr' := [(5, aD (.slice tI) a0), (6, .one (.fn 42 []))]) (L' := []) (obs := []) rfl (by kernel_rfl) allP0 ?_
  obtain ⟨r1, h2, h⟩ := bind_of h
  refine WO_call0 (us := [none, none]) (d := 7) (p := True) (j := 3) rfl ⟨by kernel_rfl, by kernel_rfl, by kernel_rfl⟩ trivial (slices_IndexFunc_Lintint_with_count_Run_1_ok h2) (by kernel_rfl) ?_
  refine WO_run (j := 5) (k := 2) (orcs := []) (kF := [4]) (kL := []) (fr' := [(4, aB (decide (r1 ≥ (0 : Int))))]) (L' := []) (obs := []) rfl (by kernel_rfl) allP0 ?_
  refine WO_fin [4] [] (fr' := [(4, aB (decide (r1 ≥ (0 : Int))))]) (L' := []) (by kernel_rfl) (by kernel_rfl) ?_
  refine seqQ_norm ?_
  obtain rfl := Option.some.inj h
  refine W_ret [4] [] (fr' := [(4, aB (decide (r1 ≥ (0 : Int))))]) (L' := []) (by kernel_rfl) (by kernel_rfl) ?_
  exact retQ_mk (by kernel_rfl) (by kernel_rfl) (by kernel_rfl)

def slices_Clone_Lintint (a0 : (List Int)) : Option (List Int) :=
(ck ((0 : Int) + (List.length a0 : Int) ≤ 4294967296)).bind fun _ =>
some ([] ++ a0)
theorem slices_Clone_Lintint_ok {a0 : (List Int)} {r : (List Int)} (h : slices_Clone_Lintint a0 = some r) : FnC Try.prog 43 [aD (.slice tI) a0] [] (.one (.slc 5)) [(5, .seq tI r)] := by
  refine fnC_of_W (B := bodyOf Try.f43) (n := 8) Try.func43 (by kernel_rfl) (by kernel_rfl) (by kernel_rfl) (by kernel_rfl) (by kernel_rfl) ?_
  intro K
  refine W_seq (by kernel_rfl) ?_
  refine W_run 1 [] [0] [] (fr' := [(0, aD (.slice tI) a0)]) (L' := []) (obs := []) (by kernel_rfl) (by kernel_rfl) (by kernel_rfl) allP0 ?_
  refine seqQ_norm ?_
  refine W_seq (by kernel_rfl) ?_
  refine W_seq (by kernel_rfl) ?_
  refine W_region (by kernel_rfl) ?_
  refine WO_run (j := 1) (k := 1) (orcs := []) (kF := [0, 3]) (kL := []) (fr' := [(0, aD (.slice tI) a0), (3, aD (.slice tI) a0)]) (L' := []) (obs := []) rfl (by kernel_rfl) allP0 ?_
  refine WO_nilcmp (u := tI) (xs := a0) (d := 4) (j := 2) rfl (by kernel_rfl) (by kernel_rfl) (fun h12 h10 => ?_)
  cases h12
  · refine WO_fin [0, 4] [] (fr' := [(0, aD (.slice tI) a0), (4, aB false)]) (L' := []) (by kernel_rfl) (by kernel_rfl) ?_
    refine seqQ_norm ?_
    refine W_cond (o := .tmp 4) (b := false) (by kernel_rfl) (by kernel_rfl) (fun h7 => by have := (rfl : false = false).symm.trans h7; cases this) (fun h7 => ?_)
    refine W_skip [0] [] (fr' := [(0, aD (.slice tI) a0)]) (L' := []) (by kernel_rfl) (by kernel_rfl) ?_
    refine seqQ_norm ?_
    refine W_seq (by kernel_rfl) ?_
    obtain ⟨_, h8, h⟩ := bind_of h
    replace h8 := ck_some h8
    refine W_run 4 [] [2] [5] (fr' := [(2, .one (.slc 5))]) (L' := [(5, .seq tI ([] ++ a0))]) (obs := [SmallLen (List.length ([] : (List Int)) + List.length a0)]) (by kernel_rfl) (by kernel_rfl) (by kernel_rfl) (allP1 h8) ?_
    refine seqQ_norm ?_
    obtain rfl := Option.some.inj h
    refine W_ret [2] [5] (fr' := [(2, .one (.slc 5))]) (L' := [(5, .seq tI ([] ++ a0))]) (by kernel_rfl) (by kernel_rfl) ?_
    exact retQ_mk (by kernel_rfl) (by kernel_rfl) (by kernel_rfl)
  · replace h10 := h10 rfl
    have h11 : (some [] : Option (List Int)) = ((ck ((0 : Int) + (List.length a0 : Int) ≤ 4294967296)).bind fun _ => some ([] ++ a0)) := by rw [h10]; simp [ck]
    replace h := h11.trans h
    refine WO_fin [0, 4] [] (fr' := [(0, aD (.slice tI) a0), (4, aB true)]) (L' := []) (by kernel_rfl) (by kernel_rfl) ?_
    refine seqQ_norm ?_
    refine W_cond (o := .tmp 4) (b := true) (by kernel_rfl) (by kernel_rfl) (fun h9 => ?_) (fun h9 => by have := (rfl : true = true).symm.trans h9; cases this)
    refine W_seq (by kernel_rfl) ?_
    refine W_run 1 [] [2] [] (fr' := [(2, .one (.nilS))]) (L' := []) (obs := []) (by kernel_rfl) (by kernel_rfl) (by kernel_rfl) allP0 ?_
    refine seqQ_norm ?_
    obtain rfl := Option.some.inj h
    refine W_mine 2 5 tI (by kernel_rfl) ?_
    refine W_ret [2] [5] (fr' := [(2, .one (.slc 5))]) (L' := [(5, .seq tI [])]) (by kernel_rfl) (by kernel_rfl) ?_
    refine seqQ_ret ?_
    exact retQ_mk (by kernel_rfl) (by kernel_rfl) (by kernel_rfl)

def count_Turn (a0 : (Int × (Int × (Int × Int)))) (c0 : (List Int)) : Option (Int × (List Int)) :=
bif a0.1 == (1 : Int) then
((idx c0 a0.2.1).bind fun v2 =>
some (a0.2.2.1, List.set c0 (Int.toNat a0.2.1) (w64 (v2 + (1 : Int)))))
else
((idx c0 a0.2.1).bind fun v4 =>
bif v4 == (0 : Int) then
(some (a0.2.2.2, c0))
else
(some (a0.2.2.1, List.set c0 (Int.toNat a0.2.1) (w64 (v4 - (1 : Int))))))
theorem count_Turn_ok {a0 : (Int × (Int × (Int × Int)))} {c0 : (List Int)} {r : (Int × (List Int))} (h : count_Turn a0 c0 = some r) : FnC Try.prog 44 [aD (.pair tI (.pair tI (.pair tI tI))) a0, .one (.slc 1000)] [(1000, .seq tI c0)] (aI r.1) [(1000, .seq tI r.2)] := by
  refine fnC_of_W (B := bodyOf Try.f44) (n := 34) Try.func44 (by kernel_rfl) (by kernel_rfl) (by kernel_rfl) (by kernel_rfl) (by kernel_rfl) ?_
  intro K
  refine W_seq (by kernel_rfl) ?_
  refine W_run 2 [] [1, 2] [1000, 2] (fr' := [(1, .one (.slc 1000)), (2, .one (.ptr 2 0))]) (L' := [(1000, .seq tI c0), (2, .one (.pair tI (.pair tI (.pair tI tI))) a0)]) (obs := []) (by kernel_rfl) (by kernel_rfl) (by kernel_rfl) allP0 ?_
  refine seqQ_norm ?_
  refine W_seq (by kernel_rfl) ?_
  refine W_seq (by kernel_rfl) ?_
  refine W_run 3 [] [1, 2, 7] [1000, 2] (fr' := [(1, .one (.slc 1000)), (2, .one (.ptr 2 0)), (7, aB (a0.1 == (1 : Int)))]) (L' := [(1000, .seq tI c0), (2, .one (.pair tI (.pair tI (.pair tI tI))) a0)]) (obs := []) (by kernel_rfl) (by kernel_rfl) (by kernel_rfl) allP0 ?_
  refine seqQ_norm ?_
  refine W_cond (o := .tmp 7) (b := a0.1 == (1 : Int)) (by kernel_rfl) (by kernel_rfl) (fun h1 => ?_) (fun h1 => ?_)
  · replace h := ofT h1 h
    refine W_seq (by kernel_rfl) ?_
    obtain ⟨v2, h3, h⟩ := bind_of h
    refine W_run 8 [(9, .val (.dat tI v2))] [2] [2, 1000] (fr' := [(2, .one (.ptr 2 0))]) (L' := [(2, .one (.pair tI (.pair tI (.pair tI tI))) a0), (1000, .seq tI (List.set c0 (Int.toNat a0.2.1) (w64 (v2 + (1 : Int)))))]) (obs := [InR a0.2.1 (List.length c0), Idx c0 a0.2.1 v2, InR a0.2.1 (List.length c0), InR a0.2.1 (List.length c0)]) (by kernel_rfl) (by kernel_rfl) (by kernel_rfl) (allP2 (InR.of h3) (allP2 (Idx.of h3) (allP2 (InR.of h3) (allP1 (InR.of h3))))) ?_
    refine seqQ_norm ?_
    refine W_seq (by kernel_rfl) ?_
    refine W_run 3 [] [4] [1000] (fr' := [(4, aI a0.2.2.1)]) (L' := [(1000, .seq tI (List.set c0 (Int.toNat a0.2.1) (w64 (v2 + (1 : Int)))))]) (obs := []) (by kernel_rfl) (by kernel_rfl) (by kernel_rfl) allP0 ?_
    refine seqQ_norm ?_
    obtain rfl := Option.some.inj h
    refine W_ret [4] [1000] (fr' := [(4, aI a0.2.2.1)]) (L' := [(1000, .seq tI (List.set c0 (Int.toNat a0.2.1) (w64 (v2 + (1 : Int)))))]) (by kernel_rfl) (by kernel_rfl) ?_
    refine seqQ_ret ?_
    exact retQ_mk (by kernel_rfl) (by kernel_rfl) (by kernel_rfl)
  · replace h := ofF h1 h
    refine W_skip [1, 2] [1000, 2] (fr' := [(1, .one (.slc 1000)), (2, .one (.ptr 2 0))]) (L' := [(1000, .seq tI c0), (2, .one (.pair tI (.pair tI (.pair tI tI))) a0)]) (by kernel_rfl) (by kernel_rfl) ?_
    refine seqQ_norm ?_
    refine W_seq (by kernel_rfl) ?_
    refine W_seq (by kernel_rfl) ?_
    obtain ⟨v4, h5, h⟩ := bind_of h
    refine W_run 6 [(9, .val (.dat tI v4))] [1, 2, 22] [1000, 2] (fr' := [(1, .one (.slc 1000)), (2, .one (.ptr 2 0)), (22, aB (v4 == (0 : Int)))]) (L' := [(1000, .seq tI c0), (2, .one (.pair tI (.pair tI (.pair tI tI))) a0)]) (obs := [InR a0.2.1 (List.length c0), Idx c0 a0.2.1 v4]) (by kernel_rfl) (by kernel_rfl) (by kernel_rfl) (allP2 (InR.of h5) (allP1 (Idx.of h5))) ?_
    refine seqQ_norm ?_
    refine W_cond (o := .tmp 22) (b := v4 == (0 : Int)) (by kernel_rfl) (by kernel_rfl) (fun h6 => ?_) (fun h6 => ?_)
    · replace h := ofT h6 h
      refine W_seq (by kernel_rfl) ?_
      refine W_run 3 [] [4] [1000] (fr' := [(4, aI a0.2.2.2)]) (L' := [(1000, .seq tI c0)]) (obs := []) (by kernel_rfl) (by kernel_rfl) (by kernel_rfl) allP0 ?_
      refine seqQ_norm ?_
      obtain rfl := Option.some.inj h
      refine W_ret [4] [1000] (fr' := [(4, aI a0.2.2.2)]) (L' := [(1000, .seq tI c0)]) (by kernel_rfl) (by kernel_rfl) ?_
      refine seqQ_ret ?_
      exact retQ_mk (by kernel_rfl) (by kernel_rfl) (by kernel_rfl)
    · replace h := ofF h6 h
      refine W_skip [1, 2] [1000, 2] (fr' := [(1, .one (.slc 1000)), (2, .one (.ptr 2 0))]) (L' := [(1000, .seq tI c0), (2, .one (.pair tI (.pair tI (.pair tI tI))) a0)]) (by kernel_rfl) (by kernel_rfl) ?_
      refine seqQ_norm ?_
      refine W_seq (by kernel_rfl) ?_
      refine W_run 8 [(9, .val (.dat tI v4))] [2] [2, 1000] (fr' := [(2, .one (.ptr 2 0))]) (L' := [(2, .one (.pair tI (.pair tI (.pair tI tI))) a0), (1000, .seq tI (List.set c0 (Int.toNat a0.2.1) (w64 (v4 - (1 : Int)))))]) (obs := [InR a0.2.1 (List.length c0), Idx c0 a0.2.1 v4, InR a0.2.1 (List.length c0), InR a0.2.1 (List.length c0)]) (by kernel_rfl) (by kernel_rfl) (by kernel_rfl) (allP2 (InR.of h5) (allP2 (Idx.of h5) (allP2 (InR.of h5) (allP1 (InR.of h5))))) ?_
      refine seqQ_norm ?_
      refine W_seq (by kernel_rfl) ?_
      refine W_run 3 [] [4] [1000] (fr' := [(4, aI a0.2.2.1)]) (L' := [(1000, .seq tI (List.set c0 (Int.toNat a0.2.1) (w64 (v4 - (1 : Int)))))]) (obs := []) (by kernel_rfl) (by kernel_rfl) (by kernel_rfl) allP0 ?_
      refine seqQ_norm ?_
      obtain rfl := Option.some.inj h
      refine W_ret [4] [1000] (fr' := [(4, aI a0.2.2.1)]) (L' := [(1000, .seq tI (List.set c0 (Int.toNat a0.2.1) (w64 (v4 - (1 : Int)))))]) (by kernel_rfl) (by kernel_rfl) ?_
      exact retQ_mk (by kernel_rfl) (by kernel_rfl) (by kernel_rfl)

def count_Run_b1 (a1 : (List (Int × (Int × (Int × Int))))) (a3 : Int) (x17 : (Int × Int × (List Int))) : Option (Flow (Int × Int × (List Int)) (Int × Int × (List Int))) :=
bif (decide (x17.2.1 < a3)) && (decide (x17.1 < (List.length a1 : Int))) then
((idx a1 x17.1).bind fun v24 =>
(count_Turn v24 x17.2.2).bind fun r26 =>
some (.next (r26.1, w64 (x17.2.1 + (1 : Int)), r26.2)))
else
(some (.done (x17.1, x17.2.1, x17.2.2)))
@[reducible] def count_Run_s2 (a1 : (List (Int × (Int × (Int × Int))))) (a3 : Int) (v : (Int × Int × (List Int))) : Fr × LL := ([(1, aD (.slice (.pair tI (.pair tI (.pair tI tI)))) a1), (3, aI a3), (13, .one (.slc 35)), (14, aI v.1), (15, aI v.2.1)], [(35, .seq tI v.2.2)])
@[reducible] def count_Run_s3 (v : (Int × Int × (List Int))) : Fr × LL := ([(13, .one (.slc 35)), (14, aI v.1), (15, aI v.2.1)], [(35, .seq tI v.2.2)])
def count_Run (fuel : Nat) (a0 : Int) (a1 : (List (Int × (Int × (Int × Int))))) (a2 : (List Int)) (a3 : Int) : Option ((List Int) × Int × Int × Int) :=
(count_Check a0 a1).bind fun r1 =>
bif r1 != (0 : Int) then
(some ([], (0 : Int), (0 : Int), r1))
else
(bif (List.length a2 : Int) != a0 then
(some ([], (0 : Int), (0 : Int), (3 : Int)))
else
((slices_ContainsFunc_Lintint_with_count_Run_1 a2).bind fun r5 =>
bif r5 then
(some ([], (0 : Int), (0 : Int), (4 : Int)))
else
(bif (decide (a3 < (0 : Int))) || (decide (a3 > (400 : Int))) then
(some ([], (0 : Int), (0 : Int), (7 : Int)))
else
((slices_Clone_Lintint a2).bind fun r9 =>
(iter (count_Run_b1 a1 a3) fuel ((0 : Int), (0 : Int), r9)).bind fun v28 =>
some (v28.2.2, v28.1, v28.2.1, (0 : Int))))))
theorem count_Run_ok {fuel : Nat} {a0 : Int} {a1 : (List (Int × (Int × (Int × Int))))} {a2 : (List Int)} {a3 : Int} {r : ((List Int) × Int × Int × Int)} (h : count_Run fuel a0 a1 a2 a3 = some r) : FnC Try.prog 24 [aI a0, aD (.slice (.pair tI (.pair tI (.pair tI tI)))) a1, aD (.slice tI) a2, aI a3] [] (.tup [.dat (.slice tI) r.1, .dat tI r.2.1, .dat tI r.2.2.1, .dat tI r.2.2.2]) [] := by
  refine fnC_of_W (B := bodyOf Try.f24) (n := 56) Try.func24 (by kernel_rfl) (by kernel_rfl) (by kernel_rfl) (by kernel_rfl) (by kernel_rfl) ?_
  intro K
  refine W_seq (by kernel_rfl) ?_
  refine W_run 4 [] [0, 1, 2, 3] [] (fr' := [(0, aI a0), (1, aD (.slice (.pair tI (.pair tI (.pair tI tI)))) a1), (2, aD (.slice tI) a2), (3, aI a3)]) (L' := []) (obs := []) (by kernel_rfl) (by kernel_rfl) (by kernel_rfl) allP0 ?_
  refine seqQ_norm ?_
  refine W_seq (by kernel_rfl) ?_
  refine W_seq (by kernel_rfl) ?_
  refine W_region (by kernel_rfl) ?_
  refine WO_run (j := 2) (k := 2) (orcs := []) (kF := [0, 1, 2, 3, 16, 17]) (kL := []) (fr' := [(0, aI a0), (1, aD (.slice (.pair tI (.pair tI (.pair tI tI)))) a1), (2, aD (.slice tI) a2), (3, aI a3), (16, aI a0), (17, aD (.slice (.pair tI (.pair tI (.pair tI tI)))) a1)]) (L' := []) (obs := []) rfl (by kernel_rfl) allP0 ?_
  obtain ⟨r1, h2, h⟩ := bind_of h
  refine WO_call0 (us := [none, none]) (d := 18) (p := True) (j := 3) rfl ⟨by kernel_rfl, by kernel_rfl, by kernel_rfl⟩ trivial (count_Check_ok h2) (by kernel_rfl) ?_
  refine WO_run (j := 4) (k := 1) (orcs := []) (kF := [0, 1, 2, 3, 12]) (kL := []) (fr' := [(0, aI a0), (1, aD (.slice (.pair tI (.pair tI (.pair tI tI)))) a1), (2, aD (.slice tI) a2), (3, aI a3), (12, aI r1)]) (L' := []) (obs := []) rfl (by kernel_rfl) allP0 ?_
  refine WO_fin [0, 1, 2, 3, 12] [] (fr' := [(0, aI a0), (1, aD (.slice (.pair tI (.pair tI (.pair tI tI)))) a1), (2, aD (.slice tI) a2), (3, aI a3), (12, aI r1)]) (L' := []) (by kernel_rfl) (by kernel_rfl) ?_
  refine seqQ_norm ?_
  refine W_seq (by kernel_rfl) ?_
  refine W_run 2 [] [0, 1, 2, 3, 12, 20] [] (fr' := [(0, aI a0), (1, aD (.slice (.pair tI (.pair tI (.pair tI tI)))) a1), (2, aD (.slice tI) a2), (3, aI a3), (12, aI r1), (20, aB (r1 != (0 : Int)))]) (L' := []) (obs := []) (by kernel_rfl) (by kernel_rfl) (by kernel_rfl) allP0 ?_
  refine seqQ_norm ?_
  refine W_cond (o := .tmp 20) (b := r1 != (0 : Int)) (by kernel_rfl) (by kernel_rfl) (fun h3 => ?_) (fun h3 => ?_)
  · replace h := ofT h3 h
    refine W_seq (by kernel_rfl) ?_
    refine W_run 5 [] [8, 9, 10, 11] [] (fr' := [(8, .one (.nilS)), (9, aI (0 : Int)), (10, aI (0 : Int)), (11, aI r1)]) (L' := []) (obs := []) (by kernel_rfl) (by kernel_rfl) (by kernel_rfl) allP0 ?_
    refine seqQ_norm ?_
    obtain rfl := Option.some.inj h
    refine W_cnv 8 (.slice tI) (by kernel_rfl) ?_
    refine W_ret [8, 9, 10, 11] [] (fr' := [(8, aD (.slice tI) []), (9, aI (0 : Int)), (10, aI (0 : Int)), (11, aI r1)]) (L' := []) (by kernel_rfl) (by kernel_rfl) ?_
    refine seqQ_ret ?_
    exact retQ_mk (by kernel_rfl) (by kernel_rfl) (by kernel_rfl)
  · replace h := ofF h3 h
    refine W_skip [0, 1, 2, 3] [] (fr' := [(0, aI a0), (1, aD (.slice (.pair tI (.pair tI (.pair tI tI)))) a1), (2, aD (.slice tI) a2), (3, aI a3)]) (L' := []) (by kernel_rfl) (by kernel_rfl) ?_
    refine seqQ_norm ?_
    refine W_seq (by kernel_rfl) ?_
    refine W_seq (by kernel_rfl) ?_
    refine W_run 4 [] [1, 2, 3, 25] [] (fr' := [(1, aD (.slice (.pair tI (.pair tI (.pair tI tI)))) a1), (2, aD (.slice tI) a2), (3, aI a3), (25, aB ((List.length a2 : Int) != a0))]) (L' := []) (obs := []) (by kernel_rfl) (by kernel_rfl) (by kernel_rfl) allP0 ?_
    refine seqQ_norm ?_
    refine W_cond (o := .tmp 25) (b := (List.length a2 : Int) != a0) (by kernel_rfl) (by kernel_rfl) (fun h4 => ?_) (fun h4 => ?_)
    · replace h := ofT h4 h
      refine W_seq (by kernel_rfl) ?_
      refine W_run 4 [] [8, 9, 10, 11] [] (fr' := [(8, .one (.nilS)), (9, aI (0 : Int)), (10, aI (0 : Int)), (11, aI (3 : Int))]) (L' := []) (obs := []) (by kernel_rfl) (by kernel_rfl) (by kernel_rfl) allP0 ?_
      refine seqQ_norm ?_
      obtain rfl := Option.some.inj h
      refine W_cnv 8 (.slice tI) (by kernel_rfl) ?_
      refine W_ret [8, 9, 10, 11] [] (fr' := [(8, aD (.slice tI) []), (9, aI (0 : Int)), (10, aI (0 : Int)), (11, aI (3 : Int))]) (L' := []) (by kernel_rfl) (by kernel_rfl) ?_
      refine seqQ_ret ?_
      exact retQ_mk (by kernel_rfl) (by kernel_rfl) (by kernel_rfl)
    · replace h := ofF h4 h
      refine W_skip [1, 2, 3] [] (fr' := [(1, aD (.slice (.pair tI (.pair tI (.pair tI tI)))) a1), (2, aD (.slice tI) a2), (3, aI a3)]) (L' := []) (by kernel_rfl) (by kernel_rfl) ?_
      refine seqQ_norm ?_
      refine W_seq (by kernel_rfl) ?_
      refine W_seq (by kernel_rfl) ?_
      refine W_region (by kernel_rfl) ?_
      refine WO_run (j := 1) (k := 1) (orcs := []) (kF := [1, 2, 3, 26]) (kL := []) (fr' := [(1, aD (.slice (.pair tI (.pair tI (.pair tI tI)))) a1), (2, aD (.slice tI) a2), (3, aI a3), (26, aD (.slice tI) a2)]) (L' := []) (obs := []) rfl (by kernel_rfl) allP0 ?_
      obtain ⟨r5, h6, h⟩ := bind_of h
      refine WO_call0 (us := [none, none]) (d := 27) (p := True) (j := 2) rfl ⟨by kernel_rfl, by kernel_rfl, by kernel_rfl⟩ trivial (slices_ContainsFunc_Lintint_with_count_Run_1_ok h6) (by kernel_rfl) ?_
      refine WO_fin [1, 2, 3, 27] [] (fr' := [(1, aD (.slice (.pair tI (.pair tI (.pair tI tI)))) a1), (2, aD (.slice tI) a2), (3, aI a3), (27, aB r5)]) (L' := []) (by kernel_rfl) (by kernel_rfl) ?_
      refine seqQ_norm ?_
      refine W_cond (o := .tmp 27) (b := r5) (by kernel_rfl) (by kernel_rfl) (fun h7 => ?_) (fun h7 => ?_)
      · replace h := ofT h7 h
        refine W_seq (by kernel_rfl) ?_
        refine W_run 4 [] [8, 9, 10, 11] [] (fr' := [(8, .one (.nilS)), (9, aI (0 : Int)), (10, aI (0 : Int)), (11, aI (4 : Int))]) (L' := []) (obs := []) (by kernel_rfl) (by kernel_rfl) (by kernel_rfl) allP0 ?_
        refine seqQ_norm ?_
        obtain rfl := Option.some.inj h
        refine W_cnv 8 (.slice tI) (by kernel_rfl) ?_
        refine W_ret [8, 9, 10, 11] [] (fr' := [(8, aD (.slice tI) []), (9, aI (0 : Int)), (10, aI (0 : Int)), (11, aI (4 : Int))]) (L' := []) (by kernel_rfl) (by kernel_rfl) ?_
        refine seqQ_ret ?_
        exact retQ_mk (by kernel_rfl) (by kernel_rfl) (by kernel_rfl)
      · replace h := ofF h7 h
        refine W_skip [1, 2, 3] [] (fr' := [(1, aD (.slice (.pair tI (.pair tI (.pair tI tI)))) a1), (2, aD (.slice tI) a2), (3, aI a3)]) (L' := []) (by kernel_rfl) (by kernel_rfl) ?_
        refine seqQ_norm ?_
        refine W_seq (by kernel_rfl) ?_
        refine W_seq (by kernel_rfl) ?_
        refine W_run 6 [] [1, 2, 3, 33] [] (fr' := [(1, aD (.slice (.pair tI (.pair tI (.pair tI tI)))) a1), (2, aD (.slice tI) a2), (3, aI a3), (33, aB ((decide (a3 < (0 : Int))) || (decide (a3 > (400 : Int)))))]) (L' := []) (obs := []) (by kernel_rfl) (by kernel_rfl) (by kernel_rfl) allP0 ?_
        refine seqQ_norm ?_
        refine W_cond (o := .tmp 33) (b := (decide (a3 < (0 : Int))) || (decide (a3 > (400 : Int)))) (by kernel_rfl) (by kernel_rfl) (fun h8 => ?_) (fun h8 => ?_)
        · replace h := ofT h8 h
          refine W_seq (by kernel_rfl) ?_
          refine W_run 4 [] [8, 9, 10, 11] [] (fr' := [(8, .one (.nilS)), (9, aI (0 : Int)), (10, aI (0 : Int)), (11, aI (7 : Int))]) (L' := []) (obs := []) (by kernel_rfl) (by kernel_rfl) (by kernel_rfl) allP0 ?_
          refine seqQ_norm ?_
          obtain rfl := Option.some.inj h
          refine W_cnv 8 (.slice tI) (by kernel_rfl) ?_
          refine W_ret [8, 9, 10, 11] [] (fr' := [(8, aD (.slice tI) []), (9, aI (0 : Int)), (10, aI (0 : Int)), (11, aI (7 : Int))]) (L' := []) (by kernel_rfl) (by kernel_rfl) ?_
          refine seqQ_ret ?_
          exact retQ_mk (by kernel_rfl) (by kernel_rfl) (by kernel_rfl)
        · replace h := ofF h8 h
          refine W_skip [1, 2, 3] [] (fr' := [(1, aD (.slice (.pair tI (.pair tI (.pair tI tI)))) a1), (2, aD (.slice tI) a2), (3, aI a3)]) (L' := []) (by kernel_rfl) (by kernel_rfl) ?_
          refine seqQ_norm ?_
          refine W_seq (by kernel_rfl) ?_
          refine W_region (by kernel_rfl) ?_
          refine WO_run (j := 1) (k := 1) (orcs := []) (kF := [1, 3, 34]) (kL := []) (fr' := [(1, aD (.slice (.pair tI (.pair tI (.pair tI tI)))) a1), (3, aI a3), (34, aD (.slice tI) a2)]) (L' := []) (obs := []) rfl (by kernel_rfl) allP0 ?_
          obtain ⟨r9, h10, h⟩ := bind_of h
          refine WO_call1 (us := [none]) (d := 35) (t := 35) (p := True) (j := 2) rfl ⟨by kernel_rfl, by kernel_rfl, by kernel_rfl⟩ trivial (slices_Clone_Lintint_ok h10) (by kernel_rfl) ?_
          refine WO_run (j := 3) (k := 1) (orcs := []) (kF := [1, 3, 13]) (kL := [35]) (fr' := [(1, aD (.slice (.pair tI (.pair tI (.pair tI tI)))) a1), (3, aI a3), (13, .one (.slc 35))]) (L' := [(35, .seq tI r9)]) (obs := []) rfl (by kernel_rfl) allP0 ?_
          refine WO_fin [1, 3, 13] [35] (fr' := [(1, aD (.slice (.pair tI (.pair tI (.pair tI tI)))) a1), (3, aI a3), (13, .one (.slc 35))]) (L' := [(35, .seq tI r9)]) (by kernel_rfl) (by kernel_rfl) ?_
          refine seqQ_norm ?_
          refine W_seq (by kernel_rfl) ?_
          refine W_run 2 [] [1, 3, 13, 14, 15] [35] (fr' := [(1, aD (.slice (.pair tI (.pair tI (.pair tI tI)))) a1), (3, aI a3), (13, .one (.slc 35)), (14, aI (0 : Int)), (15, aI (0 : Int))]) (L' := [(35, .seq tI r9)]) (obs := []) (by kernel_rfl) (by kernel_rfl) (by kernel_rfl) allP0 ?_
          refine seqQ_norm ?_
          refine W_seq (by kernel_rfl) ?_
          refine W_block (id := 0) (by kernel_rfl) ?_
          obtain ⟨v28, h29, h⟩ := bind_of h
          refine W_weaken [1, 3, 13, 14, 15] [35] (fr' := ((count_Run_s2 a1 a3) ((0 : Int), (0 : Int), r9)).1) (L' := ((count_Run_s2 a1 a3) ((0 : Int), (0 : Int), r9)).2) (by kernel_rfl) ?_
          refine W_cutK (W_loop (S := (count_Run_s2 a1 a3)) (J := (exQ (.exit 0) count_Run_s3)) (by kernel_rfl) ?_ fuel _ v28 h29) ?_
          · rintro x17 s h
            refine W_seq (by kernel_rfl) ?_
            refine W_seq (by kernel_rfl) ?_
            refine W_run 9 [] [1, 3, 13, 14, 15, 44] [35] (fr' := [(1, aD (.slice (.pair tI (.pair tI (.pair tI tI)))) a1), (3, aI a3), (13, .one (.slc 35)), (14, aI x17.1), (15, aI x17.2.1), (44, aB ((decide (x17.2.1 < a3)) && (decide (x17.1 < (List.length a1 : Int)))))]) (L' := [(35, .seq tI x17.2.2)]) (obs := []) (by kernel_rfl) (by kernel_rfl) (by kernel_rfl) allP0 ?_
            refine seqQ_norm ?_
            refine W_cond (o := .tmp 44) (b := (decide (x17.2.1 < a3)) && (decide (x17.1 < (List.length a1 : Int)))) (by kernel_rfl) (by kernel_rfl) (fun h23 => ?_) (fun h23 => ?_)
            · replace h := ofT h23 h
              refine W_skip [1, 3, 13, 14, 15] [35] (fr' := [(1, aD (.slice (.pair tI (.pair tI (.pair tI tI)))) a1), (3, aI a3), (13, .one (.slc 35)), (14, aI x17.1), (15, aI x17.2.1)]) (L' := [(35, .seq tI x17.2.2)]) (by kernel_rfl) (by kernel_rfl) ?_
              refine seqQ_norm ?_
              refine W_seq (by kernel_rfl) ?_
              refine W_block (id := 1) (by kernel_rfl) ?_
              obtain ⟨v24, h25, h⟩ := bind_of h
              refine W_region (by kernel_rfl) ?_
              refine WO_run (j := 5) (k := 5) (orcs := [(5, .val (.dat (.pair tI (.pair tI (.pair tI tI))) v24))]) (kF := [1, 3, 13, 14, 15, 50, 51]) (kL := [35]) (fr' := [(1, aD (.slice (.pair tI (.pair tI (.pair tI tI)))) a1), (3, aI a3), (13, .one (.slc 35)), (14, aI x17.1), (15, aI x17.2.1), (50, aD (.pair tI (.pair tI (.pair tI tI))) v24), (51, .one (.slc 35))]) (L' := [(35, .seq tI x17.2.2)]) (obs := [Idx a1 x17.1 v24]) rfl (by kernel_rfl) (allP1 (Idx.of h25)) ?_
              obtain ⟨r26, h27, h⟩ := bind_of h
              refine WO_lend [(1000, 35)] (us := [none, none]) (d := 52) (p := True) (j := 6) rfl ⟨by kernel_rfl, by kernel_rfl, by kernel_rfl⟩ trivial (count_Turn_ok h27) (by kernel_rfl) (by kernel_rfl) ?_
              refine WO_run (j := 7) (k := 1) (orcs := []) (kF := [1, 3, 13, 14, 15]) (kL := [35]) (fr' := [(1, aD (.slice (.pair tI (.pair tI (.pair tI tI)))) a1), (3, aI a3), (13, .one (.slc 35)), (14, aI r26.1), (15, aI x17.2.1)]) (L' := [(35, .seq tI r26.2)]) (obs := []) rfl (by kernel_rfl) allP0 ?_
              refine WO_fin [1, 3, 13, 14, 15] [35] (fr' := [(1, aD (.slice (.pair tI (.pair tI (.pair tI tI)))) a1), (3, aI a3), (13, .one (.slc 35)), (14, aI r26.1), (15, aI x17.2.1)]) (L' := [(35, .seq tI r26.2)]) (by kernel_rfl) (by kernel_rfl) ?_
              refine blockQ_norm ?_
              refine seqQ_norm ?_
              obtain rfl := Option.some.inj h
              refine W_run 3 [] [1, 3, 13, 14, 15] [35] (fr' := [(1, aD (.slice (.pair tI (.pair tI (.pair tI tI)))) a1), (3, aI a3), (13, .one (.slc 35)), (14, aI r26.1), (15, aI (w64 (x17.2.1 + (1 : Int))))]) (L' := [(35, .seq tI r26.2)]) (obs := []) (by kernel_rfl) (by kernel_rfl) (by kernel_rfl) allP0 ?_
              exact round_next' (by kernel_rfl) (by kernel_rfl)
            · replace h := ofF h23 h
              obtain rfl := Option.some.inj h
              refine W_exit (id := 0) [13, 14, 15] [35] (fr' := [(13, .one (.slc 35)), (14, aI x17.1), (15, aI x17.2.1)]) (L' := [(35, .seq tI x17.2.2)]) (by kernel_rfl) (by kernel_rfl) ?_
              refine seqQ_exit ?_
              refine round_exit ?_
              exact exQ_mk (by kernel_rfl) (by kernel_rfl)
          · intro e fr L hJ
            obtain ⟨rfl, rfl, rfl⟩ := hJ
            refine LT_keep [13, 14, 15] [35] (fr' := [(13, .one (.slc 35)), (14, aI v28.1), (15, aI v28.2.1)]) (L' := [(35, .seq tI v28.2.2)]) (by kernel_rfl) ?_
            refine blockQ_hit ?_
            refine seqQ_norm ?_
            refine W_seq (by kernel_rfl) ?_
            refine W_run 7 [] [8, 9, 10, 11] [35] (fr' := [(8, .one (.slc 35)), (9, aI v28.1), (10, aI v28.2.1), (11, aI (0 : Int))]) (L' := [(35, .seq tI v28.2.2)]) (obs := []) (by kernel_rfl) (by kernel_rfl) (by kernel_rfl) allP0 ?_
            refine seqQ_norm ?_
            obtain rfl := Option.some.inj h
            refine W_frz 35 (by kernel_rfl) ?_
            refine W_ret [8, 9, 10, 11] [] (fr' := [(8, aD (.slice tI) v28.2.2), (9, aI v28.1), (10, aI v28.2.1), (11, aI (0 : Int))]) (L' := []) (by kernel_rfl) (by kernel_rfl) ?_
            exact retQ_mk (by kernel_rfl) (by kernel_rfl) (by kernel_rfl)

def ref_Within (a0 : Int) (a1 : Int) (a2 : Int) : Option Bool :=
some ((decide (a0 ≤ a1)) && (decide (a1 ≤ a2)))
theorem ref_Within_ok {a0 : Int} {a1 : Int} {a2 : Int} {r : Bool} (h : ref_Within a0 a1 a2 = some r) : FnC Try.prog 15 [aI a0, aI a1, aI a2] [] (aB r) [] := by
  refine fnC_of_W (B := bodyOf Try.f15) (n := 15) Try.func15 (by kernel_rfl) (by kernel_rfl) (by kernel_rfl) (by kernel_rfl) (by kernel_rfl) ?_
  intro K
  refine W_seq (by kernel_rfl) ?_
  refine W_run 1 [] [0, 1, 2] [] (fr' := [(0, aI a0), (1, aI a1), (2, aI a2)]) (L' := []) (obs := []) (by kernel_rfl) (by kernel_rfl) (by kernel_rfl) allP0 ?_
  refine seqQ_norm ?_
  refine W_seq (by kernel_rfl) ?_
  refine W_run 9 [] [6] [] (fr' := [(6, aB ((decide (a0 ≤ a1)) && (decide (a1 ≤ a2))))]) (L' := []) (obs := []) (by kernel_rfl) (by kernel_rfl) (by kernel_rfl) allP0 ?_
  refine seqQ_norm ?_
  obtain rfl := Option.some.inj h
  refine W_ret [6] [] (fr' := [(6, aB ((decide (a0 ≤ a1)) && (decide (a1 ≤ a2))))]) (L' := []) (by kernel_rfl) (by kernel_rfl) ?_
  exact retQ_mk (by kernel_rfl) (by kernel_rfl) (by kernel_rfl)

def ref_Inside_b1 (a0 : Int) (i11 : Int) (v14 : Int) (x12 : Unit) : Option (Flow Unit (Esc Bool Unit)) :=
bif (decide (v14 < (0 : Int))) || (decide (v14 ≥ a0)) then
(some (.done (.ret false)))
else
(some (.next ()))
@[reducible] def ref_Inside_s2 (a0 : Int) (a1 : (List Int)) (v : Int × Unit) : Fr × LL := ([(0, aI a0), (7, aD (.slice tI) a1), (8, aI (List.length a1 : Int)), (9, aI v.1)], [])
@[reducible] def ref_Inside_s3 (v : Bool) : Fr × LL := ([(4, aB v)], [])
@[reducible] def ref_Inside_s4 (v : Unit) : Fr × LL := ([], [])
def ref_Inside (a0 : Int) (a1 : (List Int)) : Option Bool :=
(forL (ref_Inside_b1 a0) (fun x12 => (.brk ())) a1 0 ()).bind fun v19 =>
match v19 with
| .ret v24 =>
(some v24)
| .brk v25 =>
(some true)
theorem ref_Inside_ok {a0 : Int} {a1 : (List Int)} {r : Bool} (h : ref_Inside a0 a1 = some r) : FnC Try.prog 51 [aI a0, aD (.slice tI) a1] [] (aB r) [] := by
  refine fnC_of_W (B := bodyOf Try.f51) (n := 21) Try.func51 (by kernel_rfl) (by kernel_rfl) (by kernel_rfl) (by kernel_rfl) (by kernel_rfl) ?_
  intro K
  refine W_seq (by kernel_rfl) ?_
  refine W_run 1 [] [0, 1] [] (fr' := [(0, aI a0), (1, aD (.slice tI) a1)]) (L' := []) (obs := []) (by kernel_rfl) (by kernel_rfl) (by kernel_rfl) allP0 ?_
  refine seqQ_norm ?_
  refine W_seq (by kernel_rfl) ?_
  refine W_seq (by kernel_rfl) ?_
  refine W_run 3 [] [0, 7, 8, 9] [] (fr' := [(0, aI a0), (7, aD (.slice tI) a1), (8, aI (List.length a1 : Int)), (9, aI (0 : Int))]) (L' := []) (obs := []) (by kernel_rfl) (by kernel_rfl) (by kernel_rfl) allP0 ?_
  refine seqQ_norm ?_
  refine W_block (id := 0) (by kernel_rfl) ?_
  obtain ⟨v19, h20, h⟩ := bind_of h
  refine W_len (t := 7) (u := tI) (xs := a1) (by kernel_rfl) (fun h23 => ?_)
  obtain ⟨h21, h22⟩ := forL_iter h23 h20
  refine W_weaken [0, 7, 8, 9] [] (fr' := ((ref_Inside_s2 a0 a1) ((0 : Int), ())).1) (L' := ((ref_Inside_s2 a0 a1) ((0 : Int), ())).2) (by kernel_rfl) ?_
  refine W_cutK (W_loop (S := (ref_Inside_s2 a0 a1)) (J := (escQ (exQ .ret ref_Inside_s3) (exQ (.exit 0) ref_Inside_s4))) (by kernel_rfl) ?_ h21 _ v19 h22) ?_
  · rintro ⟨i11, x12⟩ s h
    refine W_seq (by kernel_rfl) ?_
    refine W_run 1 [] [0, 7, 8, 9, 10] [] (fr' := [(0, aI a0), (7, aD (.slice tI) a1), (8, aI (List.length a1 : Int)), (9, aI i11), (10, aB (decide (i11 < (List.length a1 : Int))))]) (L' := []) (obs := []) (by kernel_rfl) (by kernel_rfl) (by kernel_rfl) allP0 ?_
    refine seqQ_norm ?_
    refine W_seq (by kernel_rfl) ?_
    refine W_cond (o := .tmp 10) (b := decide (i11 < (List.length a1 : Int))) (by kernel_rfl) (by kernel_rfl) (fun h16 => ?_) (fun h16 => ?_)
    · replace h := stepL_true h16 h
      obtain ⟨v14, _, h15, h, rfl⟩ := h
      refine W_skip [0, 7, 8, 9] [] (fr' := [(0, aI a0), (7, aD (.slice tI) a1), (8, aI (List.length a1 : Int)), (9, aI i11)]) (L' := []) (by kernel_rfl) (by kernel_rfl) ?_
      refine seqQ_norm ?_
      refine W_seq (by kernel_rfl) ?_
      refine W_block (id := 1) (by kernel_rfl) ?_
      refine W_seq (by kernel_rfl) ?_
      refine W_run 3 [(1, .val (.dat tI v14))] [0, 6, 7, 8, 9] [] (fr' := [(0, aI a0), (6, aI v14), (7, aD (.slice tI) a1), (8, aI (List.length a1 : Int)), (9, aI i11)]) (L' := []) (obs := [Idx a1 i11 v14]) (by kernel_rfl) (by kernel_rfl) (by kernel_rfl) (allP1 (Idx.of h15)) ?_
      refine seqQ_norm ?_
      refine W_seq (by kernel_rfl) ?_
      refine W_run 7 [] [0, 7, 8, 9, 19] [] (fr' := [(0, aI a0), (7, aD (.slice tI) a1), (8, aI (List.length a1 : Int)), (9, aI i11), (19, aB ((decide (v14 < (0 : Int))) || (decide (v14 ≥ a0))))]) (L' := []) (obs := []) (by kernel_rfl) (by kernel_rfl) (by kernel_rfl) allP0 ?_
      refine seqQ_norm ?_
      refine W_cond (o := .tmp 19) (b := (decide (v14 < (0 : Int))) || (decide (v14 ≥ a0))) (by kernel_rfl) (by kernel_rfl) (fun h17 => ?_) (fun h17 => ?_)
      · replace h := ofT h17 h
        refine W_seq (by kernel_rfl) ?_
        refine W_run 1 [] [4] [] (fr' := [(4, aB false)]) (L' := []) (obs := []) (by kernel_rfl) (by kernel_rfl) (by kernel_rfl) allP0 ?_
        refine seqQ_norm ?_
        obtain rfl := Option.some.inj h
        refine W_ret [4] [] (fr' := [(4, aB false)]) (L' := []) (by kernel_rfl) (by kernel_rfl) ?_
        refine blockQ_ret ?_
        refine seqQ_ret ?_
        refine round_ret ?_
        refine escQ_ret ?_
        exact exQ_mk (by kernel_rfl) (by kernel_rfl)
      · replace h := ofF h17 h
        refine W_skip [0, 7, 8, 9] [] (fr' := [(0, aI a0), (7, aD (.slice tI) a1), (8, aI (List.length a1 : Int)), (9, aI i11)]) (L' := []) (by kernel_rfl) (by kernel_rfl) ?_
        refine blockQ_norm ?_
        refine seqQ_norm ?_
        obtain rfl := Option.some.inj h
        refine W_run 2 [] [0, 7, 8, 9] [] (fr' := [(0, aI a0), (7, aD (.slice tI) a1), (8, aI (List.length a1 : Int)), (9, aI (w64 (i11 + (1 : Int))))]) (L' := []) (obs := []) (by kernel_rfl) (by kernel_rfl) (by kernel_rfl) allP0 ?_
        exact round_next' (by kernel_rfl) (by kernel_rfl)
    · obtain rfl := stepL_false h16 h
      refine W_exit (id := 0) [] [] (fr' := []) (L' := []) (by kernel_rfl) (by kernel_rfl) ?_
      refine seqQ_exit ?_
      refine round_exit ?_
      refine escQ_brk ?_
      exact exQ_mk (by kernel_rfl) (by kernel_rfl)
  · intro e fr L hJ
    rcases v19 with v24 | v25
    · obtain ⟨rfl, rfl, rfl⟩ := hJ
      obtain rfl := Option.some.inj h
      refine LT_keep [4] [] (fr' := [(4, aB v24)]) (L' := []) (by kernel_rfl) ?_
      refine blockQ_ret ?_
      refine seqQ_ret ?_
      exact retQ_mk (by kernel_rfl) (by kernel_rfl) (by kernel_rfl)
    · obtain ⟨rfl, rfl, rfl⟩ := hJ
      refine LT_keep [] [] (fr' := []) (L' := []) (by kernel_rfl) ?_
      refine blockQ_hit ?_
      refine seqQ_norm ?_
      refine W_seq (by kernel_rfl) ?_
      refine W_run 1 [] [4] [] (fr' := [(4, aB true)]) (L' := []) (obs := []) (by kernel_rfl) (by kernel_rfl) (by kernel_rfl) allP0 ?_
      refine seqQ_norm ?_
      obtain rfl := Option.some.inj h
      refine W_ret [4] [] (fr' := [(4, aB true)]) (L' := []) (by kernel_rfl) (by kernel_rfl) ?_
      exact retQ_mk (by kernel_rfl) (by kernel_rfl) (by kernel_rfl)

def ref_OrdersCheck_g7 (a1 : (List (Int × (Int × (Int × Int))))) (v72 : (Int × (Int × (Int × Int)))) : Option Bool :=
(ref_Inside (w64 ((List.length a1 : Int) + (1 : Int))) [v72.2.2.1]).bind fun r96 =>
bif !r96 then
(some true)
else
(bif v72.1 == (2 : Int) then
((ref_Inside (w64 ((List.length a1 : Int) + (1 : Int))) [v72.2.2.2]).bind fun r100 =>
some (!r100))
else
(some false))
@[reducible] def ref_OrdersCheck_s8 (a0 : Int) (a1 : (List (Int × (Int × (Int × Int))))) (i69 : Int) (v : Bool) : Fr × LL := ([(0, aI a0), (1, aD (.slice (.pair tI (.pair tI (.pair tI tI)))) a1), (7, aD (.slice (.pair tI (.pair tI (.pair tI tI)))) a1), (8, aI (List.length a1 : Int)), (9, aI i69), (49, aB v)], [])
@[reducible] def ref_OrdersCheck_s9 (a0 : Int) (a1 : (List (Int × (Int × (Int × Int))))) (i69 : Int) (v72 : (Int × (Int × (Int × Int)))) (v : Bool) : Fr × LL := ([(0, aI a0), (1, aD (.slice (.pair tI (.pair tI (.pair tI tI)))) a1), (6, .one (.ptr 6 0)), (7, aD (.slice (.pair tI (.pair tI (.pair tI tI)))) a1), (8, aI (List.length a1 : Int)), (9, aI i69), (20, aB v)], [(6, .one (.pair tI (.pair tI (.pair tI tI))) v72)])
def ref_OrdersCheck_b10 (a0 : Int) (a1 : (List (Int × (Int × (Int × Int))))) (i69 : Int) (v72 : (Int × (Int × (Int × Int)))) (x70 : Unit) : Option (Flow Unit (Esc Int Unit)) :=
(bif v72.1 != (1 : Int) then
(some (v72.1 != (2 : Int)))
else
(some false)).bind fun v78 =>
bif v78 then
(some (.done (.ret (6 : Int))))
else
((ref_Inside a0 [v72.2.1]).bind fun r81 =>
bif !r81 then
(some (.done (.ret (2 : Int))))
else
((ref_OrdersCheck_g7 a1 v72).bind fun v102 =>
bif v102 then
(some (.done (.ret (3 : Int))))
else
(some (.next ()))))
@[reducible] def ref_OrdersCheck_s11 (a0 : Int) (a1 : (List (Int × (Int × (Int × Int))))) (v : Int × Unit) : Fr × LL := ([(0, aI a0), (1, aD (.slice (.pair tI (.pair tI (.pair tI tI)))) a1), (7, aD (.slice (.pair tI (.pair tI (.pair tI tI)))) a1), (8, aI (List.length a1 : Int)), (9, aI v.1)], [])
@[reducible] def ref_OrdersCheck_s12 (v : Int) : Fr × LL := ([(4, aI v)], [])
@[reducible] def ref_OrdersCheck_s13 (v : Unit) : Fr × LL := ([], [])
def ref_OrdersCheck (a0 : Int) (a1 : (List (Int × (Int × (Int × Int))))) : Option Int :=
(forL (ref_OrdersCheck_b10 a0 a1) (fun x70 => (.brk ())) a1 0 ()).bind fun v106 =>
match v106 with
| .ret v111 =>
(some v111)
| .brk v112 =>
(some (0 : Int))
theorem ref_OrdersCheck_ok {a0 : Int} {a1 : (List (Int × (Int × (Int × Int))))} {r : Int} (h : ref_OrdersCheck a0 a1 = some r) : FnC Try.prog 40 [aI a0, aD (.slice (.pair tI (.pair tI (.pair tI tI)))) a1] [] (aI r) [] := by
  refine fnC_of_W (B := bodyOf Try.f40) (n := 51) Try.func40 (by kernel_rfl) (by kernel_rfl) (by kernel_rfl) (by kernel_rfl) (by kernel_rfl) ?_
  intro K
  refine W_seq (by kernel_rfl) ?_
  refine W_run 1 [] [0, 1] [] (fr' := [(0, aI a0), (1, aD (.slice (.pair tI (.pair tI (.pair tI tI)))) a1)]) (L' := []) (obs := []) (by kernel_rfl) (by kernel_rfl) (by kernel_rfl) allP0 ?_
  refine seqQ_norm ?_
  refine W_seq (by kernel_rfl) ?_
  refine W_seq (by kernel_rfl) ?_
  refine W_run 3 [] [0, 1, 7, 8, 9] [] (fr' := [(0, aI a0), (1, aD (.slice (.pair tI (.pair tI (.pair tI tI)))) a1), (7, aD (.slice (.pair tI (.pair tI (.pair tI tI)))) a1), (8, aI (List.length a1 : Int)), (9, aI (0 : Int))]) (L' := []) (obs := []) (by kernel_rfl) (by kernel_rfl) (by kernel_rfl) allP0 ?_
  refine seqQ_norm ?_
  refine W_block (id := 0) (by kernel_rfl) ?_
  obtain ⟨v106, h107, h⟩ := bind_of h
  refine W_len (t := 7) (u := (.pair tI (.pair tI (.pair tI tI)))) (xs := a1) (by kernel_rfl) (fun h110 => ?_)
  obtain ⟨h108, h109⟩ := forL_iter h110 h107
  refine W_weaken [0, 1, 7, 8, 9] [] (fr' := ((ref_OrdersCheck_s11 a0 a1) ((0 : Int), ())).1) (L' := ((ref_OrdersCheck_s11 a0 a1) ((0 : Int), ())).2) (by kernel_rfl) ?_
  refine W_cutK (W_loop (S := (ref_OrdersCheck_s11 a0 a1)) (J := (escQ (exQ .ret ref_OrdersCheck_s12) (exQ (.exit 0) ref_OrdersCheck_s13))) (by kernel_rfl) ?_ h108 _ v106 h109) ?_
  · rintro ⟨i69, x70⟩ s h
    refine W_seq (by kernel_rfl) ?_
    refine W_run 1 [] [0, 1, 7, 8, 9, 10] [] (fr' := [(0, aI a0), (1, aD (.slice (.pair tI (.pair tI (.pair tI tI)))) a1), (7, aD (.slice (.pair tI (.pair tI (.pair tI tI)))) a1), (8, aI (List.length a1 : Int)), (9, aI i69), (10, aB (decide (i69 < (List.length a1 : Int))))]) (L' := []) (obs := []) (by kernel_rfl) (by kernel_rfl) (by kernel_rfl) allP0 ?_
    refine seqQ_norm ?_
    refine W_seq (by kernel_rfl) ?_
    refine W_cond (o := .tmp 10) (b := decide (i69 < (List.length a1 : Int))) (by kernel_rfl) (by kernel_rfl) (fun h74 => ?_) (fun h74 => ?_)
    · replace h := stepL_true h74 h
      obtain ⟨v72, _, h73, h, rfl⟩ := h
      refine W_skip [0, 1, 7, 8, 9] [] (fr' := [(0, aI a0), (1, aD (.slice (.pair tI (.pair tI (.pair tI tI)))) a1), (7, aD (.slice (.pair tI (.pair tI (.pair tI tI)))) a1), (8, aI (List.length a1 : Int)), (9, aI i69)]) (L' := []) (by kernel_rfl) (by kernel_rfl) ?_
      refine seqQ_norm ?_
      refine W_seq (by kernel_rfl) ?_
      refine W_block (id := 1) (by kernel_rfl) ?_
      refine W_seq (by kernel_rfl) ?_
      refine W_run 4 [(1, .val (.dat (.pair tI (.pair tI (.pair tI tI))) v72)), (5, .typed)] [0, 1, 6, 7, 8, 9] [6] (fr' := [(0, aI a0), (1, aD (.slice (.pair tI (.pair tI (.pair tI tI)))) a1), (6, .one (.ptr 6 0)), (7, aD (.slice (.pair tI (.pair tI (.pair tI tI)))) a1), (8, aI (List.length a1 : Int)), (9, aI i69)]) (L' := [(6, .one (.pair tI (.pair tI (.pair tI tI))) v72)]) (obs := [Idx a1 i69 v72, True]) (by kernel_rfl) (by kernel_rfl) (by kernel_rfl) (allP2 (Idx.of h73) (allP1 trivial)) ?_
      refine seqQ_norm ?_
      refine W_seq (by kernel_rfl) ?_
      refine W_seq (by kernel_rfl) ?_
      obtain ⟨v78, h79, h⟩ := bind_of h
      refine W_cutK (Q' := (exQ .normal (ref_OrdersCheck_s9 a0 a1 i69 v72)) v78) ?_ ?_
      · replace h := h79
        refine W_region (by kernel_rfl) ?_
        refine WO_run (j := 4) (k := 4) (orcs := []) (kF := [0, 1, 6, 7, 8, 9, 16]) (kL := [6]) (fr' := [(0, aI a0), (1, aD (.slice (.pair tI (.pair tI (.pair tI tI)))) a1), (6, .one (.ptr 6 0)), (7, aD (.slice (.pair tI (.pair tI (.pair tI tI)))) a1), (8, aI (List.length a1 : Int)), (9, aI i69), (16, aB (v72.1 != (1 : Int)))]) (L' := [(6, .one (.pair tI (.pair tI (.pair tI tI))) v72)]) (obs := []) rfl (by kernel_rfl) allP0 ?_
        rcases Bool.eq_false_or_eq_true (v72.1 != (1 : Int)) with h77 | h77
        · replace h := ofT h77 h
          refine WO_run (j := 8) (k := 4) (orcs := [(8, .known true), (10, .known true), (12, .known true), (15, .val (.dat .bool true))]) (kF := [0, 1, 6, 7, 8, 9, 20]) (kL := [6]) (fr' := [(0, aI a0), (1, aD (.slice (.pair tI (.pair tI (.pair tI tI)))) a1), (6, .one (.ptr 6 0)), (7, aD (.slice (.pair tI (.pair tI (.pair tI tI)))) a1), (8, aI (List.length a1 : Int)), (9, aI i69), (20, aB (v72.1 != (2 : Int)))]) (L' := [(6, .one (.pair tI (.pair tI (.pair tI tI))) v72)]) (obs := [((v72.1 != (1 : Int)) = true), ((v72.1 != (1 : Int)) = true), ((v72.1 != (1 : Int)) = true), ((v72.1 != (1 : Int)) = true)]) rfl (by kernel_rfl) (allP2 h77 (allP2 h77 (allP2 h77 (allP1 h77)))) ?_
          obtain rfl := Option.some.inj h
          refine WO_fin [0, 1, 6, 7, 8, 9, 20] [6] (fr' := [(0, aI a0), (1, aD (.slice (.pair tI (.pair tI (.pair tI tI)))) a1), (6, .one (.ptr 6 0)), (7, aD (.slice (.pair tI (.pair tI (.pair tI tI)))) a1), (8, aI (List.length a1 : Int)), (9, aI i69), (20, aB (v72.1 != (2 : Int)))]) (L' := [(6, .one (.pair tI (.pair tI (.pair tI tI))) v72)]) (by kernel_rfl) (by kernel_rfl) ?_
          exact exQ_mk (by kernel_rfl) (by kernel_rfl)
        · replace h := ofF h77 h
          refine WO_run (j := 8) (k := 4) (orcs := [(8, .known false), (10, .known false), (12, .known false), (15, .val (.dat .bool false))]) (kF := [0, 1, 6, 7, 8, 9, 20]) (kL := [6]) (fr' := [(0, aI a0), (1, aD (.slice (.pair tI (.pair tI (.pair tI tI)))) a1), (6, .one (.ptr 6 0)), (7, aD (.slice (.pair tI (.pair tI (.pair tI tI)))) a1), (8, aI (List.length a1 : Int)), (9, aI i69), (20, aB false)]) (L' := [(6, .one (.pair tI (.pair tI (.pair tI tI))) v72)]) (obs := [((v72.1 != (1 : Int)) = false), ((v72.1 != (1 : Int)) = false), ((v72.1 != (1 : Int)) = false), ((v72.1 != (1 : Int)) = false)]) rfl (by kernel_rfl) (allP2 h77 (allP2 h77 (allP2 h77 (allP1 h77)))) ?_
          obtain rfl := Option.some.inj h
          refine WO_fin [0, 1, 6, 7, 8, 9, 20] [6] (fr' := [(0, aI a0), (1, aD (.slice (.pair tI (.pair tI (.pair tI tI)))) a1), (6, .one (.ptr 6 0)), (7, aD (.slice (.pair tI (.pair tI (.pair tI tI)))) a1), (8, aI (List.length a1 : Int)), (9, aI i69), (20, aB false)]) (L' := [(6, .one (.pair tI (.pair tI (.pair tI tI))) v72)]) (by kernel_rfl) (by kernel_rfl) ?_
          exact exQ_mk (by kernel_rfl) (by kernel_rfl)
      · intro e fr L hJ
        obtain ⟨rfl, rfl, rfl⟩ := hJ
        refine LT_keep [0, 1, 6, 7, 8, 9, 20] [6] (fr' := [(0, aI a0), (1, aD (.slice (.pair tI (.pair tI (.pair tI tI)))) a1), (6, .one (.ptr 6 0)), (7, aD (.slice (.pair tI (.pair tI (.pair tI tI)))) a1), (8, aI (List.length a1 : Int)), (9, aI i69), (20, aB v78)]) (L' := [(6, .one (.pair tI (.pair tI (.pair tI tI))) v72)]) (by kernel_rfl) ?_
        refine seqQ_norm ?_
        refine W_cond (o := .tmp 20) (b := v78) (by kernel_rfl) (by kernel_rfl) (fun h80 => ?_) (fun h80 => ?_)
        · replace h := ofT h80 h
          refine W_seq (by kernel_rfl) ?_
          refine W_run 1 [] [4] [] (fr' := [(4, aI (6 : Int))]) (L' := []) (obs := []) (by kernel_rfl) (by kernel_rfl) (by kernel_rfl) allP0 ?_
          refine seqQ_norm ?_
          obtain rfl := Option.some.inj h
          refine W_ret [4] [] (fr' := [(4, aI (6 : Int))]) (L' := []) (by kernel_rfl) (by kernel_rfl) ?_
          refine seqQ_ret ?_
          refine blockQ_ret ?_
          refine seqQ_ret ?_
          refine round_ret ?_
          refine escQ_ret ?_
          exact exQ_mk (by kernel_rfl) (by kernel_rfl)
        · replace h := ofF h80 h
          refine W_skip [0, 1, 6, 7, 8, 9] [6] (fr' := [(0, aI a0), (1, aD (.slice (.pair tI (.pair tI (.pair tI tI)))) a1), (6, .one (.ptr 6 0)), (7, aD (.slice (.pair tI (.pair tI (.pair tI tI)))) a1), (8, aI (List.length a1 : Int)), (9, aI i69)]) (L' := [(6, .one (.pair tI (.pair tI (.pair tI tI))) v72)]) (by kernel_rfl) (by kernel_rfl) ?_
          refine seqQ_norm ?_
          refine W_seq (by kernel_rfl) ?_
          refine W_seq (by kernel_rfl) ?_
          refine W_region (by kernel_rfl) ?_
          refine WO_run (j := 4) (k := 4) (orcs := []) (kF := [0, 1, 6, 7, 8, 9, 21, 24]) (kL := [6, 24]) (fr' := [(0, aI a0), (1, aD (.slice (.pair tI (.pair tI (.pair tI tI)))) a1), (6, .one (.ptr 6 0)), (7, aD (.slice (.pair tI (.pair tI (.pair tI tI)))) a1), (8, aI (List.length a1 : Int)), (9, aI i69), (21, aI a0), (24, .one (.slc 24))]) (L' := [(6, .one (.pair tI (.pair tI (.pair tI tI))) v72), (24, .seq tI [v72.2.1])]) (obs := []) rfl (by kernel_rfl) allP0 ?_
          obtain ⟨r81, h82, h⟩ := bind_of h
          refine WO_frz 24 (by kernel_rfl) ?_
          refine WO_call0 (us := [none, none]) (d := 25) (p := True) (j := 5) rfl ⟨by kernel_rfl, by kernel_rfl, by kernel_rfl⟩ trivial (ref_Inside_ok h82) (by kernel_rfl) ?_
          refine WO_run (j := 6) (k := 1) (orcs := []) (kF := [0, 1, 6, 7, 8, 9, 26]) (kL := [6]) (fr' := [(0, aI a0), (1, aD (.slice (.pair tI (.pair tI (.pair tI tI)))) a1), (6, .one (.ptr 6 0)), (7, aD (.slice (.pair tI (.pair tI (.pair tI tI)))) a1), (8, aI (List.length a1 : Int)), (9, aI i69), (26, aB (!r81))]) (L' := [(6, .one (.pair tI (.pair tI (.pair tI tI))) v72)]) (obs := []) rfl (by kernel_rfl) allP0 ?_
          refine WO_fin [0, 1, 6, 7, 8, 9, 26] [6] (fr' := [(0, aI a0), (1, aD (.slice (.pair tI (.pair tI (.pair tI tI)))) a1), (6, .one (.ptr 6 0)), (7, aD (.slice (.pair tI (.pair tI (.pair tI tI)))) a1), (8, aI (List.length a1 : Int)), (9, aI i69), (26, aB (!r81))]) (L' := [(6, .one (.pair tI (.pair tI (.pair tI tI))) v72)]) (by kernel_rfl) (by kernel_rfl) ?_
          refine seqQ_norm ?_
          refine W_cond (o := .tmp 26) (b := !r81) (by kernel_rfl) (by kernel_rfl) (fun h83 => ?_) (fun h83 => ?_)
          · replace h := ofT h83 h
            refine W_seq (by kernel_rfl) ?_
            refine W_run 1 [] [4] [] (fr' := [(4, aI (2 : Int))]) (L' := []) (obs := []) (by kernel_rfl) (by kernel_rfl) (by kernel_rfl) allP0 ?_
            refine seqQ_norm ?_
            obtain rfl := Option.some.inj h
            refine W_ret [4] [] (fr' := [(4, aI (2 : Int))]) (L' := []) (by kernel_rfl) (by kernel_rfl) ?_
            refine seqQ_ret ?_
            refine blockQ_ret ?_
            refine seqQ_ret ?_
            refine round_ret ?_
            refine escQ_ret ?_
            exact exQ_mk (by kernel_rfl) (by kernel_rfl)
          · replace h := ofF h83 h
            refine W_skip [0, 1, 6, 7, 8, 9] [6] (fr' := [(0, aI a0), (1, aD (.slice (.pair tI (.pair tI (.pair tI tI)))) a1), (6, .one (.ptr 6 0)), (7, aD (.slice (.pair tI (.pair tI (.pair tI tI)))) a1), (8, aI (List.length a1 : Int)), (9, aI i69)]) (L' := [(6, .one (.pair tI (.pair tI (.pair tI tI))) v72)]) (by kernel_rfl) (by kernel_rfl) ?_
            refine seqQ_norm ?_
            refine W_seq (by kernel_rfl) ?_
            obtain ⟨v102, h103, h⟩ := bind_of h
            refine W_cutK (Q' := (exQ .normal (ref_OrdersCheck_s8 a0 a1 i69)) v102) ?_ ?_
            · replace h := h103
              refine W_region (by kernel_rfl) ?_
              refine WO_run (j := 6) (k := 6) (orcs := []) (kF := [0, 1, 6, 7, 8, 9, 29, 32]) (kL := [6, 32]) (fr' := [(0, aI a0), (1, aD (.slice (.pair tI (.pair tI (.pair tI tI)))) a1), (6, .one (.ptr 6 0)), (7, aD (.slice (.pair tI (.pair tI (.pair tI tI)))) a1), (8, aI (List.length a1 : Int)), (9, aI i69), (29, aI (w64 ((List.length a1 : Int) + (1 : Int)))), (32, .one (.slc 32))]) (L' := [(6, .one (.pair tI (.pair tI (.pair tI tI))) v72), (32, .seq tI [v72.2.2.1])]) (obs := []) rfl (by kernel_rfl) allP0 ?_
              obtain ⟨r96, h97, h⟩ := bind_of h
              refine WO_frz 32 (by kernel_rfl) ?_
              refine WO_call0 (us := [none, none]) (d := 33) (p := True) (j := 7) rfl ⟨by kernel_rfl, by kernel_rfl, by kernel_rfl⟩ trivial (ref_Inside_ok h97) (by kernel_rfl) ?_
              refine WO_run (j := 9) (k := 2) (orcs := []) (kF := [0, 1, 6, 7, 8, 9, 35]) (kL := [6]) (fr' := [(0, aI a0), (1, aD (.slice (.pair tI (.pair tI (.pair tI tI)))) a1), (6, .one (.ptr 6 0)), (7, aD (.slice (.pair tI (.pair tI (.pair tI tI)))) a1), (8, aI (List.length a1 : Int)), (9, aI i69), (35, aB (!r96))]) (L' := [(6, .one (.pair tI (.pair tI (.pair tI tI))) v72)]) (obs := []) rfl (by kernel_rfl) allP0 ?_
              rcases Bool.eq_false_or_eq_true (!r96) with h98 | h98
              · replace h := ofT h98 h
                refine WO_run (j := 23) (k := 14) (orcs := [(18, .known true), (20, .known true), (22, .known true), (24, .known true), (26, .known true), (28, .known true), (30, .known true), (32, .known true), (34, .known true), (36, .known true), (38, .known true), (40, .known true), (42, .known true), (45, .val (.dat .bool true))]) (kF := [0, 1, 7, 8, 9, 49]) (kL := [6]) (fr' := [(0, aI a0), (1, aD (.slice (.pair tI (.pair tI (.pair tI tI)))) a1), (7, aD (.slice (.pair tI (.pair tI (.pair tI tI)))) a1), (8, aI (List.length a1 : Int)), (9, aI i69), (49, aB true)]) (L' := [(6, .one (.pair tI (.pair tI (.pair tI tI))) v72)]) (obs := [((!r96) = true), ((!r96) = true), ((!r96) = true), ((!r96) = true), ((!r96) = true), ((!r96) = true)]) rfl (by kernel_rfl) (allP2 h98 (allP2 h98 (allP2 h98 (allP2 h98 (allP2 h98 (allP1 h98)))))) ?_
                obtain rfl := Option.some.inj h
                refine WO_fin [0, 1, 7, 8, 9, 49] [] (fr' := [(0, aI a0), (1, aD (.slice (.pair tI (.pair tI (.pair tI tI)))) a1), (7, aD (.slice (.pair tI (.pair tI (.pair tI tI)))) a1), (8, aI (List.length a1 : Int)), (9, aI i69), (49, aB true)]) (L' := []) (by kernel_rfl) (by kernel_rfl) ?_
                exact exQ_mk (by kernel_rfl) (by kernel_rfl)
              · replace h := ofF h98 h
                refine WO_run (j := 13) (k := 4) (orcs := [(18, .known false), (20, .known false), (22, .known false), (24, .known false)]) (kF := [0, 1, 6, 7, 8, 9, 35, 39]) (kL := [6]) (fr' := [(0, aI a0), (1, aD (.slice (.pair tI (.pair tI (.pair tI tI)))) a1), (6, .one (.ptr 6 0)), (7, aD (.slice (.pair tI (.pair tI (.pair tI tI)))) a1), (8, aI (List.length a1 : Int)), (9, aI i69), (35, aB (!r96)), (39, aB (v72.1 == (2 : Int)))]) (L' := [(6, .one (.pair tI (.pair tI (.pair tI tI))) v72)]) (obs := [((!r96) = false), ((!r96) = false), ((!r96) = false), ((!r96) = false)]) rfl (by kernel_rfl) (allP2 h98 (allP2 h98 (allP2 h98 (allP1 h98)))) ?_
                rcases Bool.eq_false_or_eq_true (v72.1 == (2 : Int)) with h99 | h99
                · replace h := ofT h99 h
                  refine WO_run (j := 19) (k := 6) (orcs := [(26, .known true), (28, .known true), (30, .known true), (32, .known true), (34, .known true), (36, .known true)]) (kF := [0, 1, 7, 8, 9, 35, 39, 42, 45]) (kL := [6, 45]) (fr' := [(0, aI a0), (1, aD (.slice (.pair tI (.pair tI (.pair tI tI)))) a1), (7, aD (.slice (.pair tI (.pair tI (.pair tI tI)))) a1), (8, aI (List.length a1 : Int)), (9, aI i69), (35, aB (!r96)), (39, aB (v72.1 == (2 : Int))), (42, aI (w64 ((List.length a1 : Int) + (1 : Int)))), (45, .one (.slc 45))]) (L' := [(6, .one (.pair tI (.pair tI (.pair tI tI))) v72), (45, .seq tI [v72.2.2.2])]) (obs := [((v72.1 == (2 : Int)) = true), ((v72.1 == (2 : Int)) = true), ((v72.1 == (2 : Int)) = true), ((v72.1 == (2 : Int)) = true), ((v72.1 == (2 : Int)) = true), ((v72.1 == (2 : Int)) = true)]) rfl (by kernel_rfl) (allP2 h99 (allP2 h99 (allP2 h99 (allP2 h99 (allP2 h99 (allP1 h99)))))) ?_
                  obtain ⟨r100, h101, h⟩ := bind_of h
                  refine WO_frz 45 (by kernel_rfl) ?_
                  refine WO_call0 (us := [none, none]) (d := 46) (p := ((v72.1 == (2 : Int)) = true)) (j := 20) rfl ⟨by kernel_rfl, by kernel_rfl, by kernel_rfl⟩ h99 (ref_Inside_ok h101) (by kernel_rfl) ?_
                  refine WO_run (j := 23) (k := 3) (orcs := [(40, .known true), (42, .known false), (43, .val (.dat .bool true)), (45, .val (.dat .bool false))]) (kF := [0, 1, 7, 8, 9, 49]) (kL := [6]) (fr' := [(0, aI a0), (1, aD (.slice (.pair tI (.pair tI (.pair tI tI)))) a1), (7, aD (.slice (.pair tI (.pair tI (.pair tI tI)))) a1), (8, aI (List.length a1 : Int)), (9, aI i69), (49, aB (!r100))]) (L' := [(6, .one (.pair tI (.pair tI (.pair tI tI))) v72)]) (obs := [((v72.1 == (2 : Int)) = true), ((!r96) = false), ((v72.1 == (2 : Int)) = true), ((!r96) = false)]) rfl (by kernel_rfl) (allP2 h99 (allP2 h98 (allP2 h99 (allP1 h98)))) ?_
                  obtain rfl := Option.some.inj h
                  refine WO_fin [0, 1, 7, 8, 9, 49] [] (fr' := [(0, aI a0), (1, aD (.slice (.pair tI (.pair tI (.pair tI tI)))) a1), (7, aD (.slice (.pair tI (.pair tI (.pair tI tI)))) a1), (8, aI (List.length a1 : Int)), (9, aI i69), (49, aB (!r100))]) (L' := []) (by kernel_rfl) (by kernel_rfl) ?_
                  exact exQ_mk (by kernel_rfl) (by kernel_rfl)
                · replace h := ofF h99 h
                  refine WO_run (j := 23) (k := 10) (orcs := [(26, .known false), (28, .known false), (30, .known false), (32, .known false), (34, .known false), (36, .known false), (38, .known false), (40, .known false), (42, .known false), (43, .val (.dat .bool false)), (45, .val (.dat .bool false))]) (kF := [0, 1, 7, 8, 9, 49]) (kL := [6]) (fr' := [(0, aI a0), (1, aD (.slice (.pair tI (.pair tI (.pair tI tI)))) a1), (7, aD (.slice (.pair tI (.pair tI (.pair tI tI)))) a1), (8, aI (List.length a1 : Int)), (9, aI i69), (49, aB false)]) (L' := [(6, .one (.pair tI (.pair tI (.pair tI tI))) v72)]) (obs := [((v72.1 == (2 : Int)) = false), ((v72.1 == (2 : Int)) = false), ((v72.1 == (2 : Int)) = false), ((v72.1 == (2 : Int)) = false), ((v72.1 == (2 : Int)) = false), ((v72.1 == (2 : Int)) = false), ((v72.1 == (2 : Int)) = false), ((v72.1 == (2 : Int)) = false), ((!r96) = false), ((v72.1 == (2 : Int)) = false), ((!r96) = false)]) rfl (by kernel_rfl) (allP2 h99 (allP2 h99 (allP2 h99 (allP2 h99 (allP2 h99 (allP2 h99 (allP2 h99 (allP2 h99 (allP2 h98 (allP2 h99 (allP1 h98))))))))))) ?_
                  obtain rfl := Option.some.inj h
                  refine WO_fin [0, 1, 7, 8, 9, 49] [] (fr' := [(0, aI a0), (1, aD (.slice (.pair tI (.pair tI (.pair tI tI)))) a1), (7, aD (.slice (.pair tI (.pair tI (.pair tI tI)))) a1), (8, aI (List.length a1 : Int)), (9, aI i69), (49, aB false)]) (L' := []) (by kernel_rfl) (by kernel_rfl) ?_
                  exact exQ_mk (by kernel_rfl) (by kernel_rfl)
            · intro e fr L hJ
              obtain ⟨rfl, rfl, rfl⟩ := hJ
              refine LT_keep [0, 1, 7, 8, 9, 49] [] (fr' := [(0, aI a0), (1, aD (.slice (.pair tI (.pair tI (.pair tI tI)))) a1), (7, aD (.slice (.pair tI (.pair tI (.pair tI tI)))) a1), (8, aI (List.length a1 : Int)), (9, aI i69), (49, aB v102)]) (L' := []) (by kernel_rfl) ?_
              refine seqQ_norm ?_
              refine W_cond (o := .tmp 49) (b := v102) (by kernel_rfl) (by kernel_rfl) (fun h104 => ?_) (fun h104 => ?_)
              · replace h := ofT h104 h
                refine W_seq (by kernel_rfl) ?_
                refine W_run 1 [] [4] [] (fr' := [(4, aI (3 : Int))]) (L' := []) (obs := []) (by kernel_rfl) (by kernel_rfl) (by kernel_rfl) allP0 ?_
                refine seqQ_norm ?_
                obtain rfl := Option.some.inj h
                refine W_ret [4] [] (fr' := [(4, aI (3 : Int))]) (L' := []) (by kernel_rfl) (by kernel_rfl) ?_
                refine blockQ_ret ?_
                refine seqQ_ret ?_
                refine round_ret ?_
                refine escQ_ret ?_
                exact exQ_mk (by kernel_rfl) (by kernel_rfl)
              · replace h := ofF h104 h
                refine W_skip [0, 1, 7, 8, 9] [] (fr' := [(0, aI a0), (1, aD (.slice (.pair tI (.pair tI (.pair tI tI)))) a1), (7, aD (.slice (.pair tI (.pair tI (.pair tI tI)))) a1), (8, aI (List.length a1 : Int)), (9, aI i69)]) (L' := []) (by kernel_rfl) (by kernel_rfl) ?_
                refine blockQ_norm ?_
                refine seqQ_norm ?_
                obtain rfl := Option.some.inj h
                refine W_run 2 [] [0, 1, 7, 8, 9] [] (fr' := [(0, aI a0), (1, aD (.slice (.pair tI (.pair tI (.pair tI tI)))) a1), (7, aD (.slice (.pair tI (.pair tI (.pair tI tI)))) a1), (8, aI (List.length a1 : Int)), (9, aI (w64 (i69 + (1 : Int))))]) (L' := []) (obs := []) (by kernel_rfl) (by kernel_rfl) (by kernel_rfl) allP0 ?_
                exact round_next' (by kernel_rfl) (by kernel_rfl)
    · obtain rfl := stepL_false h74 h
      refine W_exit (id := 0) [] [] (fr' := []) (L' := []) (by kernel_rfl) (by kernel_rfl) ?_
      refine seqQ_exit ?_
      refine round_exit ?_
      refine escQ_brk ?_
      exact exQ_mk (by kernel_rfl) (by kernel_rfl)
  · intro e fr L hJ
    rcases v106 with v111 | v112
    · obtain ⟨rfl, rfl, rfl⟩ := hJ
      obtain rfl := Option.some.inj h
      refine LT_keep [4] [] (fr' := [(4, aI v111)]) (L' := []) (by kernel_rfl) ?_
      refine blockQ_ret ?_
      refine seqQ_ret ?_
      exact retQ_mk (by kernel_rfl) (by kernel_rfl) (by kernel_rfl)
    · obtain ⟨rfl, rfl, rfl⟩ := hJ
      refine LT_keep [] [] (fr' := []) (L' := []) (by kernel_rfl) ?_
      refine blockQ_hit ?_
      refine seqQ_norm ?_
      refine W_seq (by kernel_rfl) ?_
      refine W_run 1 [] [4] [] (fr' := [(4, aI (0 : Int))]) (L' := []) (obs := []) (by kernel_rfl) (by kernel_rfl) (by kernel_rfl) allP0 ?_
      refine seqQ_norm ?_
      obtain rfl := Option.some.inj h
      refine W_ret [4] [] (fr' := [(4, aI (0 : Int))]) (L' := []) (by kernel_rfl) (by kernel_rfl) ?_
      exact retQ_mk (by kernel_rfl) (by kernel_rfl) (by kernel_rfl)

def ref_CountCheck_g1 (a0 : Int) (a1 : (List (Int × (Int × (Int × Int))))) : Option Bool :=
(ref_Within (1 : Int) a0 (4 : Int)).bind fun r11 =>
bif !r11 then
(some true)
else
((ref_Within (1 : Int) (List.length a1 : Int) (12 : Int)).bind fun r14 =>
some (!r14))
@[reducible] def ref_CountCheck_s2 (a0 : Int) (a1 : (List (Int × (Int × (Int × Int))))) (v : Bool) : Fr × LL := ([(0, aI a0), (1, aD (.slice (.pair tI (.pair tI (.pair tI tI)))) a1), (13, aB v)], [])
def ref_CountCheck (a0 : Int) (a1 : (List (Int × (Int × (Int × Int))))) : Option Int :=
(ref_CountCheck_g1 a0 a1).bind fun v16 =>
bif v16 then
(some (1 : Int))
else
((ref_OrdersCheck a0 a1).bind fun r19 =>
some r19)
theorem ref_CountCheck_ok {a0 : Int} {a1 : (List (Int × (Int × (Int × Int))))} {r : Int} (h : ref_CountCheck a0 a1 = some r) : FnC Try.prog 23 [aI a0, aD (.slice (.pair tI (.pair tI (.pair tI tI)))) a1] [] (aI r) [] := by
  refine fnC_of_W (B := bodyOf Try.f23) (n := 17) Try.func23 (by kernel_rfl) (by kernel_rfl) (by kernel_rfl) (by kernel_rfl) (by kernel_rfl) ?_
  intro K
  refine W_seq (by kernel_rfl) ?_
  refine W_run 1 [] [0, 1] [] (fr' := [(0, aI a0), (1, aD (.slice (.pair tI (.pair tI (.pair tI tI)))) a1)]) (L' := []) (obs := []) (by kernel_rfl) (by kernel_rfl) (by kernel_rfl) allP0 ?_
  refine seqQ_norm ?_
  refine W_seq (by kernel_rfl) ?_
  refine W_seq (by kernel_rfl) ?_
  obtain ⟨v16, h17, h⟩ := bind_of h
  refine W_cutK (Q' := (exQ .normal (ref_CountCheck_s2 a0 a1)) v16) ?_ ?_
  · replace h := h17
    refine W_region (by kernel_rfl) ?_
    refine WO_run (j := 1) (k := 1) (orcs := []) (kF := [0, 1, 5]) (kL := []) (fr' := [(0, aI a0), (1, aD (.slice (.pair tI (.pair tI (.pair tI tI)))) a1), (5, aI a0)]) (L' := []) (obs := []) rfl (by kernel_rfl) allP0 ?_
    obtain ⟨r11, h12, h⟩ := bind_of h
    refine WO_call0 (us := [none, none, none]) (d := 6) (p := True) (j := 2) rfl ⟨by kernel_rfl, by kernel_rfl, by kernel_rfl⟩ trivial (ref_Within_ok h12) (by kernel_rfl) ?_
    refine WO_run (j := 4) (k := 2) (orcs := []) (kF := [0, 1, 8]) (kL := []) (fr' := [(0, aI a0), (1, aD (.slice (.pair tI (.pair tI (.pair tI tI)))) a1), (8, aB (!r11))]) (L' := []) (obs := []) rfl (by kernel_rfl) allP0 ?_
    rcases Bool.eq_false_or_eq_true (!r11) with h13 | h13
    · replace h := ofT h13 h
      refine WO_run (j := 9) (k := 5) (orcs := [(8, .known true), (10, .known true), (12, .known true), (14, .known true), (17, .val (.dat .bool true))]) (kF := [0, 1, 13]) (kL := []) (fr' := [(0, aI a0), (1, aD (.slice (.pair tI (.pair tI (.pair tI tI)))) a1), (13, aB true)]) (L' := []) (obs := [((!r11) = true), ((!r11) = true), ((!r11) = true), ((!r11) = true), ((!r11) = true)]) rfl (by kernel_rfl) (allP2 h13 (allP2 h13 (allP2 h13 (allP2 h13 (allP1 h13))))) ?_
      obtain rfl := Option.some.inj h
      refine WO_fin [0, 1, 13] [] (fr' := [(0, aI a0), (1, aD (.slice (.pair tI (.pair tI (.pair tI tI)))) a1), (13, aB true)]) (L' := []) (by kernel_rfl) (by kernel_rfl) ?_
      exact exQ_mk (by kernel_rfl) (by kernel_rfl)
    · replace h := ofF h13 h
      refine WO_run (j := 6) (k := 2) (orcs := [(8, .known false), (10, .known false)]) (kF := [0, 1, 8, 10]) (kL := []) (fr' := [(0, aI a0), (1, aD (.slice (.pair tI (.pair tI (.pair tI tI)))) a1), (8, aB (!r11)), (10, aI (List.length a1 : Int))]) (L' := []) (obs := [((!r11) = false), ((!r11) = false)]) rfl (by kernel_rfl) (allP2 h13 (allP1 h13)) ?_
      obtain ⟨r14, h15, h⟩ := bind_of h
      refine WO_call0 (us := [none, none, none]) (d := 11) (p := ((!r11) = false)) (j := 7) rfl ⟨by kernel_rfl, by kernel_rfl, by kernel_rfl⟩ h13 (ref_Within_ok h15) (by kernel_rfl) ?_
      refine WO_run (j := 9) (k := 2) (orcs := [(14, .known false), (17, .val (.dat .bool false))]) (kF := [0, 1, 13]) (kL := []) (fr' := [(0, aI a0), (1, aD (.slice (.pair tI (.pair tI (.pair tI tI)))) a1), (13, aB (!r14))]) (L' := []) (obs := [((!r11) = false), ((!r11) = false)]) rfl (by kernel_rfl) (allP2 h13 (allP1 h13)) ?_
      obtain rfl := Option.some.inj h
      refine WO_fin [0, 1, 13] [] (fr' := [(0, aI a0), (1, aD (.slice (.pair tI (.pair tI (.pair tI tI)))) a1), (13, aB (!r14))]) (L' := []) (by kernel_rfl) (by kernel_rfl) ?_
      exact exQ_mk (by kernel_rfl) (by kernel_rfl)
  · intro e fr L hJ
    obtain ⟨rfl, rfl, rfl⟩ := hJ
    refine LT_keep [0, 1, 13] [] (fr' := [(0, aI a0), (1, aD (.slice (.pair tI (.pair tI (.pair tI tI)))) a1), (13, aB v16)]) (L' := []) (by kernel_rfl) ?_
    refine seqQ_norm ?_
    refine W_cond (o := .tmp 13) (b := v16) (by kernel_rfl) (by kernel_rfl) (fun h18 => ?_) (fun h18 => ?_)
    · replace h := ofT h18 h
      refine W_seq (by kernel_rfl) ?_
      refine W_run 1 [] [4] [] (fr' := [(4, aI (1 : Int))]) (L' := []) (obs := []) (by kernel_rfl) (by kernel_rfl) (by kernel_rfl) allP0 ?_
      refine seqQ_norm ?_
      obtain rfl := Option.some.inj h
      refine W_ret [4] [] (fr' := [(4, aI (1 : Int))]) (L' := []) (by kernel_rfl) (by kernel_rfl) ?_
      refine seqQ_ret ?_
      exact retQ_mk (by kernel_rfl) (by kernel_rfl) (by kernel_rfl)
    · replace h := ofF h18 h
      refine W_skip [0, 1] [] (fr' := [(0, aI a0), (1, aD (.slice (.pair tI (.pair tI (.pair tI tI)))) a1)]) (L' := []) (by kernel_rfl) (by kernel_rfl) ?_
      refine seqQ_norm ?_
      refine W_seq (by kernel_rfl) ?_
      refine W_region (by kernel_rfl) ?_
      refine WO_run (j := 2) (k := 2) (orcs := []) (kF := [14, 15]) (kL := []) (fr' := [(14, aI a0), (15, aD (.slice (.pair tI (.pair tI (.pair tI tI)))) a1)]) (L' := []) (obs := []) rfl (by kernel_rfl) allP0 ?_
      obtain ⟨r19, h20, h⟩ := bind_of h
      refine WO_call0 (us := [none, none]) (d := 16) (p := True) (j := 3) rfl ⟨by kernel_rfl, by kernel_rfl, by kernel_rfl⟩ trivial (ref_OrdersCheck_ok h20) (by kernel_rfl) ?_
      refine WO_run (j := 4) (k := 1) (orcs := []) (kF := [4]) (kL := []) (fr' := [(4, aI r19)]) (L' := []) (obs := []) rfl (by kernel_rfl) allP0 ?_
      refine WO_fin [4] [] (fr' := [(4, aI r19)]) (L' := []) (by kernel_rfl) (by kernel_rfl) ?_
      refine seqQ_norm ?_
      obtain rfl := Option.some.inj h
      refine W_ret [4] [] (fr' := [(4, aI r19)]) (L' := []) (by kernel_rfl) (by kernel_rfl) ?_
      exact retQ_mk (by kernel_rfl) (by kernel_rfl) (by kernel_rfl)

def ref_HaveCheck_b1 (i16 : Int) (v19 : Int) (x17 : Unit) : Option (Flow Unit (Esc Int Unit)) :=
(ref_Within (0 : Int) v19 (20 : Int)).bind fun r22 =>
bif !r22 then
(some (.done (.ret (4 : Int))))
else
(some (.next ()))
@[reducible] def ref_HaveCheck_s2 (a1 : (List Int)) (a2 : Int) (v : Int × Unit) : Fr × LL := ([(2, aI a2), (13, aD (.slice tI) a1), (14, aI (List.length a1 : Int)), (15, aI v.1)], [])
@[reducible] def ref_HaveCheck_s3 (v : Int) : Fr × LL := ([(6, aI v)], [])
@[reducible] def ref_HaveCheck_s4 (a2 : Int) (v : Unit) : Fr × LL := ([(2, aI a2)], [])
def ref_HaveCheck (a0 : Int) (a1 : (List Int)) (a2 : Int) : Option Int :=
bif (List.length a1 : Int) != a0 then
(some (3 : Int))
else
((forL ref_HaveCheck_b1 (fun x17 => (.brk ())) a1 0 ()).bind fun v26 =>
match v26 with
| .ret v31 =>
(some v31)
| .brk v32 =>
((ref_Within (0 : Int) a2 (400 : Int)).bind fun r33 =>
bif !r33 then
(some (7 : Int))
else
(some (0 : Int))))
theorem ref_HaveCheck_ok {a0 : Int} {a1 : (List Int)} {a2 : Int} {r : Int} (h : ref_HaveCheck a0 a1 a2 = some r) : FnC Try.prog 45 [aI a0, aD (.slice tI) a1, aI a2] [] (aI r) [] := by
  refine fnC_of_W (B := bodyOf Try.f45) (n := 26) Try.func45 (by kernel_rfl) (by kernel_rfl) (by kernel_rfl) (by kernel_rfl) (by kernel_rfl) ?_
  intro K
  refine W_seq (by kernel_rfl) ?_
  refine W_run 1 [] [0, 1, 2] [] (fr' := [(0, aI a0), (1, aD (.slice tI) a1), (2, aI a2)]) (L' := []) (obs := []) (by kernel_rfl) (by kernel_rfl) (by kernel_rfl) allP0 ?_
  refine seqQ_norm ?_
  refine W_seq (by kernel_rfl) ?_
  refine W_seq (by kernel_rfl) ?_
  refine W_run 4 [] [1, 2, 12] [] (fr' := [(1, aD (.slice tI) a1), (2, aI a2), (12, aB ((List.length a1 : Int) != a0))]) (L' := []) (obs := []) (by kernel_rfl) (by kernel_rfl) (by kernel_rfl) allP0 ?_
  refine seqQ_norm ?_
  refine W_cond (o := .tmp 12) (b := (List.length a1 : Int) != a0) (by kernel_rfl) (by kernel_rfl) (fun h1 => ?_) (fun h1 => ?_)
  · replace h := ofT h1 h
    refine W_seq (by kernel_rfl) ?_
    refine W_run 1 [] [6] [] (fr' := [(6, aI (3 : Int))]) (L' := []) (obs := []) (by kernel_rfl) (by kernel_rfl) (by kernel_rfl) allP0 ?_
    refine seqQ_norm ?_
    obtain rfl := Option.some.inj h
    refine W_ret [6] [] (fr' := [(6, aI (3 : Int))]) (L' := []) (by kernel_rfl) (by kernel_rfl) ?_
    refine seqQ_ret ?_
    exact retQ_mk (by kernel_rfl) (by kernel_rfl) (by kernel_rfl)
  · replace h := ofF h1 h
    refine W_skip [1, 2] [] (fr' := [(1, aD (.slice tI) a1), (2, aI a2)]) (L' := []) (by kernel_rfl) (by kernel_rfl) ?_
    refine seqQ_norm ?_
    refine W_seq (by kernel_rfl) ?_
    refine W_seq (by kernel_rfl) ?_
    refine W_run 3 [] [2, 13, 14, 15] [] (fr' := [(2, aI a2), (13, aD (.slice tI) a1), (14, aI (List.length a1 : Int)), (15, aI (0 : Int))]) (L' := []) (obs := []) (by kernel_rfl) (by kernel_rfl) (by kernel_rfl) allP0 ?_
    refine seqQ_norm ?_
    refine W_block (id := 0) (by kernel_rfl) ?_
    obtain ⟨v26, h27, h⟩ := bind_of h
    refine W_len (t := 13) (u := tI) (xs := a1) (by kernel_rfl) (fun h30 => ?_)
    obtain ⟨h28, h29⟩ := forL_iter h30 h27
    refine W_weaken [2, 13, 14, 15] [] (fr' := ((ref_HaveCheck_s2 a1 a2) ((0 : Int), ())).1) (L' := ((ref_HaveCheck_s2 a1 a2) ((0 : Int), ())).2) (by kernel_rfl) ?_
    refine W_cutK (W_loop (S := (ref_HaveCheck_s2 a1 a2)) (J := (escQ (exQ .ret ref_HaveCheck_s3) (exQ (.exit 0) (ref_HaveCheck_s4 a2)))) (by kernel_rfl) ?_ h28 _ v26 h29) ?_
    · rintro ⟨i16, x17⟩ s h
      refine W_seq (by kernel_rfl) ?_
      refine W_run 1 [] [2, 13, 14, 15, 16] [] (fr' := [(2, aI a2), (13, aD (.slice tI) a1), (14, aI (List.length a1 : Int)), (15, aI i16), (16, aB (decide (i16 < (List.length a1 : Int))))]) (L' := []) (obs := []) (by kernel_rfl) (by kernel_rfl) (by kernel_rfl) allP0 ?_
      refine seqQ_norm ?_
      refine W_seq (by kernel_rfl) ?_
      refine W_cond (o := .tmp 16) (b := decide (i16 < (List.length a1 : Int))) (by kernel_rfl) (by kernel_rfl) (fun h21 => ?_) (fun h21 => ?_)
      · replace h := stepL_true h21 h
        obtain ⟨v19, _, h20, h, rfl⟩ := h
        refine W_skip [2, 13, 14, 15] [] (fr' := [(2, aI a2), (13, aD (.slice tI) a1), (14, aI (List.length a1 : Int)), (15, aI i16)]) (L' := []) (by kernel_rfl) (by kernel_rfl) ?_
        refine seqQ_norm ?_
        refine W_seq (by kernel_rfl) ?_
        refine W_block (id := 1) (by kernel_rfl) ?_
        refine W_seq (by kernel_rfl) ?_
        refine W_run 3 [(1, .val (.dat tI v19))] [2, 8, 13, 14, 15] [] (fr' := [(2, aI a2), (8, aI v19), (13, aD (.slice tI) a1), (14, aI (List.length a1 : Int)), (15, aI i16)]) (L' := []) (obs := [Idx a1 i16 v19]) (by kernel_rfl) (by kernel_rfl) (by kernel_rfl) (allP1 (Idx.of h20)) ?_
        refine seqQ_norm ?_
        refine W_seq (by kernel_rfl) ?_
        refine W_region (by kernel_rfl) ?_
        refine WO_run (j := 1) (k := 1) (orcs := []) (kF := [2, 13, 14, 15, 19]) (kL := []) (fr' := [(2, aI a2), (13, aD (.slice tI) a1), (14, aI (List.length a1 : Int)), (15, aI i16), (19, aI v19)]) (L' := []) (obs := []) rfl (by kernel_rfl) allP0 ?_
        obtain ⟨r22, h23, h⟩ := bind_of h
        refine WO_call0 (us := [none, none, none]) (d := 20) (p := True) (j := 2) rfl ⟨by kernel_rfl, by kernel_rfl, by kernel_rfl⟩ trivial (ref_Within_ok h23) (by kernel_rfl) ?_
        refine WO_run (j := 3) (k := 1) (orcs := []) (kF := [2, 13, 14, 15, 21]) (kL := []) (fr' := [(2, aI a2), (13, aD (.slice tI) a1), (14, aI (List.length a1 : Int)), (15, aI i16), (21, aB (!r22))]) (L' := []) (obs := []) rfl (by kernel_rfl) allP0 ?_
        refine WO_fin [2, 13, 14, 15, 21] [] (fr' := [(2, aI a2), (13, aD (.slice tI) a1), (14, aI (List.length a1 : Int)), (15, aI i16), (21, aB (!r22))]) (L' := []) (by kernel_rfl) (by kernel_rfl) ?_
        refine seqQ_norm ?_
        refine W_cond (o := .tmp 21) (b := !r22) (by kernel_rfl) (by kernel_rfl) (fun h24 => ?_) (fun h24 => ?_)
        · replace h := ofT h24 h
          refine W_seq (by kernel_rfl) ?_
          refine W_run 1 [] [6] [] (fr' := [(6, aI (4 : Int))]) (L' := []) (obs := []) (by kernel_rfl) (by kernel_rfl) (by kernel_rfl) allP0 ?_
          refine seqQ_norm ?_
          obtain rfl := Option.some.inj h
          refine W_ret [6] [] (fr' := [(6, aI (4 : Int))]) (L' := []) (by kernel_rfl) (by kernel_rfl) ?_
          refine blockQ_ret ?_
          refine seqQ_ret ?_
          refine round_ret ?_
          refine escQ_ret ?_
          exact exQ_mk (by kernel_rfl) (by kernel_rfl)
        · replace h := ofF h24 h
          refine W_skip [2, 13, 14, 15] [] (fr' := [(2, aI a2), (13, aD (.slice tI) a1), (14, aI (List.length a1 : Int)), (15, aI i16)]) (L' := []) (by kernel_rfl) (by kernel_rfl) ?_
          refine blockQ_norm ?_
          refine seqQ_norm ?_
          obtain rfl := Option.some.inj h
          refine W_run 2 [] [2, 13, 14, 15] [] (fr' := [(2, aI a2), (13, aD (.slice tI) a1), (14, aI (List.length a1 : Int)), (15, aI (w64 (i16 + (1 : Int))))]) (L' := []) (obs := []) (by kernel_rfl) (by kernel_rfl) (by kernel_rfl) allP0 ?_
          exact round_next' (by kernel_rfl) (by kernel_rfl)
      · obtain rfl := stepL_false h21 h
        refine W_exit (id := 0) [2] [] (fr' := [(2, aI a2)]) (L' := []) (by kernel_rfl) (by kernel_rfl) ?_
        refine seqQ_exit ?_
        refine round_exit ?_
        refine escQ_brk ?_
        exact exQ_mk (by kernel_rfl) (by kernel_rfl)
    · intro e fr L hJ
      rcases v26 with v31 | v32
      · obtain ⟨rfl, rfl, rfl⟩ := hJ
        obtain rfl := Option.some.inj h
        refine LT_keep [6] [] (fr' := [(6, aI v31)]) (L' := []) (by kernel_rfl) ?_
        refine blockQ_ret ?_
        refine seqQ_ret ?_
        exact retQ_mk (by kernel_rfl) (by kernel_rfl) (by kernel_rfl)
      · obtain ⟨rfl, rfl, rfl⟩ := hJ
        refine LT_keep [2] [] (fr' := [(2, aI a2)]) (L' := []) (by kernel_rfl) ?_
        refine blockQ_hit ?_
        refine seqQ_norm ?_
        refine W_seq (by kernel_rfl) ?_
        refine W_seq (by kernel_rfl) ?_
        refine W_region (by kernel_rfl) ?_
        refine WO_run (j := 1) (k := 1) (orcs := []) (kF := [23]) (kL := []) (fr' := [(23, aI a2)]) (L' := []) (obs := []) rfl (by kernel_rfl) allP0 ?_
        obtain ⟨r33, h34, h⟩ := bind_of h
        refine WO_call0 (us := [none, none, none]) (d := 24) (p := True) (j := 2) rfl ⟨by kernel_rfl, by kernel_rfl, by kernel_rfl⟩ trivial (ref_Within_ok h34) (by kernel_rfl) ?_
        refine WO_run (j := 3) (k := 1) (orcs := []) (kF := [25]) (kL := []) (fr' := [(25, aB (!r33))]) (L' := []) (obs := []) rfl (by kernel_rfl) allP0 ?_
        refine WO_fin [25] [] (fr' := [(25, aB (!r33))]) (L' := []) (by kernel_rfl) (by kernel_rfl) ?_
        refine seqQ_norm ?_
        refine W_cond (o := .tmp 25) (b := !r33) (by kernel_rfl) (by kernel_rfl) (fun h35 => ?_) (fun h35 => ?_)
        · replace h := ofT h35 h
          refine W_seq (by kernel_rfl) ?_
          refine W_run 1 [] [6] [] (fr' := [(6, aI (7 : Int))]) (L' := []) (obs := []) (by kernel_rfl) (by kernel_rfl) (by kernel_rfl) allP0 ?_
          refine seqQ_norm ?_
          obtain rfl := Option.some.inj h
          refine W_ret [6] [] (fr' := [(6, aI (7 : Int))]) (L' := []) (by kernel_rfl) (by kernel_rfl) ?_
          refine seqQ_ret ?_
          exact retQ_mk (by kernel_rfl) (by kernel_rfl) (by kernel_rfl)
        · replace h := ofF h35 h
          refine W_skip [] [] (fr' := []) (L' := []) (by kernel_rfl) (by kernel_rfl) ?_
          refine seqQ_norm ?_
          refine W_seq (by kernel_rfl) ?_
          refine W_run 1 [] [6] [] (fr' := [(6, aI (0 : Int))]) (L' := []) (obs := []) (by kernel_rfl) (by kernel_rfl) (by kernel_rfl) allP0 ?_
          refine seqQ_norm ?_
          obtain rfl := Option.some.inj h
          refine W_ret [6] [] (fr' := [(6, aI (0 : Int))]) (L' := []) (by kernel_rfl) (by kernel_rfl) ?_
          exact retQ_mk (by kernel_rfl) (by kernel_rfl) (by kernel_rfl)

@[reducible] def law_countCode_s1 (v : Int) : Fr × LL := ([(9, aI v)], [])
def law_countCode (a0 : Int) (a1 : (List (Int × (Int × (Int × Int))))) (a2 : (List Int)) (a3 : Int) : Option Int :=
(ref_CountCheck a0 a1).bind fun r1 =>
(bif r1 == (0 : Int) then
((ref_HaveCheck a0 a2 a3).bind fun r10 =>
some r10)
else
(some r1)).bind fun v12 =>
some v12
theorem law_countCode_ok {a0 : Int} {a1 : (List (Int × (Int × (Int × Int))))} {a2 : (List Int)} {a3 : Int} {r : Int} (h : law_countCode a0 a1 a2 a3 = some r) : FnC Try.prog 25 [aI a0, aD (.slice (.pair tI (.pair tI (.pair tI tI)))) a1, aD (.slice tI) a2, aI a3] [] (aI r) [] := by
  refine fnC_of_W (B := bodyOf Try.f25) (n := 20) Try.func25 (by kernel_rfl) (by kernel_rfl) (by kernel_rfl) (by kernel_rfl) (by kernel_rfl) ?_
  intro K
  refine W_seq (by kernel_rfl) ?_
  refine W_run 1 [] [0, 1, 2, 3] [] (fr' := [(0, aI a0), (1, aD (.slice (.pair tI (.pair tI (.pair tI tI)))) a1), (2, aD (.slice tI) a2), (3, aI a3)]) (L' := []) (obs := []) (by kernel_rfl) (by kernel_rfl) (by kernel_rfl) allP0 ?_
  refine seqQ_norm ?_
  refine W_seq (by kernel_rfl) ?_
  refine W_region (by kernel_rfl) ?_
  refine WO_run (j := 2) (k := 2) (orcs := []) (kF := [0, 2, 3, 10, 11]) (kL := []) (fr' := [(0, aI a0), (2, aD (.slice tI) a2), (3, aI a3), (10, aI a0), (11, aD (.slice (.pair tI (.pair tI (.pair tI tI)))) a1)]) (L' := []) (obs := []) rfl (by kernel_rfl) allP0 ?_
  obtain ⟨r1, h2, h⟩ := bind_of h
  refine WO_call0 (us := [none, none]) (d := 12) (p := True) (j := 3) rfl ⟨by kernel_rfl, by kernel_rfl, by kernel_rfl⟩ trivial (ref_CountCheck_ok h2) (by kernel_rfl) ?_
  refine WO_run (j := 4) (k := 1) (orcs := []) (kF := [0, 2, 3, 9]) (kL := []) (fr' := [(0, aI a0), (2, aD (.slice tI) a2), (3, aI a3), (9, aI r1)]) (L' := []) (obs := []) rfl (by kernel_rfl) allP0 ?_
  refine WO_fin [0, 2, 3, 9] [] (fr' := [(0, aI a0), (2, aD (.slice tI) a2), (3, aI a3), (9, aI r1)]) (L' := []) (by kernel_rfl) (by kernel_rfl) ?_
  refine seqQ_norm ?_
  refine W_seq (by kernel_rfl) ?_
  obtain ⟨v12, h13, h⟩ := bind_of h
  refine W_cutK (Q' := (exQ .normal law_countCode_s1) v12) ?_ ?_
  · replace h := h13
    refine W_seq (by kernel_rfl) ?_
    refine W_run 2 [] [0, 2, 3, 9, 14] [] (fr' := [(0, aI a0), (2, aD (.slice tI) a2), (3, aI a3), (9, aI r1), (14, aB (r1 == (0 : Int)))]) (L' := []) (obs := []) (by kernel_rfl) (by kernel_rfl) (by kernel_rfl) allP0 ?_
    refine seqQ_norm ?_
    refine W_cond (o := .tmp 14) (b := r1 == (0 : Int)) (by kernel_rfl) (by kernel_rfl) (fun h9 => ?_) (fun h9 => ?_)
    · replace h := ofT h9 h
      refine W_region (by kernel_rfl) ?_
      refine WO_run (j := 3) (k := 3) (orcs := []) (kF := [9, 15, 16, 17]) (kL := []) (fr' := [(9, aI r1), (15, aI a0), (16, aD (.slice tI) a2), (17, aI a3)]) (L' := []) (obs := []) rfl (by kernel_rfl) allP0 ?_
      obtain ⟨r10, h11, h⟩ := bind_of h
      refine WO_call0 (us := [none, none, none]) (d := 18) (p := True) (j := 4) rfl ⟨by kernel_rfl, by kernel_rfl, by kernel_rfl⟩ trivial (ref_HaveCheck_ok h11) (by kernel_rfl) ?_
      refine WO_run (j := 5) (k := 1) (orcs := []) (kF := [9]) (kL := []) (fr' := [(9, aI r10)]) (L' := []) (obs := []) rfl (by kernel_rfl) allP0 ?_
      obtain rfl := Option.some.inj h
      refine WO_fin [9] [] (fr' := [(9, aI r10)]) (L' := []) (by kernel_rfl) (by kernel_rfl) ?_
      exact exQ_mk (by kernel_rfl) (by kernel_rfl)
    · replace h := ofF h9 h
      obtain rfl := Option.some.inj h
      refine W_skip [9] [] (fr' := [(9, aI r1)]) (L' := []) (by kernel_rfl) (by kernel_rfl) ?_
      exact exQ_mk (by kernel_rfl) (by kernel_rfl)
  · intro e fr L hJ
    obtain ⟨rfl, rfl, rfl⟩ := hJ
    refine LT_keep [9] [] (fr' := [(9, aI v12)]) (L' := []) (by kernel_rfl) ?_
    refine seqQ_norm ?_
    refine W_seq (by kernel_rfl) ?_
    refine W_run 2 [] [8] [] (fr' := [(8, aI v12)]) (L' := []) (obs := []) (by kernel_rfl) (by kernel_rfl) (by kernel_rfl) allP0 ?_
    refine seqQ_norm ?_
    obtain rfl := Option.some.inj h
    refine W_ret [8] [] (fr' := [(8, aI v12)]) (L' := []) (by kernel_rfl) (by kernel_rfl) ?_
    exact retQ_mk (by kernel_rfl) (by kernel_rfl) (by kernel_rfl)

def ref_Counted_b1 (a0 : (List (Int × (Int × (Int × Int))))) (a3 : Int) (x12 : (Int × Int × (List Int))) : Option (Flow (Int × Int × (List Int)) (Int × Int × (List Int))) :=
bif (decide (x12.2.1 < a3)) && (decide (x12.1 < (List.length a0 : Int))) then
((idx a0 x12.1).bind fun v23 =>
bif v23.1 == (1 : Int) then
((idx x12.2.2 v23.2.1).bind fun v26 =>
some (.next (v23.2.2.1, w64 (x12.2.1 + (1 : Int)), List.set x12.2.2 (Int.toNat v23.2.1) (w64 (v26 + (1 : Int))))))
else
((idx x12.2.2 v23.2.1).bind fun v28 =>
bif decide (v28 > (0 : Int)) then
(some (.next (v23.2.2.1, w64 (x12.2.1 + (1 : Int)), List.set x12.2.2 (Int.toNat v23.2.1) (w64 (v28 - (1 : Int))))))
else
(some (.next (v23.2.2.2, w64 (x12.2.1 + (1 : Int)), x12.2.2)))))
else
(some (.done (x12.1, x12.2.1, x12.2.2)))
@[reducible] def ref_Counted_s2 (a0 : (List (Int × (Int × (Int × Int))))) (a3 : Int) (v : (Int × Int × (List Int))) : Fr × LL := ([(0, aD (.slice (.pair tI (.pair tI (.pair tI tI)))) a0), (2, aI v.1), (3, aI a3), (11, .one (.slc 14)), (12, aI v.2.1)], [(14, .seq tI v.2.2)])
@[reducible] def ref_Counted_s3 (v : (Int × Int × (List Int))) : Fr × LL := ([(2, aI v.1), (11, .one (.slc 14)), (12, aI v.2.1)], [(14, .seq tI v.2.2)])
def ref_Counted (fuel : Nat) (a0 : (List (Int × (Int × (Int × Int))))) (a1 : (List Int)) (a2 : Int) (a3 : Int) : Option ((List Int) × Int × Int) :=
(ck ((0 : Int) + (List.length a1 : Int) ≤ 4294967296)).bind fun _ =>
(iter (ref_Counted_b1 a0 a3) fuel (a2, (0 : Int), [] ++ a1)).bind fun v31 =>
some (v31.2.2, v31.1, v31.2.1)
theorem ref_Counted_ok {fuel : Nat} {a0 : (List (Int × (Int × (Int × Int))))} {a1 : (List Int)} {a2 : Int} {a3 : Int} {r : ((List Int) × Int × Int)} (h : ref_Counted fuel a0 a1 a2 a3 = some r) : FnC Try.prog 26 [aD (.slice (.pair tI (.pair tI (.pair tI tI)))) a0, aD (.slice tI) a1, aI a2, aI a3] [] (.tup [.dat (.slice tI) r.1, .dat tI r.2.1, .dat tI r.2.2]) [] := by
  refine fnC_of_W (B := bodyOf Try.f26) (n := 70) Try.func26 (by kernel_rfl) (by kernel_rfl) (by kernel_rfl) (by kernel_rfl) (by kernel_rfl) ?_
  intro K
  refine W_seq (by kernel_rfl) ?_
  refine W_run 3 [] [0, 1, 2, 3] [] (fr' := [(0, aD (.slice (.pair tI (.pair tI (.pair tI tI)))) a0), (1, aD (.slice tI) a1), (2, aI a2), (3, aI a3)]) (L' := []) (obs := []) (by kernel_rfl) (by kernel_rfl) (by kernel_rfl) allP0 ?_
  refine seqQ_norm ?_
  refine W_seq (by kernel_rfl) ?_
  obtain ⟨_, h1, h⟩ := bind_of h
  replace h1 := ck_some h1
  refine W_run 4 [] [0, 2, 3, 11] [14] (fr' := [(0, aD (.slice (.pair tI (.pair tI (.pair tI tI)))) a0), (2, aI a2), (3, aI a3), (11, .one (.slc 14))]) (L' := [(14, .seq tI ([] ++ a1))]) (obs := [SmallLen (List.length ([] : (List Int)) + List.length a1)]) (by kernel_rfl) (by kernel_rfl) (by kernel_rfl) (allP1 h1) ?_
  refine seqQ_norm ?_
  refine W_seq (by kernel_rfl) ?_
  refine W_run 1 [] [0, 2, 3, 11, 12] [14] (fr' := [(0, aD (.slice (.pair tI (.pair tI (.pair tI tI)))) a0), (2, aI a2), (3, aI a3), (11, .one (.slc 14)), (12, aI (0 : Int))]) (L' := [(14, .seq tI ([] ++ a1))]) (obs := []) (by kernel_rfl) (by kernel_rfl) (by kernel_rfl) allP0 ?_
  refine seqQ_norm ?_
  refine W_seq (by kernel_rfl) ?_
  refine W_block (id := 0) (by kernel_rfl) ?_
  obtain ⟨v31, h32, h⟩ := bind_of h
  refine W_weaken [0, 2, 3, 11, 12] [14] (fr' := ((ref_Counted_s2 a0 a3) (a2, (0 : Int), [] ++ a1)).1) (L' := ((ref_Counted_s2 a0 a3) (a2, (0 : Int), [] ++ a1)).2) (by kernel_rfl) ?_
  refine W_cutK (W_loop (S := (ref_Counted_s2 a0 a3)) (J := (exQ (.exit 0) ref_Counted_s3)) (by kernel_rfl) ?_ fuel _ v31 h32) ?_
  · rintro x12 s h
    refine W_seq (by kernel_rfl) ?_
    refine W_seq (by kernel_rfl) ?_
    refine W_run 9 [] [0, 2, 3, 11, 12, 25] [14] (fr' := [(0, aD (.slice (.pair tI (.pair tI (.pair tI tI)))) a0), (2, aI x12.1), (3, aI a3), (11, .one (.slc 14)), (12, aI x12.2.1), (25, aB ((decide (x12.2.1 < a3)) && (decide (x12.1 < (List.length a0 : Int)))))]) (L' := [(14, .seq tI x12.2.2)]) (obs := []) (by kernel_rfl) (by kernel_rfl) (by kernel_rfl) allP0 ?_
    refine seqQ_norm ?_
    refine W_cond (o := .tmp 25) (b := (decide (x12.2.1 < a3)) && (decide (x12.1 < (List.length a0 : Int)))) (by kernel_rfl) (by kernel_rfl) (fun h22 => ?_) (fun h22 => ?_)
    · replace h := ofT h22 h
      refine W_skip [0, 2, 3, 11, 12] [14] (fr' := [(0, aD (.slice (.pair tI (.pair tI (.pair tI tI)))) a0), (2, aI x12.1), (3, aI a3), (11, .one (.slc 14)), (12, aI x12.2.1)]) (L' := [(14, .seq tI x12.2.2)]) (by kernel_rfl) (by kernel_rfl) ?_
      refine seqQ_norm ?_
      refine W_block (id := 1) (by kernel_rfl) ?_
      refine W_seq (by kernel_rfl) ?_
      obtain ⟨v23, h24, h⟩ := bind_of h
      refine W_run 6 [(5, .val (.dat (.pair tI (.pair tI (.pair tI tI))) v23)), (9, .typed)] [0, 3, 11, 12, 13] [14, 13] (fr' := [(0, aD (.slice (.pair tI (.pair tI (.pair tI tI)))) a0), (3, aI a3), (11, .one (.slc 14)), (12, aI x12.2.1), (13, .one (.ptr 13 0))]) (L' := [(14, .seq tI x12.2.2), (13, .one (.pair tI (.pair tI (.pair tI tI))) v23)]) (obs := [Idx a0 x12.1 v23, True]) (by kernel_rfl) (by kernel_rfl) (by kernel_rfl) (allP2 (Idx.of h24) (allP1 trivial)) ?_
      refine seqQ_norm ?_
      refine W_seq (by kernel_rfl) ?_
      refine W_run 3 [] [0, 3, 11, 12, 13] [14, 13] (fr' := [(0, aD (.slice (.pair tI (.pair tI (.pair tI tI)))) a0), (3, aI a3), (11, .one (.slc 14)), (12, aI (w64 (x12.2.1 + (1 : Int)))), (13, .one (.ptr 13 0))]) (L' := [(14, .seq tI x12.2.2), (13, .one (.pair tI (.pair tI (.pair tI tI))) v23)]) (obs := []) (by kernel_rfl) (by kernel_rfl) (by kernel_rfl) allP0 ?_
      refine seqQ_norm ?_
      refine W_seq (by kernel_rfl) ?_
      refine W_run 3 [] [0, 3, 11, 12, 13, 34] [14, 13] (fr' := [(0, aD (.slice (.pair tI (.pair tI (.pair tI tI)))) a0), (3, aI a3), (11, .one (.slc 14)), (12, aI (w64 (x12.2.1 + (1 : Int)))), (13, .one (.ptr 13 0)), (34, aB (v23.1 == (1 : Int)))]) (L' := [(14, .seq tI x12.2.2), (13, .one (.pair tI (.pair tI (.pair tI tI))) v23)]) (obs := []) (by kernel_rfl) (by kernel_rfl) (by kernel_rfl) allP0 ?_
      refine seqQ_norm ?_
      refine W_cond (o := .tmp 34) (b := v23.1 == (1 : Int)) (by kernel_rfl) (by kernel_rfl) (fun h25 => ?_) (fun h25 => ?_)
      · replace h := ofT h25 h
        refine W_seq (by kernel_rfl) ?_
        obtain ⟨v26, h27, h⟩ := bind_of h
        refine W_draw2 9 [(15, .val (.dat tI v26))] [] [0, 3, 11, 12, 13] [14, 13] (fr' := [(0, aD (.slice (.pair tI (.pair tI (.pair tI tI)))) a0), (3, aI a3), (11, .one (.slc 14)), (12, aI (w64 (x12.2.1 + (1 : Int)))), (13, .one (.ptr 13 0))]) (L' := [(14, .seq tI (List.set x12.2.2 (Int.toNat v23.2.1) (w64 (v26 + (1 : Int))))), (13, .one (.pair tI (.pair tI (.pair tI tI))) v23)]) (out := [(35, .one (.slc 14)), (36, .one (.ptr 13 1)), (37, aI v23.2.1), (38, .one (.slc 14)), (39, .one (.ptr 13 1)), (40, aI v23.2.1), (41, .one (.eptr 14 1 v23.2.1 0)), (42, aI v26), (43, aI (w64 (v26 + (1 : Int))))]) (obs := [InR v23.2.1 (List.length x12.2.2), Idx x12.2.2 v23.2.1 v26]) (obs2 := [InR v23.2.1 (List.length x12.2.2), InR v23.2.1 (List.length x12.2.2)]) (calls := []) (by kernel_rfl) (by kernel_rfl) (by kernel_rfl) (by kernel_rfl) (allP2 (InR.of h27) (allP1 (Idx.of h27))) allC0 (by kernel_rfl) (allP2 (InR.of h27) (allP1 (InR.of h27))) ?_
        refine seqQ_norm ?_
        obtain rfl := Option.some.inj h
        refine W_run 3 [] [0, 2, 3, 11, 12] [14] (fr' := [(0, aD (.slice (.pair tI (.pair tI (.pair tI tI)))) a0), (2, aI v23.2.2.1), (3, aI a3), (11, .one (.slc 14)), (12, aI (w64 (x12.2.1 + (1 : Int))))]) (L' := [(14, .seq tI (List.set x12.2.2 (Int.toNat v23.2.1) (w64 (v26 + (1 : Int)))))]) (obs := []) (by kernel_rfl) (by kernel_rfl) (by kernel_rfl) allP0 ?_
        refine blockQ_norm ?_
        exact round_next' (by kernel_rfl) (by kernel_rfl)
      · replace h := ofF h25 h
        refine W_seq (by kernel_rfl) ?_
        obtain ⟨v28, h29, h⟩ := bind_of h
        refine W_run 6 [(9, .val (.dat tI v28))] [0, 3, 11, 12, 13, 52] [14, 13] (fr' := [(0, aD (.slice (.pair tI (.pair tI (.pair tI tI)))) a0), (3, aI a3), (11, .one (.slc 14)), (12, aI (w64 (x12.2.1 + (1 : Int)))), (13, .one (.ptr 13 0)), (52, aB (decide (v28 > (0 : Int))))]) (L' := [(14, .seq tI x12.2.2), (13, .one (.pair tI (.pair tI (.pair tI tI))) v23)]) (obs := [InR v23.2.1 (List.length x12.2.2), Idx x12.2.2 v23.2.1 v28]) (by kernel_rfl) (by kernel_rfl) (by kernel_rfl) (allP2 (InR.of h29) (allP1 (Idx.of h29))) ?_
        refine seqQ_norm ?_
        refine W_cond (o := .tmp 52) (b := decide (v28 > (0 : Int))) (by kernel_rfl) (by kernel_rfl) (fun h30 => ?_) (fun h30 => ?_)
        · replace h := ofT h30 h
          refine W_seq (by kernel_rfl) ?_
          refine W_draw2 9 [(15, .val (.dat tI v28))] [] [0, 3, 11, 12, 13] [14, 13] (fr' := [(0, aD (.slice (.pair tI (.pair tI (.pair tI tI)))) a0), (3, aI a3), (11, .one (.slc 14)), (12, aI (w64 (x12.2.1 + (1 : Int)))), (13, .one (.ptr 13 0))]) (L' := [(14, .seq tI (List.set x12.2.2 (Int.toNat v23.2.1) (w64 (v28 - (1 : Int))))), (13, .one (.pair tI (.pair tI (.pair tI tI))) v23)]) (out := [(53, .one (.slc 14)), (54, .one (.ptr 13 1)), (55, aI v23.2.1), (56, .one (.slc 14)), (57, .one (.ptr 13 1)), (58, aI v23.2.1), (59, .one (.eptr 14 1 v23.2.1 0)), (60, aI v28), (61, aI (w64 (v28 - (1 : Int))))]) (obs := [InR v23.2.1 (List.length x12.2.2), Idx x12.2.2 v23.2.1 v28]) (obs2 := [InR v23.2.1 (List.length x12.2.2), InR v23.2.1 (List.length x12.2.2)]) (calls := []) (by kernel_rfl) (by kernel_rfl) (by kernel_rfl) (by kernel_rfl) (allP2 (InR.of h29) (allP1 (Idx.of h29))) allC0 (by kernel_rfl) (allP2 (InR.of h29) (allP1 (InR.of h29))) ?_
          refine seqQ_norm ?_
          obtain rfl := Option.some.inj h
          refine W_run 3 [] [0, 2, 3, 11, 12] [14] (fr' := [(0, aD (.slice (.pair tI (.pair tI (.pair tI tI)))) a0), (2, aI v23.2.2.1), (3, aI a3), (11, .one (.slc 14)), (12, aI (w64 (x12.2.1 + (1 : Int))))]) (L' := [(14, .seq tI (List.set x12.2.2 (Int.toNat v23.2.1) (w64 (v28 - (1 : Int)))))]) (obs := []) (by kernel_rfl) (by kernel_rfl) (by kernel_rfl) allP0 ?_
          refine blockQ_norm ?_
          exact round_next' (by kernel_rfl) (by kernel_rfl)
        · replace h := ofF h30 h
          obtain rfl := Option.some.inj h
          refine W_run 3 [] [0, 2, 3, 11, 12] [14] (fr' := [(0, aD (.slice (.pair tI (.pair tI (.pair tI tI)))) a0), (2, aI v23.2.2.2), (3, aI a3), (11, .one (.slc 14)), (12, aI (w64 (x12.2.1 + (1 : Int))))]) (L' := [(14, .seq tI x12.2.2)]) (obs := []) (by kernel_rfl) (by kernel_rfl) (by kernel_rfl) allP0 ?_
          refine blockQ_norm ?_
          exact round_next' (by kernel_rfl) (by kernel_rfl)
    · replace h := ofF h22 h
      obtain rfl := Option.some.inj h
      refine W_exit (id := 0) [2, 11, 12] [14] (fr' := [(2, aI x12.1), (11, .one (.slc 14)), (12, aI x12.2.1)]) (L' := [(14, .seq tI x12.2.2)]) (by kernel_rfl) (by kernel_rfl) ?_
      refine seqQ_exit ?_
      refine round_exit ?_
      exact exQ_mk (by kernel_rfl) (by kernel_rfl)
  · intro e fr L hJ
    obtain ⟨rfl, rfl, rfl⟩ := hJ
    refine LT_keep [2, 11, 12] [14] (fr' := [(2, aI v31.1), (11, .one (.slc 14)), (12, aI v31.2.1)]) (L' := [(14, .seq tI v31.2.2)]) (by kernel_rfl) ?_
    refine blockQ_hit ?_
    refine seqQ_norm ?_
    refine W_seq (by kernel_rfl) ?_
    refine W_run 6 [] [8, 9, 10] [14] (fr' := [(8, .one (.slc 14)), (9, aI v31.1), (10, aI v31.2.1)]) (L' := [(14, .seq tI v31.2.2)]) (obs := []) (by kernel_rfl) (by kernel_rfl) (by kernel_rfl) allP0 ?_
    refine seqQ_norm ?_
    obtain rfl := Option.some.inj h
    refine W_frz 14 (by kernel_rfl) ?_
    refine W_ret [8, 9, 10] [] (fr' := [(8, aD (.slice tI) v31.2.2), (9, aI v31.1), (10, aI v31.2.1)]) (L' := []) (by kernel_rfl) (by kernel_rfl) ?_
    exact retQ_mk (by kernel_rfl) (by kernel_rfl) (by kernel_rfl)

def ref_Ints_b1 (a1 : (List Int)) (i16 : Int) (v19 : Int) (x17 : Unit) : Option (Flow Unit (Esc Bool Unit)) :=
(idx a1 i16).bind fun v22 =>
bif v19 != v22 then
(some (.done (.ret false)))
else
(some (.next ()))
@[reducible] def ref_Ints_s2 (a0 : (List Int)) (a1 : (List Int)) (v : Int × Unit) : Fr × LL := ([(0, aD (.slice tI) a0), (1, aD (.slice tI) a1), (5, aI v.1)], [])
@[reducible] def ref_Ints_s3 (v : Bool) : Fr × LL := ([(4, aB v)], [])
@[reducible] def ref_Ints_s4 (v : Unit) : Fr × LL := ([], [])
def ref_Ints (a0 : (List Int)) (a1 : (List Int)) : Option Bool :=
bif (List.length a0 : Int) != (List.length a1 : Int) then
(some false)
else
((forL (ref_Ints_b1 a1) (fun x17 => (.brk ())) a0 0 ()).bind fun v26 =>
match v26 with
| .ret v31 =>
(some v31)
| .brk v32 =>
(some true))
theorem ref_Ints_ok {a0 : (List Int)} {a1 : (List Int)} {r : Bool} (h : ref_Ints a0 a1 = some r) : FnC Try.prog 27 [aD (.slice tI) a0, aD (.slice tI) a1] [] (aB r) [] := by
  refine fnC_of_W (B := bodyOf Try.f27) (n := 26) Try.func27 (by kernel_rfl) (by kernel_rfl) (by kernel_rfl) (by kernel_rfl) (by kernel_rfl) ?_
  intro K
  refine W_seq (by kernel_rfl) ?_
  refine W_run 1 [] [0, 1] [] (fr' := [(0, aD (.slice tI) a0), (1, aD (.slice tI) a1)]) (L' := []) (obs := []) (by kernel_rfl) (by kernel_rfl) (by kernel_rfl) allP0 ?_
  refine seqQ_norm ?_
  refine W_seq (by kernel_rfl) ?_
  refine W_seq (by kernel_rfl) ?_
  refine W_run 5 [] [0, 1, 10] [] (fr' := [(0, aD (.slice tI) a0), (1, aD (.slice tI) a1), (10, aB ((List.length a0 : Int) != (List.length a1 : Int)))]) (L' := []) (obs := []) (by kernel_rfl) (by kernel_rfl) (by kernel_rfl) allP0 ?_
  refine seqQ_norm ?_
  refine W_cond (o := .tmp 10) (b := (List.length a0 : Int) != (List.length a1 : Int)) (by kernel_rfl) (by kernel_rfl) (fun h1 => ?_) (fun h1 => ?_)
  · replace h := ofT h1 h
    refine W_seq (by kernel_rfl) ?_
    refine W_run 1 [] [4] [] (fr' := [(4, aB false)]) (L' := []) (obs := []) (by kernel_rfl) (by kernel_rfl) (by kernel_rfl) allP0 ?_
    refine seqQ_norm ?_
    obtain rfl := Option.some.inj h
    refine W_ret [4] [] (fr' := [(4, aB false)]) (L' := []) (by kernel_rfl) (by kernel_rfl) ?_
    refine seqQ_ret ?_
    exact retQ_mk (by kernel_rfl) (by kernel_rfl) (by kernel_rfl)
  · replace h := ofF h1 h
    refine W_skip [0, 1] [] (fr' := [(0, aD (.slice tI) a0), (1, aD (.slice tI) a1)]) (L' := []) (by kernel_rfl) (by kernel_rfl) ?_
    refine seqQ_norm ?_
    refine W_seq (by kernel_rfl) ?_
    refine W_seq (by kernel_rfl) ?_
    refine W_run 1 [] [0, 1, 5] [] (fr' := [(0, aD (.slice tI) a0), (1, aD (.slice tI) a1), (5, aI (0 : Int))]) (L' := []) (obs := []) (by kernel_rfl) (by kernel_rfl) (by kernel_rfl) allP0 ?_
    refine seqQ_norm ?_
    refine W_block (id := 0) (by kernel_rfl) ?_
    obtain ⟨v26, h27, h⟩ := bind_of h
    refine W_len (t := 0) (u := tI) (xs := a0) (by kernel_rfl) (fun h30 => ?_)
    obtain ⟨h28, h29⟩ := forL_iter h30 h27
    refine W_weaken [0, 1, 5] [] (fr' := ((ref_Ints_s2 a0 a1) ((0 : Int), ())).1) (L' := ((ref_Ints_s2 a0 a1) ((0 : Int), ())).2) (by kernel_rfl) ?_
    refine W_cutK (W_loop (S := (ref_Ints_s2 a0 a1)) (J := (escQ (exQ .ret ref_Ints_s3) (exQ (.exit 0) ref_Ints_s4))) (by kernel_rfl) ?_ h28 _ v26 h29) ?_
    · rintro ⟨i16, x17⟩ s h
      refine W_seq (by kernel_rfl) ?_
      refine W_seq (by kernel_rfl) ?_
      refine W_run 4 [] [0, 1, 5, 14] [] (fr' := [(0, aD (.slice tI) a0), (1, aD (.slice tI) a1), (5, aI i16), (14, aB (decide (i16 < (List.length a0 : Int))))]) (L' := []) (obs := []) (by kernel_rfl) (by kernel_rfl) (by kernel_rfl) allP0 ?_
      refine seqQ_norm ?_
      refine W_cond (o := .tmp 14) (b := decide (i16 < (List.length a0 : Int))) (by kernel_rfl) (by kernel_rfl) (fun h21 => ?_) (fun h21 => ?_)
      · replace h := stepL_true h21 h
        obtain ⟨v19, _, h20, h, rfl⟩ := h
        refine W_skip [0, 1, 5] [] (fr' := [(0, aD (.slice tI) a0), (1, aD (.slice tI) a1), (5, aI i16)]) (L' := []) (by kernel_rfl) (by kernel_rfl) ?_
        refine seqQ_norm ?_
        refine W_seq (by kernel_rfl) ?_
        refine W_block (id := 1) (by kernel_rfl) ?_
        refine W_seq (by kernel_rfl) ?_
        obtain ⟨v22, h23, h⟩ := bind_of h
        refine W_draw2 9 [(5, .val (.dat tI v19)), (13, .val (.dat tI v22))] [] [0, 1, 5, 25] [] (fr' := [(0, aD (.slice tI) a0), (1, aD (.slice tI) a1), (5, aI i16), (25, aB (v19 != v22))]) (L' := []) (out := [(17, aD (.slice tI) a0), (18, aI i16), (19, .one (.dptr tI v19)), (20, aI v19), (21, aD (.slice tI) a1), (22, aI i16), (23, .one (.dptr tI v22)), (24, aI v22), (25, aB (v19 != v22))]) (obs := [Idx a0 i16 v19, Idx a1 i16 v22]) (obs2 := []) (calls := []) (by kernel_rfl) (by kernel_rfl) (by kernel_rfl) (by kernel_rfl) (allP2 (Idx.of h20) (allP1 (Idx.of h23))) allC0 (by kernel_rfl) allP0 ?_
        refine seqQ_norm ?_
        refine W_cond (o := .tmp 25) (b := v19 != v22) (by kernel_rfl) (by kernel_rfl) (fun h24 => ?_) (fun h24 => ?_)
        · replace h := ofT h24 h
          refine W_seq (by kernel_rfl) ?_
          refine W_run 1 [] [4] [] (fr' := [(4, aB false)]) (L' := []) (obs := []) (by kernel_rfl) (by kernel_rfl) (by kernel_rfl) allP0 ?_
          refine seqQ_norm ?_
          obtain rfl := Option.some.inj h
          refine W_ret [4] [] (fr' := [(4, aB false)]) (L' := []) (by kernel_rfl) (by kernel_rfl) ?_
          refine blockQ_ret ?_
          refine seqQ_ret ?_
          refine round_ret ?_
          refine escQ_ret ?_
          exact exQ_mk (by kernel_rfl) (by kernel_rfl)
        · replace h := ofF h24 h
          refine W_skip [0, 1, 5] [] (fr' := [(0, aD (.slice tI) a0), (1, aD (.slice tI) a1), (5, aI i16)]) (L' := []) (by kernel_rfl) (by kernel_rfl) ?_
          refine blockQ_norm ?_
          refine seqQ_norm ?_
          obtain rfl := Option.some.inj h
          refine W_run 3 [] [0, 1, 5] [] (fr' := [(0, aD (.slice tI) a0), (1, aD (.slice tI) a1), (5, aI (w64 (i16 + (1 : Int))))]) (L' := []) (obs := []) (by kernel_rfl) (by kernel_rfl) (by kernel_rfl) allP0 ?_
          exact round_next' (by kernel_rfl) (by kernel_rfl)
      · obtain rfl := stepL_false h21 h
        refine W_exit (id := 0) [] [] (fr' := []) (L' := []) (by kernel_rfl) (by kernel_rfl) ?_
        refine seqQ_exit ?_
        refine round_exit ?_
        refine escQ_brk ?_
        exact exQ_mk (by kernel_rfl) (by kernel_rfl)
    · intro e fr L hJ
      rcases v26 with v31 | v32
      · obtain ⟨rfl, rfl, rfl⟩ := hJ
        obtain rfl := Option.some.inj h
        refine LT_keep [4] [] (fr' := [(4, aB v31)]) (L' := []) (by kernel_rfl) ?_
        refine blockQ_ret ?_
        refine seqQ_ret ?_
        exact retQ_mk (by kernel_rfl) (by kernel_rfl) (by kernel_rfl)
      · obtain ⟨rfl, rfl, rfl⟩ := hJ
        refine LT_keep [] [] (fr' := []) (L' := []) (by kernel_rfl) ?_
        refine blockQ_hit ?_
        refine seqQ_norm ?_
        refine W_seq (by kernel_rfl) ?_
        refine W_run 1 [] [4] [] (fr' := [(4, aB true)]) (L' := []) (obs := []) (by kernel_rfl) (by kernel_rfl) (by kernel_rfl) allP0 ?_
        refine seqQ_norm ?_
        obtain rfl := Option.some.inj h
        refine W_ret [4] [] (fr' := [(4, aB true)]) (L' := []) (by kernel_rfl) (by kernel_rfl) ?_
        exact retQ_mk (by kernel_rfl) (by kernel_rfl) (by kernel_rfl)

@[reducible] def law_CountRuns_s1 (v : Bool) : Fr × LL := ([(8, aB v)], [])
def law_CountRuns (fuel : Nat) (a0 : Int) (a1 : (List (Int × (Int × (Int × Int))))) (a2 : (List Int)) (a3 : Int) : Option Bool :=
(count_Run fuel a0 a1 a2 a3).bind fun r1 =>
(law_countCode a0 a1 a2 a3).bind fun r3 =>
bif r3 != (0 : Int) then
(some ((((r1.2.2.2 == r3) && ((List.length r1.1 : Int) == (0 : Int))) && (r1.2.1 == (0 : Int))) && (r1.2.2.1 == (0 : Int))))
else
((ref_Counted fuel a1 a2 (0 : Int) a3).bind fun r6 =>
(bif r1.2.2.2 == (0 : Int) then
((ref_Ints r1.1 r6.1).bind fun r15 =>
some ((r15 && (r1.2.1 == r6.2.1)) && (r1.2.2.1 == r6.2.2)))
else
(some false)).bind fun v17 =>
some v17)
theorem law_CountRuns_ok {fuel : Nat} {a0 : Int} {a1 : (List (Int × (Int × (Int × Int))))} {a2 : (List Int)} {a3 : Int} {r : Bool} (h : law_CountRuns fuel a0 a1 a2 a3 = some r) : FnC Try.prog 10 [aI a0, aD (.slice (.pair tI (.pair tI (.pair tI tI)))) a1, aD (.slice tI) a2, aI a3] [] (aB r) [] := by
  refine fnC_of_W (B := bodyOf Try.f10) (n := 75) Try.func10 (by kernel_rfl) (by kernel_rfl) (by kernel_rfl) (by kernel_rfl) (by kernel_rfl) ?_
  intro K
  refine W_seq (by kernel_rfl) ?_
  refine W_run 1 [] [0, 1, 2, 3] [] (fr' := [(0, aI a0), (1, aD (.slice (.pair tI (.pair tI (.pair tI tI)))) a1), (2, aD (.slice tI) a2), (3, aI a3)]) (L' := []) (obs := []) (by kernel_rfl) (by kernel_rfl) (by kernel_rfl) allP0 ?_
  refine seqQ_norm ?_
  refine W_seq (by kernel_rfl) ?_
  refine W_region (by kernel_rfl) ?_
  refine WO_run (j := 4) (k := 4) (orcs := []) (kF := [0, 1, 2, 3, 18, 19, 20, 21]) (kL := []) (fr' := [(0, aI a0), (1, aD (.slice (.pair tI (.pair tI (.pair tI tI)))) a1), (2, aD (.slice tI) a2), (3, aI a3), (18, aI a0), (19, aD (.slice (.pair tI (.pair tI (.pair tI tI)))) a1), (20, aD (.slice tI) a2), (21, aI a3)]) (L' := []) (obs := []) rfl (by kernel_rfl) allP0 ?_
  obtain ⟨r1, h2, h⟩ := bind_of h
  refine WO_call0 (us := [none, none, none, none]) (d := 22) (p := True) (j := 5) rfl ⟨by kernel_rfl, by kernel_rfl, by kernel_rfl⟩ trivial (count_Run_ok h2) (by kernel_rfl) ?_
  refine WO_run (j := 14) (k := 9) (orcs := []) (kF := [0, 1, 2, 3, 9, 10, 11, 12]) (kL := []) (fr' := [(0, aI a0), (1, aD (.slice (.pair tI (.pair tI (.pair tI tI)))) a1), (2, aD (.slice tI) a2), (3, aI a3), (9, aD (.slice tI) r1.1), (10, aI r1.2.1), (11, aI r1.2.2.1), (12, aI r1.2.2.2)]) (L' := []) (obs := []) rfl (by kernel_rfl) allP0 ?_
  refine WO_fin [0, 1, 2, 3, 9, 10, 11, 12] [] (fr' := [(0, aI a0), (1, aD (.slice (.pair tI (.pair tI (.pair tI tI)))) a1), (2, aD (.slice tI) a2), (3, aI a3), (9, aD (.slice tI) r1.1), (10, aI r1.2.1), (11, aI r1.2.2.1), (12, aI r1.2.2.2)]) (L' := []) (by kernel_rfl) (by kernel_rfl) ?_
  refine seqQ_norm ?_
  refine W_seq (by kernel_rfl) ?_
  refine W_region (by kernel_rfl) ?_
  refine WO_run (j := 4) (k := 4) (orcs := []) (kF := [1, 2, 3, 9, 10, 11, 12, 27, 28, 29, 30]) (kL := []) (fr' := [(1, aD (.slice (.pair tI (.pair tI (.pair tI tI)))) a1), (2, aD (.slice tI) a2), (3, aI a3), (9, aD (.slice tI) r1.1), (10, aI r1.2.1), (11, aI r1.2.2.1), (12, aI r1.2.2.2), (27, aI a0), (28, aD (.slice (.pair tI (.pair tI (.pair tI tI)))) a1), (29, aD (.slice tI) a2), (30, aI a3)]) (L' := []) (obs := []) rfl (by kernel_rfl) allP0 ?_
  obtain ⟨r3, h4, h⟩ := bind_of h
  refine WO_call0 (us := [none, none, none, none]) (d := 31) (p := True) (j := 5) rfl ⟨by kernel_rfl, by kernel_rfl, by kernel_rfl⟩ trivial (law_countCode_ok h4) (by kernel_rfl) ?_
  refine WO_run (j := 6) (k := 1) (orcs := []) (kF := [1, 2, 3, 9, 10, 11, 12, 13]) (kL := []) (fr' := [(1, aD (.slice (.pair tI (.pair tI (.pair tI tI)))) a1), (2, aD (.slice tI) a2), (3, aI a3), (9, aD (.slice tI) r1.1), (10, aI r1.2.1), (11, aI r1.2.2.1), (12, aI r1.2.2.2), (13, aI r3)]) (L' := []) (obs := []) rfl (by kernel_rfl) allP0 ?_
  refine WO_fin [1, 2, 3, 9, 10, 11, 12, 13] [] (fr' := [(1, aD (.slice (.pair tI (.pair tI (.pair tI tI)))) a1), (2, aD (.slice tI) a2), (3, aI a3), (9, aD (.slice tI) r1.1), (10, aI r1.2.1), (11, aI r1.2.2.1), (12, aI r1.2.2.2), (13, aI r3)]) (L' := []) (by kernel_rfl) (by kernel_rfl) ?_
  refine seqQ_norm ?_
  refine W_seq (by kernel_rfl) ?_
  refine W_seq (by kernel_rfl) ?_
  refine W_run 2 [] [1, 2, 3, 9, 10, 11, 12, 13, 33] [] (fr' := [(1, aD (.slice (.pair tI (.pair tI (.pair tI tI)))) a1), (2, aD (.slice tI) a2), (3, aI a3), (9, aD (.slice tI) r1.1), (10, aI r1.2.1), (11, aI r1.2.2.1), (12, aI r1.2.2.2), (13, aI r3), (33, aB (r3 != (0 : Int)))]) (L' := []) (obs := []) (by kernel_rfl) (by kernel_rfl) (by kernel_rfl) allP0 ?_
  refine seqQ_norm ?_
  refine W_cond (o := .tmp 33) (b := r3 != (0 : Int)) (by kernel_rfl) (by kernel_rfl) (fun h5 => ?_) (fun h5 => ?_)
  · replace h := ofT h5 h
    refine W_seq (by kernel_rfl) ?_
    refine W_run 17 [] [8] [] (fr' := [(8, aB ((((r1.2.2.2 == r3) && ((List.length r1.1 : Int) == (0 : Int))) && (r1.2.1 == (0 : Int))) && (r1.2.2.1 == (0 : Int))))]) (L' := []) (obs := []) (by kernel_rfl) (by kernel_rfl) (by kernel_rfl) allP0 ?_
    refine seqQ_norm ?_
    obtain rfl := Option.some.inj h
    refine W_ret [8] [] (fr' := [(8, aB ((((r1.2.2.2 == r3) && ((List.length r1.1 : Int) == (0 : Int))) && (r1.2.1 == (0 : Int))) && (r1.2.2.1 == (0 : Int))))]) (L' := []) (by kernel_rfl) (by kernel_rfl) ?_
    refine seqQ_ret ?_
    exact retQ_mk (by kernel_rfl) (by kernel_rfl) (by kernel_rfl)
  · replace h := ofF h5 h
    refine W_skip [1, 2, 3, 9, 10, 11, 12] [] (fr' := [(1, aD (.slice (.pair tI (.pair tI (.pair tI tI)))) a1), (2, aD (.slice tI) a2), (3, aI a3), (9, aD (.slice tI) r1.1), (10, aI r1.2.1), (11, aI r1.2.2.1), (12, aI r1.2.2.2)]) (L' := []) (by kernel_rfl) (by kernel_rfl) ?_
    refine seqQ_norm ?_
    refine W_seq (by kernel_rfl) ?_
    refine W_region (by kernel_rfl) ?_
    refine WO_run (j := 3) (k := 3) (orcs := []) (kF := [9, 10, 11, 12, 51, 52, 53]) (kL := []) (fr' := [(9, aD (.slice tI) r1.1), (10, aI r1.2.1), (11, aI r1.2.2.1), (12, aI r1.2.2.2), (51, aD (.slice (.pair tI (.pair tI (.pair tI tI)))) a1), (52, aD (.slice tI) a2), (53, aI a3)]) (L' := []) (obs := []) rfl (by kernel_rfl) allP0 ?_
    obtain ⟨r6, h7, h⟩ := bind_of h
    refine WO_call0 (us := [none, none, none, none]) (d := 54) (p := True) (j := 4) rfl ⟨by kernel_rfl, by kernel_rfl, by kernel_rfl⟩ trivial (ref_Counted_ok h7) (by kernel_rfl) ?_
    refine WO_run (j := 11) (k := 7) (orcs := []) (kF := [9, 10, 11, 12, 14, 15, 16]) (kL := []) (fr' := [(9, aD (.slice tI) r1.1), (10, aI r1.2.1), (11, aI r1.2.2.1), (12, aI r1.2.2.2), (14, aD (.slice tI) r6.1), (15, aI r6.2.1), (16, aI r6.2.2)]) (L' := []) (obs := []) rfl (by kernel_rfl) allP0 ?_
    refine WO_fin [9, 10, 11, 12, 14, 15, 16] [] (fr' := [(9, aD (.slice tI) r1.1), (10, aI r1.2.1), (11, aI r1.2.2.1), (12, aI r1.2.2.2), (14, aD (.slice tI) r6.1), (15, aI r6.2.1), (16, aI r6.2.2)]) (L' := []) (by kernel_rfl) (by kernel_rfl) ?_
    refine seqQ_norm ?_
    refine W_seq (by kernel_rfl) ?_
    obtain ⟨v17, h18, h⟩ := bind_of h
    refine W_cutK (Q' := (exQ .normal law_CountRuns_s1) v17) ?_ ?_
    · replace h := h18
      refine W_region (by kernel_rfl) ?_
      refine WO_run (j := 3) (k := 3) (orcs := []) (kF := [9, 10, 11, 14, 15, 16, 60]) (kL := []) (fr' := [(9, aD (.slice tI) r1.1), (10, aI r1.2.1), (11, aI r1.2.2.1), (14, aD (.slice tI) r6.1), (15, aI r6.2.1), (16, aI r6.2.2), (60, aB (r1.2.2.2 == (0 : Int)))]) (L' := []) (obs := []) rfl (by kernel_rfl) allP0 ?_
      rcases Bool.eq_false_or_eq_true (r1.2.2.2 == (0 : Int)) with h14 | h14
      · replace h := ofT h14 h
        refine WO_run (j := 5) (k := 2) (orcs := [(6, .known true), (8, .known true)]) (kF := [10, 11, 15, 16, 60, 61, 62]) (kL := []) (fr' := [(10, aI r1.2.1), (11, aI r1.2.2.1), (15, aI r6.2.1), (16, aI r6.2.2), (60, aB (r1.2.2.2 == (0 : Int))), (61, aD (.slice tI) r1.1), (62, aD (.slice tI) r6.1)]) (L' := []) (obs := [((r1.2.2.2 == (0 : Int)) = true), ((r1.2.2.2 == (0 : Int)) = true)]) rfl (by kernel_rfl) (allP2 h14 (allP1 h14)) ?_
        obtain ⟨r15, h16, h⟩ := bind_of h
        refine WO_call0 (us := [none, none]) (d := 63) (p := ((r1.2.2.2 == (0 : Int)) = true)) (j := 6) rfl ⟨by kernel_rfl, by kernel_rfl, by kernel_rfl⟩ h14 (ref_Ints_ok h16) (by kernel_rfl) ?_
        refine WO_run (j := 18) (k := 12) (orcs := [(13, .val (.dat .bool true))]) (kF := [8]) (kL := []) (fr' := [(8, aB ((r15 && (r1.2.1 == r6.2.1)) && (r1.2.2.1 == r6.2.2)))]) (L' := []) (obs := [((r1.2.2.2 == (0 : Int)) = true)]) rfl (by kernel_rfl) (allP1 h14) ?_
        obtain rfl := Option.some.inj h
        refine WO_fin [8] [] (fr' := [(8, aB ((r15 && (r1.2.1 == r6.2.1)) && (r1.2.2.1 == r6.2.2)))]) (L' := []) (by kernel_rfl) (by kernel_rfl) ?_
        exact exQ_mk (by kernel_rfl) (by kernel_rfl)
      · replace h := ofF h14 h
        refine WO_run (j := 18) (k := 15) (orcs := [(6, .known false), (8, .known false), (10, .known false), (13, .val (.dat .bool false)), (16, .known false), (18, .known false), (20, .known false), (23, .val (.dat .bool false)), (26, .known false), (28, .known false), (30, .known false), (33, .val (.dat .bool false))]) (kF := [8]) (kL := []) (fr' := [(8, aB false)]) (L' := []) (obs := [((r1.2.2.2 == (0 : Int)) = false), ((r1.2.2.2 == (0 : Int)) = false), ((r1.2.2.2 == (0 : Int)) = false), ((r1.2.2.2 == (0 : Int)) = false), (false = false), (false = false), (false = false), (false = false), (false = false), (false = false), (false = false), (false = false)]) rfl (by kernel_rfl) (allP2 h14 (allP2 h14 (allP2 h14 (allP2 h14 (allP2 rfl (allP2 rfl (allP2 rfl (allP2 rfl (allP2 rfl (allP2 rfl (allP2 rfl (allP1 rfl)))))))))))) ?_
        obtain rfl := Option.some.inj h
        refine WO_fin [8] [] (fr' := [(8, aB false)]) (L' := []) (by kernel_rfl) (by kernel_rfl) ?_
        exact exQ_mk (by kernel_rfl) (by kernel_rfl)
    · intro e fr L hJ
      obtain ⟨rfl, rfl, rfl⟩ := hJ
      refine LT_keep [8] [] (fr' := [(8, aB v17)]) (L' := []) (by kernel_rfl) ?_
      refine seqQ_norm ?_
      obtain rfl := Option.some.inj h
      refine W_ret [8] [] (fr' := [(8, aB v17)]) (L' := []) (by kernel_rfl) (by kernel_rfl) ?_
      exact retQ_mk (by kernel_rfl) (by kernel_rfl) (by kernel_rfl)
end Go.Proofs.Ytmongadolmofnaa.countRuns
