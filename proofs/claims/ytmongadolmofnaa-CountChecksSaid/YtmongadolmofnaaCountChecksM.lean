/- What the functions that CountChecks calls compute, as models, and that they compute it: written by a program of mine. -/
import Derived.Test.YtmongadolmofnaaProg
import Derived.Test.YtmongadolmofnaaSl3
set_option linter.all false
set_option maxRecDepth 100000
namespace Go.Proofs.Ytmongadolmofnaa.countChecks
open Go Go.Sl
def count_Check_1 (a0 : Int) (c0 : (List (Int × (Int × (Int × Int))))) : Option Bool :=
some ((decide (a0 ≥ (0 : Int))) && (decide (a0 ≤ (List.length c0 : Int))))
theorem count_Check_1_ok {a0 : Int} {c0 : (List (Int × (Int × (Int × Int))))} {r : Bool} (h : count_Check_1 a0 c0 = some r) : FnC Try.prog 39 [aI a0, .one (.ptr 1000 0)] [(1000, .cells [.dat (.slice (.pair tI (.pair tI (.pair tI tI)))) c0])] (aB r) [(1000, .cells [.dat (.slice (.pair tI (.pair tI (.pair tI tI)))) c0])] := by
  refine fnC_of_W (B := bodyOf Try.f39) (n := 12) Try.func39 (by kernel_rfl) (by kernel_rfl) (by kernel_rfl) (by kernel_rfl) (by kernel_rfl) ?_
  intro K
  refine W_seq (by kernel_rfl) ?_
  refine W_run 1 [] [0, 1] [1000] (fr' := [(0, aI a0), (1, .one (.ptr 1000 0))]) (L' := [(1000, .cells [.dat (.slice (.pair tI (.pair tI (.pair tI tI)))) c0])]) (obs := []) (by kernel_rfl) (by kernel_rfl) (by kernel_rfl) allP0 ?_
  refine seqQ_norm ?_
  refine W_seq (by kernel_rfl) ?_
  refine W_run 9 [] [3] [1000] (fr' := [(3, aB ((decide (a0 ≥ (0 : Int))) && (decide (a0 ≤ (List.length c0 : Int)))))]) (L' := [(1000, .cells [.dat (.slice (.pair tI (.pair tI (.pair tI tI)))) c0])]) (obs := []) (by kernel_rfl) (by kernel_rfl) (by kernel_rfl) allP0 ?_
  refine seqQ_norm ?_
  obtain rfl := Option.some.inj h
  refine W_ret [3] [1000] (fr' := [(3, aB ((decide (a0 ≥ (0 : Int))) && (decide (a0 ≤ (List.length c0 : Int)))))]) (L' := [(1000, .cells [.dat (.slice (.pair tI (.pair tI (.pair tI tI)))) c0])]) (by kernel_rfl) (by kernel_rfl) ?_
  exact retQ_mk (by kernel_rfl) (by kernel_rfl) (by kernel_rfl)

def count_Check_g9 (a1 : (List (Int × (Int × (Int × Int))))) (v79 : (Int × (Int × (Int × Int)))) : Option Bool :=
(count_Check_1 v79.2.2.1 a1).bind fun r106 =>
bif !r106 then
(some true)
else
(bif v79.1 == (2 : Int) then
((count_Check_1 v79.2.2.2 a1).bind fun r110 =>
some (!r110))
else
(some false))
@[reducible] def count_Check_s10 (a0 : Int) (a1 : (List (Int × (Int × (Int × Int))))) (i76 : Int) (v : Bool) : Fr × LL := ([(0, aI a0), (5, .one (.fn 39 [(3, 0)])), (25, aD (.slice (.pair tI (.pair tI (.pair tI tI)))) a1), (26, aI (List.length a1 : Int)), (27, aI i76), (50, aB v)], [(3, .cells [.dat (.slice (.pair tI (.pair tI (.pair tI tI)))) a1])])
@[reducible] def count_Check_s11 (a0 : Int) (a1 : (List (Int × (Int × (Int × Int))))) (i76 : Int) (v79 : (Int × (Int × (Int × Int)))) (v : Bool) : Fr × LL := ([(0, aI a0), (5, .one (.fn 39 [(3, 0)])), (7, .one (.ptr 7 0)), (25, aD (.slice (.pair tI (.pair tI (.pair tI tI)))) a1), (26, aI (List.length a1 : Int)), (27, aI i76), (40, aB v)], [(3, .cells [.dat (.slice (.pair tI (.pair tI (.pair tI tI)))) a1]), (7, .one (.pair tI (.pair tI (.pair tI tI))) v79)])
@[reducible] def count_Check_s12 (a0 : Int) (a1 : (List (Int × (Int × (Int × Int))))) (i76 : Int) (v79 : (Int × (Int × (Int × Int)))) (v : Bool) : Fr × LL := ([(0, aI a0), (5, .one (.fn 39 [(3, 0)])), (7, .one (.ptr 7 0)), (25, aD (.slice (.pair tI (.pair tI (.pair tI tI)))) a1), (26, aI (List.length a1 : Int)), (27, aI i76), (31, aB v)], [(3, .cells [.dat (.slice (.pair tI (.pair tI (.pair tI tI)))) a1]), (7, .one (.pair tI (.pair tI (.pair tI tI))) v79)])
def count_Check_b13 (a0 : Int) (a1 : (List (Int × (Int × (Int × Int))))) (i76 : Int) (v79 : (Int × (Int × (Int × Int)))) (x77 : Unit) : Option (Flow Unit (Esc Int Unit)) :=
(bif v79.1 != (1 : Int) then
(some (v79.1 != (2 : Int)))
else
(some false)).bind fun v85 =>
bif v85 then
(some (.done (.ret (6 : Int))))
else
((bif decide (v79.2.1 < (0 : Int)) then
(some true)
else
(some (decide (v79.2.1 ≥ a0)))).bind fun v91 =>
bif v91 then
(some (.done (.ret (2 : Int))))
else
((count_Check_g9 a1 v79).bind fun v112 =>
bif v112 then
(some (.done (.ret (3 : Int))))
else
(some (.next ()))))
@[reducible] def count_Check_s14 (a0 : Int) (a1 : (List (Int × (Int × (Int × Int))))) (v : Int × Unit) : Fr × LL := ([(0, aI a0), (5, .one (.fn 39 [(3, 0)])), (25, aD (.slice (.pair tI (.pair tI (.pair tI tI)))) a1), (26, aI (List.length a1 : Int)), (27, aI v.1)], [(3, .cells [.dat (.slice (.pair tI (.pair tI (.pair tI tI)))) a1])])
@[reducible] def count_Check_s15 (v : Int) : Fr × LL := ([(4, aI v)], [])
@[reducible] def count_Check_s16 (v : Unit) : Fr × LL := ([], [])
def count_Check (a0 : Int) (a1 : (List (Int × (Int × (Int × Int))))) : Option Int :=
bif (((decide (a0 < (1 : Int))) || (decide (a0 > (4 : Int)))) || (decide ((List.length a1 : Int) < (1 : Int)))) || (decide ((List.length a1 : Int) > (12 : Int))) then
(some (1 : Int))
else
((forL (count_Check_b13 a0 a1) (fun x77 => (.brk ())) a1 0 ()).bind fun v116 =>
match v116 with
| .ret v121 =>
(some v121)
| .brk v122 =>
(some (0 : Int)))
theorem count_Check_ok {a0 : Int} {a1 : (List (Int × (Int × (Int × Int))))} {r : Int} (h : count_Check a0 a1 = some r) : FnC Try.prog 22 [aI a0, aD (.slice (.pair tI (.pair tI (.pair tI tI)))) a1] [] (aI r) [] := by
  refine fnC_of_W (B := bodyOf Try.f22) (n := 69) Try.func22 (by kernel_rfl) (by kernel_rfl) (by kernel_rfl) (by kernel_rfl) (by kernel_rfl) ?_
  intro K
  refine W_seq (by kernel_rfl) ?_
  refine W_run 2 [] [0, 3] [3] (fr' := [(0, aI a0), (3, .one (.ptr 3 0))]) (L' := [(3, .cells [.dat (.slice (.pair tI (.pair tI (.pair tI tI)))) a1])]) (obs := []) (by kernel_rfl) (by kernel_rfl) (by kernel_rfl) allP0 ?_
  refine seqQ_norm ?_
  refine W_seq (by kernel_rfl) ?_
  refine W_seq (by kernel_rfl) ?_
  refine W_run 16 [] [0, 3, 23] [3] (fr' := [(0, aI a0), (3, .one (.ptr 3 0)), (23, aB ((((decide (a0 < (1 : Int))) || (decide (a0 > (4 : Int)))) || (decide ((List.length a1 : Int) < (1 : Int)))) || (decide ((List.length a1 : Int) > (12 : Int)))))]) (L' := [(3, .cells [.dat (.slice (.pair tI (.pair tI (.pair tI tI)))) a1])]) (obs := []) (by kernel_rfl) (by kernel_rfl) (by kernel_rfl) allP0 ?_
  refine seqQ_norm ?_
  refine W_cond (o := .tmp 23) (b := (((decide (a0 < (1 : Int))) || (decide (a0 > (4 : Int)))) || (decide ((List.length a1 : Int) < (1 : Int)))) || (decide ((List.length a1 : Int) > (12 : Int)))) (by kernel_rfl) (by kernel_rfl) (fun h1 => ?_) (fun h1 => ?_)
  · replace h := ofT h1 h
    refine W_seq (by kernel_rfl) ?_
    refine W_run 1 [] [4] [] (fr' := [(4, aI (1 : Int))]) (L' := []) (obs := []) (by kernel_rfl) (by kernel_rfl) (by kernel_rfl) allP0 ?_
    refine seqQ_norm ?_
    obtain rfl := Option.some.inj h
    refine W_ret [4] [] (fr' := [(4, aI (1 : Int))]) (L' := []) (by kernel_rfl) (by kernel_rfl) ?_
    refine seqQ_ret ?_
    exact retQ_mk (by kernel_rfl) (by kernel_rfl) (by kernel_rfl)
  · replace h := ofF h1 h
    refine W_skip [0, 3] [3] (fr' := [(0, aI a0), (3, .one (.ptr 3 0))]) (L' := [(3, .cells [.dat (.slice (.pair tI (.pair tI (.pair tI tI)))) a1])]) (by kernel_rfl) (by kernel_rfl) ?_
    refine seqQ_norm ?_
    refine W_seq (by kernel_rfl) ?_
    refine W_run 2 [] [0, 3, 5] [3] (fr' := [(0, aI a0), (3, .one (.ptr 3 0)), (5, .one (.fn 39 [(3, 0)]))]) (L' := [(3, .cells [.dat (.slice (.pair tI (.pair tI (.pair tI tI)))) a1])]) (obs := []) (by kernel_rfl) (by kernel_rfl) (by kernel_rfl) allP0 ?_
    refine seqQ_norm ?_
    refine W_seq (by kernel_rfl) ?_
    refine W_seq (by kernel_rfl) ?_
    refine W_run 3 [] [0, 5, 25, 26, 27] [3] (fr' := [(0, aI a0), (5, .one (.fn 39 [(3, 0)])), (25, aD (.slice (.pair tI (.pair tI (.pair tI tI)))) a1), (26, aI (List.length a1 : Int)), (27, aI (0 : Int))]) (L' := [(3, .cells [.dat (.slice (.pair tI (.pair tI (.pair tI tI)))) a1])]) (obs := []) (by kernel_rfl) (by kernel_rfl) (by kernel_rfl) allP0 ?_
    refine seqQ_norm ?_
    refine W_block (id := 0) (by kernel_rfl) ?_
    obtain ⟨v116, h117, h⟩ := bind_of h
    refine W_len (t := 25) (u := (.pair tI (.pair tI (.pair tI tI)))) (xs := a1) (by kernel_rfl) (fun h120 => ?_)
    obtain ⟨h118, h119⟩ := forL_iter h120 h117
    refine W_weaken [0, 5, 25, 26, 27] [3] (fr' := ((count_Check_s14 a0 a1) ((0 : Int), ())).1) (L' := ((count_Check_s14 a0 a1) ((0 : Int), ())).2) (by kernel_rfl) ?_
    refine W_cutK (W_loop (S := (count_Check_s14 a0 a1)) (J := (escQ (exQ .ret count_Check_s15) (exQ (.exit 0) count_Check_s16))) (by kernel_rfl) ?_ h118 _ v116 h119) ?_
    · rintro ⟨i76, x77⟩ s h
      refine W_seq (by kernel_rfl) ?_
      refine W_run 1 [] [0, 5, 25, 26, 27, 28] [3] (fr' := [(0, aI a0), (5, .one (.fn 39 [(3, 0)])), (25, aD (.slice (.pair tI (.pair tI (.pair tI tI)))) a1), (26, aI (List.length a1 : Int)), (27, aI i76), (28, aB (decide (i76 < (List.length a1 : Int))))]) (L' := [(3, .cells [.dat (.slice (.pair tI (.pair tI (.pair tI tI)))) a1])]) (obs := []) (by kernel_rfl) (by kernel_rfl) (by kernel_rfl) allP0 ?_
      refine seqQ_norm ?_
      refine W_seq (by kernel_rfl) ?_
      refine W_cond (o := .tmp 28) (b := decide (i76 < (List.length a1 : Int))) (by kernel_rfl) (by kernel_rfl) (fun h81 => ?_) (fun h81 => ?_)
      · replace h := stepL_true h81 h
        obtain ⟨v79, _, h80, h, rfl⟩ := h
        refine W_skip [0, 5, 25, 26, 27] [3] (fr' := [(0, aI a0), (5, .one (.fn 39 [(3, 0)])), (25, aD (.slice (.pair tI (.pair tI (.pair tI tI)))) a1), (26, aI (List.length a1 : Int)), (27, aI i76)]) (L' := [(3, .cells [.dat (.slice (.pair tI (.pair tI (.pair tI tI)))) a1])]) (by kernel_rfl) (by kernel_rfl) ?_
        refine seqQ_norm ?_
        refine W_seq (by kernel_rfl) ?_
        refine W_block (id := 1) (by kernel_rfl) ?_
        refine W_seq (by kernel_rfl) ?_
        refine W_run 4 [(1, .val (.dat (.pair tI (.pair tI (.pair tI tI))) v79)), (5, .typed)] [0, 5, 7, 25, 26, 27] [3, 7] (fr' := [(0, aI a0), (5, .one (.fn 39 [(3, 0)])), (7, .one (.ptr 7 0)), (25, aD (.slice (.pair tI (.pair tI (.pair tI tI)))) a1), (26, aI (List.length a1 : Int)), (27, aI i76)]) (L' := [(3, .cells [.dat (.slice (.pair tI (.pair tI (.pair tI tI)))) a1]), (7, .one (.pair tI (.pair tI (.pair tI tI))) v79)]) (obs := [Idx a1 i76 v79, True]) (by kernel_rfl) (by kernel_rfl) (by kernel_rfl) (allP2 (Idx.of h80) (allP1 trivial)) ?_
        refine seqQ_norm ?_
        refine W_block (id := 2) (by kernel_rfl) ?_
        refine W_seq (by kernel_rfl) ?_
        obtain ⟨v85, h86, h⟩ := bind_of h
        refine W_cutK (Q' := (exQ .normal (count_Check_s12 a0 a1 i76 v79)) v85) ?_ ?_
        · replace h := h86
          refine W_region (by kernel_rfl) ?_
          refine WO_run (j := 4) (k := 4) (orcs := []) (kF := [0, 5, 7, 25, 26, 27, 35]) (kL := [3, 7]) (fr' := [(0, aI a0), (5, .one (.fn 39 [(3, 0)])), (7, .one (.ptr 7 0)), (25, aD (.slice (.pair tI (.pair tI (.pair tI tI)))) a1), (26, aI (List.length a1 : Int)), (27, aI i76), (35, aB (v79.1 != (1 : Int)))]) (L' := [(3, .cells [.dat (.slice (.pair tI (.pair tI (.pair tI tI)))) a1]), (7, .one (.pair tI (.pair tI (.pair tI tI))) v79)]) (obs := []) rfl (by kernel_rfl) allP0 ?_
          rcases Bool.eq_false_or_eq_true (v79.1 != (1 : Int)) with h84 | h84
          · replace h := ofT h84 h
            refine WO_run (j := 9) (k := 5) (orcs := [(8, .known true), (10, .known true), (12, .known true), (15, .val (.dat .bool true))]) (kF := [0, 5, 7, 25, 26, 27, 31]) (kL := [3, 7]) (fr' := [(0, aI a0), (5, .one (.fn 39 [(3, 0)])), (7, .one (.ptr 7 0)), (25, aD (.slice (.pair tI (.pair tI (.pair tI tI)))) a1), (26, aI (List.length a1 : Int)), (27, aI i76), (31, aB (v79.1 != (2 : Int)))]) (L' := [(3, .cells [.dat (.slice (.pair tI (.pair tI (.pair tI tI)))) a1]), (7, .one (.pair tI (.pair tI (.pair tI tI))) v79)]) (obs := [((v79.1 != (1 : Int)) = true), ((v79.1 != (1 : Int)) = true), ((v79.1 != (1 : Int)) = true), ((v79.1 != (1 : Int)) = true)]) rfl (by kernel_rfl) (allP2 h84 (allP2 h84 (allP2 h84 (allP1 h84)))) ?_
            obtain rfl := Option.some.inj h
            refine WO_fin [0, 5, 7, 25, 26, 27, 31] [3, 7] (fr' := [(0, aI a0), (5, .one (.fn 39 [(3, 0)])), (7, .one (.ptr 7 0)), (25, aD (.slice (.pair tI (.pair tI (.pair tI tI)))) a1), (26, aI (List.length a1 : Int)), (27, aI i76), (31, aB (v79.1 != (2 : Int)))]) (L' := [(3, .cells [.dat (.slice (.pair tI (.pair tI (.pair tI tI)))) a1]), (7, .one (.pair tI (.pair tI (.pair tI tI))) v79)]) (by kernel_rfl) (by kernel_rfl) ?_
            exact exQ_mk (by kernel_rfl) (by kernel_rfl)
          · replace h := ofF h84 h
            refine WO_run (j := 9) (k := 5) (orcs := [(8, .known false), (10, .known false), (12, .known false), (15, .val (.dat .bool false))]) (kF := [0, 5, 7, 25, 26, 27, 31]) (kL := [3, 7]) (fr' := [(0, aI a0), (5, .one (.fn 39 [(3, 0)])), (7, .one (.ptr 7 0)), (25, aD (.slice (.pair tI (.pair tI (.pair tI tI)))) a1), (26, aI (List.length a1 : Int)), (27, aI i76), (31, aB false)]) (L' := [(3, .cells [.dat (.slice (.pair tI (.pair tI (.pair tI tI)))) a1]), (7, .one (.pair tI (.pair tI (.pair tI tI))) v79)]) (obs := [((v79.1 != (1 : Int)) = false), ((v79.1 != (1 : Int)) = false), ((v79.1 != (1 : Int)) = false), ((v79.1 != (1 : Int)) = false)]) rfl (by kernel_rfl) (allP2 h84 (allP2 h84 (allP2 h84 (allP1 h84)))) ?_
            obtain rfl := Option.some.inj h
            refine WO_fin [0, 5, 7, 25, 26, 27, 31] [3, 7] (fr' := [(0, aI a0), (5, .one (.fn 39 [(3, 0)])), (7, .one (.ptr 7 0)), (25, aD (.slice (.pair tI (.pair tI (.pair tI tI)))) a1), (26, aI (List.length a1 : Int)), (27, aI i76), (31, aB false)]) (L' := [(3, .cells [.dat (.slice (.pair tI (.pair tI (.pair tI tI)))) a1]), (7, .one (.pair tI (.pair tI (.pair tI tI))) v79)]) (by kernel_rfl) (by kernel_rfl) ?_
            exact exQ_mk (by kernel_rfl) (by kernel_rfl)
        · intro e fr L hJ
          obtain ⟨rfl, rfl, rfl⟩ := hJ
          refine LT_keep [0, 5, 7, 25, 26, 27, 31] [3, 7] (fr' := [(0, aI a0), (5, .one (.fn 39 [(3, 0)])), (7, .one (.ptr 7 0)), (25, aD (.slice (.pair tI (.pair tI (.pair tI tI)))) a1), (26, aI (List.length a1 : Int)), (27, aI i76), (31, aB v85)]) (L' := [(3, .cells [.dat (.slice (.pair tI (.pair tI (.pair tI tI)))) a1]), (7, .one (.pair tI (.pair tI (.pair tI tI))) v79)]) (by kernel_rfl) ?_
          refine seqQ_norm ?_
          refine W_cond (o := .tmp 31) (b := v85) (by kernel_rfl) (by kernel_rfl) (fun h87 => ?_) (fun h87 => ?_)
          · replace h := ofT h87 h
            refine W_seq (by kernel_rfl) ?_
            refine W_run 1 [] [4] [] (fr' := [(4, aI (6 : Int))]) (L' := []) (obs := []) (by kernel_rfl) (by kernel_rfl) (by kernel_rfl) allP0 ?_
            refine seqQ_norm ?_
            obtain rfl := Option.some.inj h
            refine W_ret [4] [] (fr' := [(4, aI (6 : Int))]) (L' := []) (by kernel_rfl) (by kernel_rfl) ?_
            refine blockQ_ret ?_
            refine blockQ_ret ?_
            refine seqQ_ret ?_
            refine round_ret ?_
            refine escQ_ret ?_
            exact exQ_mk (by kernel_rfl) (by kernel_rfl)
          · replace h := ofF h87 h
            refine W_seq (by kernel_rfl) ?_
            obtain ⟨v91, h92, h⟩ := bind_of h
            refine W_cutK (Q' := (exQ .normal (count_Check_s11 a0 a1 i76 v79)) v91) ?_ ?_
            · replace h := h92
              refine W_region (by kernel_rfl) ?_
              refine WO_run (j := 4) (k := 4) (orcs := []) (kF := [0, 5, 7, 25, 26, 27, 44]) (kL := [3, 7]) (fr' := [(0, aI a0), (5, .one (.fn 39 [(3, 0)])), (7, .one (.ptr 7 0)), (25, aD (.slice (.pair tI (.pair tI (.pair tI tI)))) a1), (26, aI (List.length a1 : Int)), (27, aI i76), (44, aB (decide (v79.2.1 < (0 : Int))))]) (L' := [(3, .cells [.dat (.slice (.pair tI (.pair tI (.pair tI tI)))) a1]), (7, .one (.pair tI (.pair tI (.pair tI tI))) v79)]) (obs := []) rfl (by kernel_rfl) allP0 ?_
              rcases Bool.eq_false_or_eq_true (decide (v79.2.1 < (0 : Int))) with h90 | h90
              · replace h := ofT h90 h
                refine WO_run (j := 10) (k := 6) (orcs := [(8, .known true), (10, .known true), (12, .known true), (14, .known true), (17, .val (.dat .bool true))]) (kF := [0, 5, 7, 25, 26, 27, 40]) (kL := [3, 7]) (fr' := [(0, aI a0), (5, .one (.fn 39 [(3, 0)])), (7, .one (.ptr 7 0)), (25, aD (.slice (.pair tI (.pair tI (.pair tI tI)))) a1), (26, aI (List.length a1 : Int)), (27, aI i76), (40, aB true)]) (L' := [(3, .cells [.dat (.slice (.pair tI (.pair tI (.pair tI tI)))) a1]), (7, .one (.pair tI (.pair tI (.pair tI tI))) v79)]) (obs := [((decide (v79.2.1 < (0 : Int))) = true), ((decide (v79.2.1 < (0 : Int))) = true), ((decide (v79.2.1 < (0 : Int))) = true), ((decide (v79.2.1 < (0 : Int))) = true), ((decide (v79.2.1 < (0 : Int))) = true)]) rfl (by kernel_rfl) (allP2 h90 (allP2 h90 (allP2 h90 (allP2 h90 (allP1 h90))))) ?_
                obtain rfl := Option.some.inj h
                refine WO_fin [0, 5, 7, 25, 26, 27, 40] [3, 7] (fr' := [(0, aI a0), (5, .one (.fn 39 [(3, 0)])), (7, .one (.ptr 7 0)), (25, aD (.slice (.pair tI (.pair tI (.pair tI tI)))) a1), (26, aI (List.length a1 : Int)), (27, aI i76), (40, aB true)]) (L' := [(3, .cells [.dat (.slice (.pair tI (.pair tI (.pair tI tI)))) a1]), (7, .one (.pair tI (.pair tI (.pair tI tI))) v79)]) (by kernel_rfl) (by kernel_rfl) ?_
                exact exQ_mk (by kernel_rfl) (by kernel_rfl)
              · replace h := ofF h90 h
                refine WO_run (j := 10) (k := 6) (orcs := [(8, .known false), (10, .known false), (12, .known false), (14, .known false), (17, .val (.dat .bool false))]) (kF := [0, 5, 7, 25, 26, 27, 40]) (kL := [3, 7]) (fr' := [(0, aI a0), (5, .one (.fn 39 [(3, 0)])), (7, .one (.ptr 7 0)), (25, aD (.slice (.pair tI (.pair tI (.pair tI tI)))) a1), (26, aI (List.length a1 : Int)), (27, aI i76), (40, aB (decide (v79.2.1 ≥ a0)))]) (L' := [(3, .cells [.dat (.slice (.pair tI (.pair tI (.pair tI tI)))) a1]), (7, .one (.pair tI (.pair tI (.pair tI tI))) v79)]) (obs := [((decide (v79.2.1 < (0 : Int))) = false), ((decide (v79.2.1 < (0 : Int))) = false), ((decide (v79.2.1 < (0 : Int))) = false), ((decide (v79.2.1 < (0 : Int))) = false), ((decide (v79.2.1 < (0 : Int))) = false)]) rfl (by kernel_rfl) (allP2 h90 (allP2 h90 (allP2 h90 (allP2 h90 (allP1 h90))))) ?_
                obtain rfl := Option.some.inj h
                refine WO_fin [0, 5, 7, 25, 26, 27, 40] [3, 7] (fr' := [(0, aI a0), (5, .one (.fn 39 [(3, 0)])), (7, .one (.ptr 7 0)), (25, aD (.slice (.pair tI (.pair tI (.pair tI tI)))) a1), (26, aI (List.length a1 : Int)), (27, aI i76), (40, aB (decide (v79.2.1 ≥ a0)))]) (L' := [(3, .cells [.dat (.slice (.pair tI (.pair tI (.pair tI tI)))) a1]), (7, .one (.pair tI (.pair tI (.pair tI tI))) v79)]) (by kernel_rfl) (by kernel_rfl) ?_
                exact exQ_mk (by kernel_rfl) (by kernel_rfl)
            · intro e fr L hJ
              obtain ⟨rfl, rfl, rfl⟩ := hJ
              refine LT_keep [0, 5, 7, 25, 26, 27, 40] [3, 7] (fr' := [(0, aI a0), (5, .one (.fn 39 [(3, 0)])), (7, .one (.ptr 7 0)), (25, aD (.slice (.pair tI (.pair tI (.pair tI tI)))) a1), (26, aI (List.length a1 : Int)), (27, aI i76), (40, aB v91)]) (L' := [(3, .cells [.dat (.slice (.pair tI (.pair tI (.pair tI tI)))) a1]), (7, .one (.pair tI (.pair tI (.pair tI tI))) v79)]) (by kernel_rfl) ?_
              refine seqQ_norm ?_
              refine W_cond (o := .tmp 40) (b := v91) (by kernel_rfl) (by kernel_rfl) (fun h93 => ?_) (fun h93 => ?_)
              · replace h := ofT h93 h
                refine W_seq (by kernel_rfl) ?_
                refine W_run 1 [] [4] [] (fr' := [(4, aI (2 : Int))]) (L' := []) (obs := []) (by kernel_rfl) (by kernel_rfl) (by kernel_rfl) allP0 ?_
                refine seqQ_norm ?_
                obtain rfl := Option.some.inj h
                refine W_ret [4] [] (fr' := [(4, aI (2 : Int))]) (L' := []) (by kernel_rfl) (by kernel_rfl) ?_
                refine blockQ_ret ?_
                refine blockQ_ret ?_
                refine seqQ_ret ?_
                refine round_ret ?_
                refine escQ_ret ?_
                exact exQ_mk (by kernel_rfl) (by kernel_rfl)
              · replace h := ofF h93 h
                refine W_seq (by kernel_rfl) ?_
                obtain ⟨v112, h113, h⟩ := bind_of h
                refine W_cutK (Q' := (exQ .normal (count_Check_s10 a0 a1 i76)) v112) ?_ ?_
                · replace h := h113
                  refine W_region (by kernel_rfl) ?_
                  refine WO_run (j := 3) (k := 3) (orcs := []) (kF := [0, 5, 7, 25, 26, 27, 51, 53]) (kL := [3, 7]) (fr' := [(0, aI a0), (5, .one (.fn 39 [(3, 0)])), (7, .one (.ptr 7 0)), (25, aD (.slice (.pair tI (.pair tI (.pair tI tI)))) a1), (26, aI (List.length a1 : Int)), (27, aI i76), (51, .one (.fn 39 [(3, 0)])), (53, aI v79.2.2.1)]) (L' := [(3, .cells [.dat (.slice (.pair tI (.pair tI (.pair tI tI)))) a1]), (7, .one (.pair tI (.pair tI (.pair tI tI))) v79)]) (obs := []) rfl (by kernel_rfl) allP0 ?_
                  obtain ⟨r106, h107, h⟩ := bind_of h
                  refine WO_lend [(1000, 3)] (us := [none, none]) (d := 54) (p := True) (j := 4) rfl ⟨by kernel_rfl, by kernel_rfl, by kernel_rfl⟩ trivial (count_Check_1_ok h107) (by kernel_rfl) (by kernel_rfl) ?_
                  refine WO_run (j := 6) (k := 2) (orcs := []) (kF := [0, 5, 7, 25, 26, 27, 56]) (kL := [3, 7]) (fr' := [(0, aI a0), (5, .one (.fn 39 [(3, 0)])), (7, .one (.ptr 7 0)), (25, aD (.slice (.pair tI (.pair tI (.pair tI tI)))) a1), (26, aI (List.length a1 : Int)), (27, aI i76), (56, aB (!r106))]) (L' := [(3, .cells [.dat (.slice (.pair tI (.pair tI (.pair tI tI)))) a1]), (7, .one (.pair tI (.pair tI (.pair tI tI))) v79)]) (obs := []) rfl (by kernel_rfl) allP0 ?_
                  rcases Bool.eq_false_or_eq_true (!r106) with h108 | h108
                  · replace h := ofT h108 h
                    refine WO_run (j := 18) (k := 12) (orcs := [(12, .known true), (14, .known true), (16, .known true), (18, .known true), (20, .known true), (22, .known true), (24, .known true), (26, .known true), (28, .known true), (30, .known true), (33, .val (.dat .bool true))]) (kF := [0, 5, 25, 26, 27, 50]) (kL := [3, 7]) (fr' := [(0, aI a0), (5, .one (.fn 39 [(3, 0)])), (25, aD (.slice (.pair tI (.pair tI (.pair tI tI)))) a1), (26, aI (List.length a1 : Int)), (27, aI i76), (50, aB true)]) (L' := [(3, .cells [.dat (.slice (.pair tI (.pair tI (.pair tI tI)))) a1]), (7, .one (.pair tI (.pair tI (.pair tI tI))) v79)]) (obs := [((!r106) = true), ((!r106) = true), ((!r106) = true), ((!r106) = true), ((!r106) = true), ((!r106) = true)]) rfl (by kernel_rfl) (allP2 h108 (allP2 h108 (allP2 h108 (allP2 h108 (allP2 h108 (allP1 h108)))))) ?_
                    obtain rfl := Option.some.inj h
                    refine WO_fin [0, 5, 25, 26, 27, 50] [3] (fr' := [(0, aI a0), (5, .one (.fn 39 [(3, 0)])), (25, aD (.slice (.pair tI (.pair tI (.pair tI tI)))) a1), (26, aI (List.length a1 : Int)), (27, aI i76), (50, aB true)]) (L' := [(3, .cells [.dat (.slice (.pair tI (.pair tI (.pair tI tI)))) a1])]) (by kernel_rfl) (by kernel_rfl) ?_
                    exact exQ_mk (by kernel_rfl) (by kernel_rfl)
                  · replace h := ofF h108 h
                    refine WO_run (j := 10) (k := 4) (orcs := [(12, .known false), (14, .known false), (16, .known false), (18, .known false)]) (kF := [0, 5, 7, 25, 26, 27, 56, 60]) (kL := [3, 7]) (fr' := [(0, aI a0), (5, .one (.fn 39 [(3, 0)])), (7, .one (.ptr 7 0)), (25, aD (.slice (.pair tI (.pair tI (.pair tI tI)))) a1), (26, aI (List.length a1 : Int)), (27, aI i76), (56, aB (!r106)), (60, aB (v79.1 == (2 : Int)))]) (L' := [(3, .cells [.dat (.slice (.pair tI (.pair tI (.pair tI tI)))) a1]), (7, .one (.pair tI (.pair tI (.pair tI tI))) v79)]) (obs := [((!r106) = false), ((!r106) = false), ((!r106) = false), ((!r106) = false)]) rfl (by kernel_rfl) (allP2 h108 (allP2 h108 (allP2 h108 (allP1 h108)))) ?_
                    rcases Bool.eq_false_or_eq_true (v79.1 == (2 : Int)) with h109 | h109
                    · replace h := ofT h109 h
                      refine WO_run (j := 13) (k := 3) (orcs := [(20, .known true), (22, .known true), (24, .known true)]) (kF := [0, 5, 25, 26, 27, 56, 60, 61, 63]) (kL := [3, 7]) (fr' := [(0, aI a0), (5, .one (.fn 39 [(3, 0)])), (25, aD (.slice (.pair tI (.pair tI (.pair tI tI)))) a1), (26, aI (List.length a1 : Int)), (27, aI i76), (56, aB (!r106)), (60, aB (v79.1 == (2 : Int))), (61, .one (.fn 39 [(3, 0)])), (63, aI v79.2.2.2)]) (L' := [(3, .cells [.dat (.slice (.pair tI (.pair tI (.pair tI tI)))) a1]), (7, .one (.pair tI (.pair tI (.pair tI tI))) v79)]) (obs := [((v79.1 == (2 : Int)) = true), ((v79.1 == (2 : Int)) = true), ((v79.1 == (2 : Int)) = true)]) rfl (by kernel_rfl) (allP2 h109 (allP2 h109 (allP1 h109))) ?_
                      obtain ⟨r110, h111, h⟩ := bind_of h
                      refine WO_lend [(1000, 3)] (us := [none, none]) (d := 64) (p := ((v79.1 == (2 : Int)) = true)) (j := 14) rfl ⟨by kernel_rfl, by kernel_rfl, by kernel_rfl⟩ h109 (count_Check_1_ok h111) (by kernel_rfl) (by kernel_rfl) ?_
                      refine WO_run (j := 18) (k := 4) (orcs := [(28, .known true), (30, .known false), (31, .val (.dat .bool true)), (33, .val (.dat .bool false))]) (kF := [0, 5, 25, 26, 27, 50]) (kL := [3, 7]) (fr' := [(0, aI a0), (5, .one (.fn 39 [(3, 0)])), (25, aD (.slice (.pair tI (.pair tI (.pair tI tI)))) a1), (26, aI (List.length a1 : Int)), (27, aI i76), (50, aB (!r110))]) (L' := [(3, .cells [.dat (.slice (.pair tI (.pair tI (.pair tI tI)))) a1]), (7, .one (.pair tI (.pair tI (.pair tI tI))) v79)]) (obs := [((v79.1 == (2 : Int)) = true), ((!r106) = false), ((v79.1 == (2 : Int)) = true), ((!r106) = false)]) rfl (by kernel_rfl) (allP2 h109 (allP2 h108 (allP2 h109 (allP1 h108)))) ?_
                      obtain rfl := Option.some.inj h
                      refine WO_fin [0, 5, 25, 26, 27, 50] [3] (fr' := [(0, aI a0), (5, .one (.fn 39 [(3, 0)])), (25, aD (.slice (.pair tI (.pair tI (.pair tI tI)))) a1), (26, aI (List.length a1 : Int)), (27, aI i76), (50, aB (!r110))]) (L' := [(3, .cells [.dat (.slice (.pair tI (.pair tI (.pair tI tI)))) a1])]) (by kernel_rfl) (by kernel_rfl) ?_
                      exact exQ_mk (by kernel_rfl) (by kernel_rfl)
                    · replace h := ofF h109 h
                      refine WO_run (j := 18) (k := 8) (orcs := [(20, .known false), (22, .known false), (24, .known false), (26, .known false), (28, .known false), (30, .known false), (31, .val (.dat .bool false)), (33, .val (.dat .bool false))]) (kF := [0, 5, 25, 26, 27, 50]) (kL := [3, 7]) (fr' := [(0, aI a0), (5, .one (.fn 39 [(3, 0)])), (25, aD (.slice (.pair tI (.pair tI (.pair tI tI)))) a1), (26, aI (List.length a1 : Int)), (27, aI i76), (50, aB false)]) (L' := [(3, .cells [.dat (.slice (.pair tI (.pair tI (.pair tI tI)))) a1]), (7, .one (.pair tI (.pair tI (.pair tI tI))) v79)]) (obs := [((v79.1 == (2 : Int)) = false), ((v79.1 == (2 : Int)) = false), ((v79.1 == (2 : Int)) = false), ((v79.1 == (2 : Int)) = false), ((v79.1 == (2 : Int)) = false), ((!r106) = false), ((v79.1 == (2 : Int)) = false), ((!r106) = false)]) rfl (by kernel_rfl) (allP2 h109 (allP2 h109 (allP2 h109 (allP2 h109 (allP2 h109 (allP2 h108 (allP2 h109 (allP1 h108)))))))) ?_
                      obtain rfl := Option.some.inj h
                      refine WO_fin [0, 5, 25, 26, 27, 50] [3] (fr' := [(0, aI a0), (5, .one (.fn 39 [(3, 0)])), (25, aD (.slice (.pair tI (.pair tI (.pair tI tI)))) a1), (26, aI (List.length a1 : Int)), (27, aI i76), (50, aB false)]) (L' := [(3, .cells [.dat (.slice (.pair tI (.pair tI (.pair tI tI)))) a1])]) (by kernel_rfl) (by kernel_rfl) ?_
                      exact exQ_mk (by kernel_rfl) (by kernel_rfl)
                · intro e fr L hJ
                  obtain ⟨rfl, rfl, rfl⟩ := hJ
                  refine LT_keep [0, 5, 25, 26, 27, 50] [3] (fr' := [(0, aI a0), (5, .one (.fn 39 [(3, 0)])), (25, aD (.slice (.pair tI (.pair tI (.pair tI tI)))) a1), (26, aI (List.length a1 : Int)), (27, aI i76), (50, aB v112)]) (L' := [(3, .cells [.dat (.slice (.pair tI (.pair tI (.pair tI tI)))) a1])]) (by kernel_rfl) ?_
                  refine seqQ_norm ?_
                  refine W_cond (o := .tmp 50) (b := v112) (by kernel_rfl) (by kernel_rfl) (fun h114 => ?_) (fun h114 => ?_)
                  · replace h := ofT h114 h
                    refine W_seq (by kernel_rfl) ?_
                    refine W_run 1 [] [4] [] (fr' := [(4, aI (3 : Int))]) (L' := []) (obs := []) (by kernel_rfl) (by kernel_rfl) (by kernel_rfl) allP0 ?_
                    refine seqQ_norm ?_
                    obtain rfl := Option.some.inj h
                    refine W_ret [4] [] (fr' := [(4, aI (3 : Int))]) (L' := []) (by kernel_rfl) (by kernel_rfl) ?_
                    refine blockQ_ret ?_
                    refine blockQ_ret ?_
                    refine seqQ_ret ?_
                    refine round_ret ?_
                    refine escQ_ret ?_
                    exact exQ_mk (by kernel_rfl) (by kernel_rfl)
                  · replace h := ofF h114 h
                    refine W_skip [0, 5, 25, 26, 27] [3] (fr' := [(0, aI a0), (5, .one (.fn 39 [(3, 0)])), (25, aD (.slice (.pair tI (.pair tI (.pair tI tI)))) a1), (26, aI (List.length a1 : Int)), (27, aI i76)]) (L' := [(3, .cells [.dat (.slice (.pair tI (.pair tI (.pair tI tI)))) a1])]) (by kernel_rfl) (by kernel_rfl) ?_
                    refine blockQ_norm ?_
                    refine blockQ_norm ?_
                    refine seqQ_norm ?_
                    obtain rfl := Option.some.inj h
                    refine W_run 2 [] [0, 5, 25, 26, 27] [3] (fr' := [(0, aI a0), (5, .one (.fn 39 [(3, 0)])), (25, aD (.slice (.pair tI (.pair tI (.pair tI tI)))) a1), (26, aI (List.length a1 : Int)), (27, aI (w64 (i76 + (1 : Int))))]) (L' := [(3, .cells [.dat (.slice (.pair tI (.pair tI (.pair tI tI)))) a1])]) (obs := []) (by kernel_rfl) (by kernel_rfl) (by kernel_rfl) allP0 ?_
                    exact round_next' (by kernel_rfl) (by kernel_rfl)
      · obtain rfl := stepL_false h81 h
        refine W_exit (id := 0) [] [] (fr' := []) (L' := []) (by kernel_rfl) (by kernel_rfl) ?_
        refine seqQ_exit ?_
        refine round_exit ?_
        refine escQ_brk ?_
        exact exQ_mk (by kernel_rfl) (by kernel_rfl)
    · intro e fr L hJ
      rcases v116 with v121 | v122
      · obtain ⟨rfl, rfl, rfl⟩ := hJ
        obtain rfl := Option.some.inj h
        refine LT_keep [4] [] (fr' := [(4, aI v121)]) (L' := []) (by kernel_rfl) ?_
        refine blockQ_ret ?_
        refine seqQ_ret ?_
        exact retQ_mk (by kernel_rfl) (by kernel_rfl) (by kernel_rfl)
      · obtain ⟨rfl, rfl, rfl⟩ := hJ
        refine LT_keep [] [] (fr' := []) (L' := []) (by kernel_rfl) ?_
        refine blockQ_hit ?_
        refine seqQ_norm ?_
        refine W_seq (by kernel_rfl) ?_
        refine W_run 1 [] [4] [] (fr' := [(4, aI (0 : Int))]) (L' := []) (obs := []) (by kernel_rfl) (by kernel_rfl) (by kernel_rfl) allP0 ?_
        refine seqQ_norm ?_
        obtain rfl := Option.some.inj h
        refine W_ret [4] [] (fr' := [(4, aI (0 : Int))]) (L' := []) (by kernel_rfl) (by kernel_rfl) ?_
        exact retQ_mk (by kernel_rfl) (by kernel_rfl) (by kernel_rfl)

def ref_Within (a0 : Int) (a1 : Int) (a2 : Int) : Option Bool :=
some ((decide (a0 ≤ a1)) && (decide (a1 ≤ a2)))
theorem ref_Within_ok {a0 : Int} {a1 : Int} {a2 : Int} {r : Bool} (h : ref_Within a0 a1 a2 = some r) : FnC Try.prog 15 [aI a0, aI a1, aI a2] [] (aB r) [] := by
  refine fnC_of_W (B := bodyOf Try.f15) (n := 15) Try.func15 (by kernel_rfl) (by kernel_rfl) (by kernel_rfl) (by kernel_rfl) (by kernel_rfl) ?_
  intro K
  refine W_seq (by kernel_rfl) ?_
  refine W_run 1 [] [0, 1, 2] [] (fr' := [(0, aI a0), (1, aI a1), (2, aI a2)]) (L' := []) (obs := []) (by kernel_rfl) (by kernel_rfl) (by kernel_rfl) allP0 ?_
  refine seqQ_norm ?_
  refine W_seq (by kernel_rfl) ?_
  refine W_run 9 [] [6] [] (fr' := [(6, aB ((decide (a0 ≤ a1)) && (decide (a1 ≤ a2))))]) (L' := []) (obs := []) (by kernel_rfl) (by kernel_rfl) (by kernel_rfl) allP0 ?_
  refine seqQ_norm ?_
  obtain rfl := Option.some.inj h
  refine W_ret [6] [] (fr' := [(6, aB ((decide (a0 ≤ a1)) && (decide (a1 ≤ a2))))]) (L' := []) (by kernel_rfl) (by kernel_rfl) ?_
  exact retQ_mk (by kernel_rfl) (by kernel_rfl) (by kernel_rfl)

def ref_Inside_b1 (a0 : Int) (i11 : Int) (v14 : Int) (x12 : Unit) : Option (Flow Unit (Esc Bool Unit)) :=
bif (decide (v14 < (0 : Int))) || (decide (v14 ≥ a0)) then
(some (.done (.ret false)))
else
(some (.next ()))
@[reducible] def ref_Inside_s2 (a0 : Int) (a1 : (List Int)) (v : Int × Unit) : Fr × LL := ([(0, aI a0), (7, aD (.slice tI) a1), (8, aI (List.length a1 : Int)), (9, aI v.1)], [])
@[reducible] def ref_Inside_s3 (v : Bool) : Fr × LL := ([(4, aB v)], [])
@[reducible] def ref_Inside_s4 (v : Unit) : Fr × LL := ([], [])
def ref_Inside (a0 : Int) (a1 : (List Int)) : Option Bool :=
(forL (ref_Inside_b1 a0) (fun x12 => (.brk ())) a1 0 ()).bind fun v19 =>
match v19 with
| .ret v24 =>
(some v24)
| .brk v25 =>
(some true)
theorem ref_Inside_ok {a0 : Int} {a1 : (List Int)} {r : Bool} (h : ref_Inside a0 a1 = some r) : FnC Try.prog 51 [aI a0, aD (.slice tI) a1] [] (aB r) [] := by
  refine fnC_of_W (B := bodyOf Try.f51) (n := 21) Try.func51 (by kernel_rfl) (by kernel_rfl) (by kernel_rfl) (by kernel_rfl) (by kernel_rfl) ?_
  intro K
  refine W_seq (by kernel_rfl) ?_
  refine W_run 1 [] [0, 1] [] (fr' := [(0, aI a0), (1, aD (.slice tI) a1)]) (L' := []) (obs := []) (by kernel_rfl) (by kernel_rfl) (by kernel_rfl) allP0 ?_
  refine seqQ_norm ?_
  refine W_seq (by kernel_rfl) ?_
  refine W_seq (by kernel_rfl) ?_
  refine W_run 3 [] [0, 7, 8, 9] [] (fr' := [(0, aI a0), (7, aD (.slice tI) a1), (8, aI (List.length a1 : Int)), (9, aI (0 : Int))]) (L' := []) (obs := []) (by kernel_rfl) (by kernel_rfl) (by kernel_rfl) allP0 ?_
  refine seqQ_norm ?_
  refine W_block (id := 0) (by kernel_rfl) ?_
  obtain ⟨v19, h20, h⟩ := bind_of h
  refine W_len (t := 7) (u := tI) (xs := a1) (by kernel_rfl) (fun h23 => ?_)
  obtain ⟨h21, h22⟩ := forL_iter h23 h20
  refine W_weaken [0, 7, 8, 9] [] (fr' := ((ref_Inside_s2 a0 a1) ((0 : Int), ())).1) (L' := ((ref_Inside_s2 a0 a1) ((0 : Int), ())).2) (by kernel_rfl) ?_
  refine W_cutK (W_loop (S := (ref_Inside_s2 a0 a1)) (J := (escQ (exQ .ret ref_Inside_s3) (exQ (.exit 0) ref_Inside_s4))) (by kernel_rfl) ?_ h21 _ v19 h22) ?_
  · rintro ⟨i11, x12⟩ s h
    refine W_seq (by kernel_rfl) ?_
    refine W_run 1 [] [0, 7, 8, 9, 10] [] (fr' := [(0, aI a0), (7, aD (.slice tI) a1), (8, aI (List.length a1 : Int)), (9, aI i11), (10, aB (decide (i11 < (List.length a1 : Int))))]) (L' := []) (obs := []) (by kernel_rfl) (by kernel_rfl) (by kernel_rfl) allP0 ?_
    refine seqQ_norm ?_
    refine W_seq (by kernel_rfl) ?_
    refine W_cond (o := .tmp 10) (b := decide (i11 < (List.length a1 : Int))) (by kernel_rfl) (by kernel_rfl) (fun h16 => ?_) (fun h16 => ?_)
    · replace h := stepL_true h16 h
      obtain ⟨v14, _, h15, h, rfl⟩ := h
      refine W_skip [0, 7, 8, 9] [] (fr' := [(0, aI a0), (7, aD (.slice tI) a1), (8, aI (List.length a1 : Int)), (9, aI i11)]) (L' := []) (by kernel_rfl) (by kernel_rfl) ?_
      refine seqQ_norm ?_
      refine W_seq (by kernel_rfl) ?_
      refine W_block (id := 1) (by kernel_rfl) ?_
      refine W_seq (by kernel_rfl) ?_
      refine W_run 3 [(1, .val (.dat tI v14))] [0, 6, 7, 8, 9] [] (fr' := [(0, aI a0), (6, aI v14), (7, aD (.slice tI) a1), (8, aI (List.length a1 : Int)), (9, aI i11)]) (L' := []) (obs := [Idx a1 i11 v14]) (by kernel_rfl) (by kernel_rfl) (by kernel_rfl) (allP1 (Idx.of h15)) ?_
      refine seqQ_norm ?_
      refine W_seq (by kernel_rfl) ?_
      refine W_run 7 [] [0, 7, 8, 9, 19] [] (fr' := [(0, aI a0), (7, aD (.slice tI) a1), (8, aI (List.length a1 : Int)), (9, aI i11), (19, aB ((decide (v14 < (0 : Int))) || (decide (v14 ≥ a0))))]) (L' := []) (obs := []) (by kernel_rfl) (by kernel_rfl) (by kernel_rfl) allP0 ?_
      refine seqQ_norm ?_
      refine W_cond (o := .tmp 19) (b := (decide (v14 < (0 : Int))) || (decide (v14 ≥ a0))) (by kernel_rfl) (by kernel_rfl) (fun h17 => ?_) (fun h17 => ?_)
      · replace h := ofT h17 h
        refine W_seq (by kernel_rfl) ?_
        refine W_run 1 [] [4] [] (fr' := [(4, aB false)]) (L' := []) (obs := []) (by kernel_rfl) (by kernel_rfl) (by kernel_rfl) allP0 ?_
        refine seqQ_norm ?_
        obtain rfl := Option.some.inj h
        refine W_ret [4] [] (fr' := [(4, aB false)]) (L' := []) (by kernel_rfl) (by kernel_rfl) ?_
        refine blockQ_ret ?_
        refine seqQ_ret ?_
        refine round_ret ?_
        refine escQ_ret ?_
        exact exQ_mk (by kernel_rfl) (by kernel_rfl)
      · replace h := ofF h17 h
        refine W_skip [0, 7, 8, 9] [] (fr' := [(0, aI a0), (7, aD (.slice tI) a1), (8, aI (List.length a1 : Int)), (9, aI i11)]) (L' := []) (by kernel_rfl) (by kernel_rfl) ?_
        refine blockQ_norm ?_
        refine seqQ_norm ?_
        obtain rfl := Option.some.inj h
        refine W_run 2 [] [0, 7, 8, 9] [] (fr' := [(0, aI a0), (7, aD (.slice tI) a1), (8, aI (List.length a1 : Int)), (9, aI (w64 (i11 + (1 : Int))))]) (L' := []) (obs := []) (by kernel_rfl) (by kernel_rfl) (by kernel_rfl) allP0 ?_
        exact round_next' (by kernel_rfl) (by kernel_rfl)
    · obtain rfl := stepL_false h16 h
      refine W_exit (id := 0) [] [] (fr' := []) (L' := []) (by kernel_rfl) (by kernel_rfl) ?_
      refine seqQ_exit ?_
      refine round_exit ?_
      refine escQ_brk ?_
      exact exQ_mk (by kernel_rfl) (by kernel_rfl)
  · intro e fr L hJ
    rcases v19 with v24 | v25
    · obtain ⟨rfl, rfl, rfl⟩ := hJ
      obtain rfl := Option.some.inj h
      refine LT_keep [4] [] (fr' := [(4, aB v24)]) (L' := []) (by kernel_rfl) ?_
      refine blockQ_ret ?_
      refine seqQ_ret ?_
      exact retQ_mk (by kernel_rfl) (by kernel_rfl) (by kernel_rfl)
    · obtain ⟨rfl, rfl, rfl⟩ := hJ
      refine LT_keep [] [] (fr' := []) (L' := []) (by kernel_rfl) ?_
      refine blockQ_hit ?_
      refine seqQ_norm ?_
      refine W_seq (by kernel_rfl) ?_
      refine W_run 1 [] [4] [] (fr' := [(4, aB true)]) (L' := []) (obs := []) (by kernel_rfl) (by kernel_rfl) (by kernel_rfl) allP0 ?_
      refine seqQ_norm ?_
      obtain rfl := Option.some.inj h
      refine W_ret [4] [] (fr' := [(4, aB true)]) (L' := []) (by kernel_rfl) (by kernel_rfl) ?_
      exact retQ_mk (by kernel_rfl) (by kernel_rfl) (by kernel_rfl)

def ref_OrdersCheck_g7 (a1 : (List (Int × (Int × (Int × Int))))) (v72 : (Int × (Int × (Int × Int)))) : Option Bool :=
(ref_Inside (w64 ((List.length a1 : Int) + (1 : Int))) [v72.2.2.1]).bind fun r96 =>
bif !r96 then
(some true)
else
(bif v72.1 == (2 : Int) then
((ref_Inside (w64 ((List.length a1 : Int) + (1 : Int))) [v72.2.2.2]).bind fun r100 =>
some (!r100))
else
(some false))
@[reducible] def ref_OrdersCheck_s8 (a0 : Int) (a1 : (List (Int × (Int × (Int × Int))))) (i69 : Int) (v : Bool) : Fr × LL := ([(0, aI a0), (1, aD (.slice (.pair tI (.pair tI (.pair tI tI)))) a1), (7, aD (.slice (.pair tI (.pair tI (.pair tI tI)))) a1), (8, aI (List.length a1 : Int)), (9, aI i69), (49, aB v)], [])
@[reducible] def ref_OrdersCheck_s9 (a0 : Int) (a1 : (List (Int × (Int × (Int × Int))))) (i69 : Int) (v72 : (Int × (Int × (Int × Int)))) (v : Bool) : Fr × LL := ([(0, aI a0), (1, aD (.slice (.pair tI (.pair tI (.pair tI tI)))) a1), (6, .one (.ptr 6 0)), (7, aD (.slice (.pair tI (.pair tI (.pair tI tI)))) a1), (8, aI (List.length a1 : Int)), (9, aI i69), (20, aB v)], [(6, .one (.pair tI (.pair tI (.pair tI tI))) v72)])
def ref_OrdersCheck_b10 (a0 : Int) (a1 : (List (Int × (Int × (Int × Int))))) (i69 : Int) (v72 : (Int × (Int × (Int × Int)))) (x70 : Unit) : Option (Flow Unit (Esc Int Unit)) :=
(bif v72.1 != (1 : Int) then
(some (v72.1 != (2 : Int)))
else
(some false)).bind fun v78 =>
bif v78 then
(some (.done (.ret (6 : Int))))
else
((ref_Inside a0 [v72.2.1]).bind fun r81 =>
bif !r81 then
(some (.done (.ret (2 : Int))))
else
((ref_OrdersCheck_g7 a1 v72).bind fun v102 =>
bif v102 then
(some (.done (.ret (3 : Int))))
else
(some (.next ()))))
@[reducible] def ref_OrdersCheck_s11 (a0 : Int) (a1 : (List (Int × (Int × (Int × Int))))) (v : Int × Unit) : Fr × LL := ([(0, aI a0), (1, aD (.slice (.pair tI (.pair tI (.pair tI tI)))) a1), (7, aD (.slice (.pair tI (.pair tI (.pair tI tI)))) a1), (8, aI (List.length a1 : Int)), (9, aI v.1)], [])
@[reducible] def ref_OrdersCheck_s12 (v : Int) : Fr × LL := ([(4, aI v)], [])
@[reducible] def ref_OrdersCheck_s13 (v : Unit) : Fr × LL := ([], [])
def ref_OrdersCheck (a0 : Int) (a1 : (List (Int × (Int × (Int × Int))))) : Option Int :=
(forL (ref_OrdersCheck_b10 a0 a1) (fun x70 => (.brk ())) a1 0 ()).bind fun v106 =>
match v106 with
| .ret v111 =>
(some v111)
| .brk v112 =>
(some (0 : Int))
theorem ref_OrdersCheck_ok {a0 : Int} {a1 : (List (Int × (Int × (Int × Int))))} {r : Int} (h : ref_OrdersCheck a0 a1 = some r) : FnC Try.prog 40 [aI a0, aD (.slice (.pair tI (.pair tI (.pair tI tI)))) a1] [] (aI r) [] := by
  refine fnC_of_W (B := bodyOf Try.f40) (n := 51) Try.func40 (by kernel_rfl) (by kernel_rfl) (by kernel_rfl) (by kernel_rfl) (by kernel_rfl) ?_
  intro K
  refine W_seq (by kernel_rfl) ?_
  refine W_run 1 [] [0, 1] [] (fr' := [(0, aI a0), (1, aD (.slice (.pair tI (.pair tI (.pair tI tI)))) a1)]) (L' := []) (obs := []) (by kernel_rfl) (by kernel_rfl) (by kernel_rfl) allP0 ?_
  refine seqQ_norm ?_
  refine W_seq (by kernel_rfl) ?_
  refine W_seq (by kernel_rfl) ?_
  refine W_run 3 [] [0, 1, 7, 8, 9] [] (fr' := [(0, aI a0), (1, aD (.slice (.pair tI (.pair tI (.pair tI tI)))) a1), (7, aD (.slice (.pair tI (.pair tI (.pair tI tI)))) a1), (8, aI (List.length a1 : Int)), (9, aI (0 : Int))]) (L' := []) (obs := []) (by kernel_rfl) (by kernel_rfl) (by kernel_rfl) allP0 ?_
  refine seqQ_norm ?_
  refine W_block (id := 0) (by kernel_rfl) ?_
  obtain ⟨v106, h107, h⟩ := bind_of h
  refine W_len (t := 7) (u := (.pair tI (.pair tI (.pair tI tI)))) (xs := a1) (by kernel_rfl) (fun h110 => ?_)
  obtain ⟨h108, h109⟩ := forL_iter h110 h107
  refine W_weaken [0, 1, 7, 8, 9] [] (fr' := ((ref_OrdersCheck_s11 a0 a1) ((0 : Int), ())).1) (L' := ((ref_OrdersCheck_s11 a0 a1) ((0 : Int), ())).2) (by kernel_rfl) ?_
  refine W_cutK (W_loop (S := (ref_OrdersCheck_s11 a0 a1)) (J := (escQ (exQ .ret ref_OrdersCheck_s12) (exQ (.exit 0) ref_OrdersCheck_s13))) (by kernel_rfl) ?_ h108 _ v106 h109) ?_
  · rintro ⟨i69, x70⟩ s h
    refine W_seq (by kernel_rfl) ?_
    refine W_run 1 [] [0, 1, 7, 8, 9, 10] [] (fr' := [(0, aI a0), (1, aD (.slice (.pair tI (.pair tI (.pair tI tI)))) a1), (7, aD (.slice (.pair tI (.pair tI (.pair tI tI)))) a1), (8, aI (List.length a1 : Int)), (9, aI i69), (10, aB (decide (i69 < (List.length a1 : Int))))]) (L' := []) (obs := []) (by kernel_rfl) (by kernel_rfl) (by kernel_rfl) allP0 ?_
    refine seqQ_norm ?_
    refine W_seq (by kernel_rfl) ?_
    refine W_cond (o := .tmp 10) (b := decide (i69 < (List.length a1 : Int))) (by kernel_rfl) (by kernel_rfl) (fun h74 => ?_) (fun h74 => ?_)
    · replace h := stepL_true h74 h
      obtain ⟨v72, _, h73, h, rfl⟩ := h
      refine W_skip [0, 1, 7, 8, 9] [] (fr' := [(0, aI a0), (1, aD (.slice (.pair tI (.pair tI (.pair tI tI)))) a1), (7, aD (.slice (.pair tI (.pair tI (.pair tI tI)))) a1), (8, aI (List.length a1 : Int)), (9, aI i69)]) (L' := []) (by kernel_rfl) (by kernel_rfl) ?_
      refine seqQ_norm ?_
      refine W_seq (by kernel_rfl) ?_
      refine W_block (id := 1) (by kernel_rfl) ?_
      refine W_seq (by kernel_rfl) ?_
      refine W_run 4 [(1, .val (.dat (.pair tI (.pair tI (.pair tI tI))) v72)), (5, .typed)] [0, 1, 6, 7, 8, 9] [6] (fr' := [(0, aI a0), (1, aD (.slice (.pair tI (.pair tI (.pair tI tI)))) a1), (6, .one (.ptr 6 0)), (7, aD (.slice (.pair tI (.pair tI (.pair tI tI)))) a1), (8, aI (List.length a1 : Int)), (9, aI i69)]) (L' := [(6, .one (.pair tI (.pair tI (.pair tI tI))) v72)]) (obs := [Idx a1 i69 v72, True]) (by kernel_rfl) (by kernel_rfl) (by kernel_rfl) (allP2 (Idx.of h73) (allP1 trivial)) ?_
      refine seqQ_norm ?_
      refine W_seq (by kernel_rfl) ?_
      refine W_seq (by kernel_rfl) ?_
      obtain ⟨v78, h79, h⟩ := bind_of h
      refine W_cutK (Q' := (exQ .normal (ref_OrdersCheck_s9 a0 a1 i69 v72)) v78) ?_ ?_
      · replace h := h79
        refine W_region (by kernel_rfl) ?_
        refine WO_run (j := 4) (k := 4) (orcs := []) (kF := [0, 1, 6, 7, 8, 9, 16]) (kL := [6]) (fr' := [(0, aI a0), (1, aD (.slice (.pair tI (.pair tI (.pair tI tI)))) a1), (6, .one (.ptr 6 0)), (7, aD (.slice (.pair tI (.pair tI (.pair tI tI)))) a1), (8, aI (List.length a1 : Int)), (9, aI i69), (16, aB (v72.1 != (1 : Int)))]) (L' := [(6, .one (.pair tI (.pair tI (.pair tI tI))) v72)]) (obs := []) rfl (by kernel_rfl) allP0 ?_
        rcases Bool.eq_false_or_eq_true (v72.1 != (1 : Int)) with h77 | h77
        · replace h := ofT h77 h
          refine WO_run (j := 8) (k := 4) (orcs := [(8, .known true), (10, .known true), (12, .known true), (15, .val (.dat .bool true))]) (kF := [0, 1, 6, 7, 8, 9, 20]) (kL := [6]) (fr' := [(0, aI a0), (1, aD (.slice (.pair tI (.pair tI (.pair tI tI)))) a1), (6, .one (.ptr 6 0)), (7, aD (.slice (.pair tI (.pair tI (.pair tI tI)))) a1), (8, aI (List.length a1 : Int)), (9, aI i69), (20, aB (v72.1 != (2 : Int)))]) (L' := [(6, .one (.pair tI (.pair tI (.pair tI tI))) v72)]) (obs := [((v72.1 != (1 : Int)) = true), ((v72.1 != (1 : Int)) = true), ((v72.1 != (1 : Int)) = true), ((v72.1 != (1 : Int)) = true)]) rfl (by kernel_rfl) (allP2 h77 (allP2 h77 (allP2 h77 (allP1 h77)))) ?_
          obtain rfl := Option.some.inj h
          refine WO_fin [0, 1, 6, 7, 8, 9, 20] [6] (fr' := [(0, aI a0), (1, aD (.slice (.pair tI (.pair tI (.pair tI tI)))) a1), (6, .one (.ptr 6 0)), (7, aD (.slice (.pair tI (.pair tI (.pair tI tI)))) a1), (8, aI (List.length a1 : Int)), (9, aI i69), (20, aB (v72.1 != (2 : Int)))]) (L' := [(6, .one (.pair tI (.pair tI (.pair tI tI))) v72)]) (by kernel_rfl) (by kernel_rfl) ?_
          exact exQ_mk (by kernel_rfl) (by kernel_rfl)
        · replace h := ofF h77 h
          refine WO_run (j := 8) (k := 4) (orcs := [(8, .known false), (10, .known false), (12, .known false), (15, .val (.dat .bool false))]) (kF := [0, 1, 6, 7, 8, 9, 20]) (kL := [6]) (fr' := [(0, aI a0), (1, aD (.slice (.pair tI (.pair tI (.pair tI tI)))) a1), (6, .one (.ptr 6 0)), (7, aD (.slice (.pair tI (.pair tI (.pair tI tI)))) a1), (8, aI (List.length a1 : Int)), (9, aI i69), (20, aB false)]) (L' := [(6, .one (.pair tI (.pair tI (.pair tI tI))) v72)]) (obs := [((v72.1 != (1 : Int)) = false), ((v72.1 != (1 : Int)) = false), ((v72.1 != (1 : Int)) = false), ((v72.1 != (1 : Int)) = false)]) rfl (by kernel_rfl) (allP2 h77 (allP2 h77 (allP2 h77 (allP1 h77)))) ?_
          obtain rfl := Option.some.inj h
          refine WO_fin [0, 1, 6, 7, 8, 9, 20] [6] (fr' := [(0, aI a0), (1, aD (.slice (.pair tI (.pair tI (.pair tI tI)))) a1), (6, .one (.ptr 6 0)), (7, aD (.slice (.pair tI (.pair tI (.pair tI tI)))) a1), (8, aI (List.length a1 : Int)), (9, aI i69), (20, aB false)]) (L' := [(6, .one (.pair tI (.pair tI (.pair tI tI))) v72)]) (by kernel_rfl) (by kernel_rfl) ?_
          exact exQ_mk (by kernel_rfl) (by kernel_rfl)
      · intro e fr L hJ
        obtain ⟨rfl, rfl, rfl⟩ := hJ
        refine LT_keep [0, 1, 6, 7, 8, 9, 20] [6] (fr' := [(0, aI a0), (1, aD (.slice (.pair tI (.pair tI (.pair tI tI)))) a1), (6, .one (.ptr 6 0)), (7, aD (.slice (.pair tI (.pair tI (.pair tI tI)))) a1), (8, aI (List.length a1 : Int)), (9, aI i69), (20, aB v78)]) (L' := [(6, .one (.pair tI (.pair tI (.pair tI tI))) v72)]) (by kernel_rfl) ?_
        refine seqQ_norm ?_
        refine W_cond (o := .tmp 20) (b := v78) (by kernel_rfl) (by kernel_rfl) (fun h80 => ?_) (fun h80 => ?_)
        · replace h := ofT h80 h
          refine W_seq (by kernel_rfl) ?_
          refine W_run 1 [] [4] [] (fr' := [(4, aI (6 : Int))]) (L' := []) (obs := []) (by kernel_rfl) (by kernel_rfl) (by kernel_rfl) allP0 ?_
          refine seqQ_norm ?_
          obtain rfl := Option.some.inj h
          refine W_ret [4] [] (fr' := [(4, aI (6 : Int))]) (L' := []) (by kernel_rfl) (by kernel_rfl) ?_
          refine seqQ_ret ?_
          refine blockQ_ret ?_
          refine seqQ_ret ?_
          refine round_ret ?_
          refine escQ_ret ?_
          exact exQ_mk (by kernel_rfl) (by kernel_rfl)
        · replace h := ofF h80 h
          refine W_skip [0, 1, 6, 7, 8, 9] [6] (fr' := [(0, aI a0), (1, aD (.slice (.pair tI (.pair tI (.pair tI tI)))) a1), (6, .one (.ptr 6 0)), (7, aD (.slice (.pair tI (.pair tI (.pair tI tI)))) a1), (8, aI (List.length a1 : Int)), (9, aI i69)]) (L' := [(6, .one (.pair tI (.pair tI (.pair tI tI))) v72)]) (by kernel_rfl) (by kernel_rfl) ?_
          refine seqQ_norm ?_
          refine W_seq (by kernel_rfl) ?_
          refine W_seq (by kernel_rfl) ?_
          refine W_region (by kernel_rfl) ?_
          refine WO_run (j := 4) (k := 4) (orcs := []) (kF := [0, 1, 6, 7, 8, 9, 21, 24]) (kL := [6, 24]) (fr' := [(0, aI a0), (1, aD (.slice (.pair tI (.pair tI (.pair tI tI)))) a1), (6, .one (.ptr 6 0)), (7, aD (.slice (.pair tI (.pair tI (.pair tI tI)))) a1), (8, aI (List.length a1 : Int)), (9, aI i69), (21, aI a0), (24, .one (.slc 24))]) (L' := [(6, .one (.pair tI (.pair tI (.pair tI tI))) v72), (24, .seq tI [v72.2.1])]) (obs := []) rfl (by kernel_rfl) allP0 ?_
          obtain ⟨r81, h82, h⟩ := bind_of h
          refine WO_frz 24 (by kernel_rfl) ?_
          refine WO_call0 (us := [none, none]) (d := 25) (p := True) (j := 5) rfl ⟨by kernel_rfl, by kernel_rfl, by kernel_rfl⟩ trivial (ref_Inside_ok h82) (by kernel_rfl) ?_
          refine WO_run (j := 6) (k := 1) (orcs := []) (kF := [0, 1, 6, 7, 8, 9, 26]) (kL := [6]) (fr' := [(0, aI a0), (1, aD (.slice (.pair tI (.pair tI (.pair tI tI)))) a1), (6, .one (.ptr 6 0)), (7, aD (.slice (.pair tI (.pair tI (.pair tI tI)))) a1), (8, aI (List.length a1 : Int)), (9, aI i69), (26, aB (!r81))]) (L' := [(6, .one (.pair tI (.pair tI (.pair tI tI))) v72)]) (obs := []) rfl (by kernel_rfl) allP0 ?_
          refine WO_fin [0, 1, 6, 7, 8, 9, 26] [6] (fr' := [(0, aI a0), (1, aD (.slice (.pair tI (.pair tI (.pair tI tI)))) a1), (6, .one (.ptr 6 0)), (7, aD (.slice (.pair tI (.pair tI (.pair tI tI)))) a1), (8, aI (List.length a1 : Int)), (9, aI i69), (26, aB (!r81))]) (L' := [(6, .one (.pair tI (.pair tI (.pair tI tI))) v72)]) (by kernel_rfl) (by kernel_rfl) ?_
          refine seqQ_norm ?_
          refine W_cond (o := .tmp 26) (b := !r81) (by kernel_rfl) (by kernel_rfl) (fun h83 => ?_) (fun h83 => ?_)
          · replace h := ofT h83 h
            refine W_seq (by kernel_rfl) ?_
            refine W_run 1 [] [4] [] (fr' := [(4, aI (2 : Int))]) (L' := []) (obs := []) (by kernel_rfl) (by kernel_rfl) (by kernel_rfl) allP0 ?_
            refine seqQ_norm ?_
            obtain rfl := Option.some.inj h
            refine W_ret [4] [] (fr' := [(4, aI (2 : Int))]) (L' := []) (by kernel_rfl) (by kernel_rfl) ?_
            refine seqQ_ret ?_
            refine blockQ_ret ?_
            refine seqQ_ret ?_
            refine round_ret ?_
            refine escQ_ret ?_
            exact exQ_mk (by kernel_rfl) (by kernel_rfl)
          · replace h := ofF h83 h
            refine W_skip [0, 1, 6, 7, 8, 9] [6] (fr' := [(0, aI a0), (1, aD (.slice (.pair tI (.pair tI (.pair tI tI)))) a1), (6, .one (.ptr 6 0)), (7, aD (.slice (.pair tI (.pair tI (.pair tI tI)))) a1), (8, aI (List.length a1 : Int)), (9, aI i69)]) (L' := [(6, .one (.pair tI (.pair tI (.pair tI tI))) v72)]) (by kernel_rfl) (by kernel_rfl) ?_
            refine seqQ_norm ?_
            refine W_seq (by kernel_rfl) ?_
            obtain ⟨v102, h103, h⟩ := bind_of h
            refine W_cutK (Q' := (exQ .normal (ref_OrdersCheck_s8 a0 a1 i69)) v102) ?_ ?_
            · replace h := h103
              refine W_region (by kernel_rfl) ?_
              refine WO_run (j := 6) (k := 6) (orcs := []) (kF := [0, 1, 6, 7, 8, 9, 29, 32]) (kL := [6, 32]) (fr' := [(0, aI a0), (1, aD (.slice (.pair tI (.pair tI (.pair tI tI)))) a1), (6, .one (.ptr 6 0)), (7, aD (.slice (.pair tI (.pair tI (.pair tI tI)))) a1), (8, aI (List.length a1 : Int)), (9, aI i69), (29, aI (w64 ((List.length a1 : Int) + (1 : Int)))), (32, .one (.slc 32))]) (L' := [(6, .one (.pair tI (.pair tI (.pair tI tI))) v72), (32, .seq tI [v72.2.2.1])]) (obs := []) rfl (by kernel_rfl) allP0 ?_
              obtain ⟨r96, h97, h⟩ := bind_of h
              refine WO_frz 32 (by kernel_rfl) ?_
              refine WO_call0 (us := [none, none]) (d := 33) (p := True) (j := 7) rfl ⟨by kernel_rfl, by kernel_rfl, by kernel_rfl⟩ trivial (ref_Inside_ok h97) (by kernel_rfl) ?_
              refine WO_run (j := 9) (k := 2) (orcs := []) (kF := [0, 1, 6, 7, 8, 9, 35]) (kL := [6]) (fr' := [(0, aI a0), (1, aD (.slice (.pair tI (.pair tI (.pair tI tI)))) a1), (6, .one (.ptr 6 0)), (7, aD (.slice (.pair tI (.pair tI (.pair tI tI)))) a1), (8, aI (List.length a1 : Int)), (9, aI i69), (35, aB (!r96))]) (L' := [(6, .one (.pair tI (.pair tI (.pair tI tI))) v72)]) (obs := []) rfl (by kernel_rfl) allP0 ?_
              rcases Bool.eq_false_or_eq_true (!r96) with h98 | h98
              · replace h := ofT h98 h
                refine WO_run (j := 23) (k := 14) (orcs := [(18, .known true), (20, .known true), (22, .known true), (24, .known true), (26, .known true), (28, .known true), (30, .known true), (32, .known true), (34, .known true), (36, .known true), (38, .known true), (40, .known true), (42, .known true), (45, .val (.dat .bool true))]) (kF := [0, 1, 7, 8, 9, 49]) (kL := [6]) (fr' := [(0, aI a0), (1, aD (.slice (.pair tI (.pair tI (.pair tI tI)))) a1), (7, aD (.slice (.pair tI (.pair tI (.pair tI tI)))) a1), (8, aI (List.length a1 : Int)), (9, aI i69), (49, aB true)]) (L' := [(6, .one (.pair tI (.pair tI (.pair tI tI))) v72)]) (obs := [((!r96) = true), ((!r96) = true), ((!r96) = true), ((!r96) = true), ((!r96) = true), ((!r96) = true)]) rfl (by kernel_rfl) (allP2 h98 (allP2 h98 (allP2 h98 (allP2 h98 (allP2 h98 (allP1 h98)))))) ?_
                obtain rfl := Option.some.inj h
                refine WO_fin [0, 1, 7, 8, 9, 49] [] (fr' := [(0, aI a0), (1, aD (.slice (.pair tI (.pair tI (.pair tI tI)))) a1), (7, aD (.slice (.pair tI (.pair tI (.pair tI tI)))) a1), (8, aI (List.length a1 : Int)), (9, aI i69), (49, aB true)]) (L' := []) (by kernel_rfl) (by kernel_rfl) ?_
                exact exQ_mk (by kernel_rfl) (by kernel_rfl)
              · replace h := ofF h98 h
                refine WO_run (j := 13) (k := 4) (orcs := [(18, .known false), (20, .known false), (22, .known false), (24, .known false)]) (kF := [0, 1, 6, 7, 8, 9, 35, 39]) (kL := [6]) (fr' := [(0, aI a0), (1, aD (.slice (.pair tI (.pair tI (.pair tI tI)))) a1), (6, .one (.ptr 6 0)), (7, aD (.slice (.pair tI (.pair tI (.pair tI tI)))) a1), (8, aI (List.length a1 : Int)), (9, aI i69), (35, aB (!r96)), (39, aB (v72.1 == (2 : Int)))]) (L' := [(6, .one (.pair tI (.pair tI (.pair tI tI))) v72)]) (obs := [((!r96) = false), ((!r96) = false), ((!r96) = false), ((!r96) = false)]) rfl (by kernel_rfl) (allP2 h98 (allP2 h98 (allP2 h98 (allP1 h98)))) ?_
                rcases Bool.eq_false_or_eq_true (v72.1 == (2 : Int)) with h99 | h99
                · replace h := ofT h99 h
                  refine WO_run (j := 19) (k := 6) (orcs := [(26, .known true), (28, .known true), (30, .known true), (32, .known true), (34, .known true), (36, .known true)]) (kF := [0, 1, 7, 8, 9, 35, 39, 42, 45]) (kL := [6, 45]) (fr' := [(0, aI a0), (1, aD (.slice (.pair tI (.pair tI (.pair tI tI)))) a1), (7, aD (.slice (.pair tI (.pair tI (.pair tI tI)))) a1), (8, aI (List.length a1 : Int)), (9, aI i69), (35, aB (!r96)), (39, aB (v72.1 == (2 : Int))), (42, aI (w64 ((List.length a1 : Int) + (1 : Int)))), (45, .one (.slc 45))]) (L' := [(6, .one (.pair tI (.pair tI (.pair tI tI))) v72), (45, .seq tI [v72.2.2.2])]) (obs := [((v72.1 == (2 : Int)) = true), ((v72.1 == (2 : Int)) = true), ((v72.1 == (2 : Int)) = true), ((v72.1 == (2 : Int)) = true), ((v72.1 == (2 : Int)) = true), ((v72.1 == (2 : Int)) = true)]) rfl (by kernel_rfl) (allP2 h99 (allP2 h99 (allP2 h99 (allP2 h99 (allP2 h99 (allP1 h99)))))) ?_
                  obtain ⟨r100, h101, h⟩ := bind_of h
                  refine WO_frz 45 (by kernel_rfl) ?_
                  refine WO_call0 (us := [none, none]) (d := 46) (p := ((v72.1 == (2 : Int)) = true)) (j := 20) rfl ⟨by kernel_rfl, by kernel_rfl, by kernel_rfl⟩ h99 (ref_Inside_ok h101) (by kernel_rfl) ?_
                  refine WO_run (j := 23) (k := 3) (orcs := [(40, .known true), (42, .known false), (43, .val (.dat .bool true)), (45, .val (.dat .bool false))]) (kF := [0, 1, 7, 8, 9, 49]) (kL := [6]) (fr' := [(0, aI a0), (1, aD (.slice (.pair tI (.pair tI (.pair tI tI)))) a1), (7, aD (.slice (.pair tI (.pair tI (.pair tI tI)))) a1), (8, aI (List.length a1 : Int)), (9, aI i69), (49, aB (!r100))]) (L' := [(6, .one (.pair tI (.pair tI (.pair tI tI))) v72)]) (obs := [((v72.1 == (2 : Int)) = true), ((!r96) = false), ((v72.1 == (2 : Int)) = true), ((!r96) = false)]) rfl (by kernel_rfl) (allP2 h99 (allP2 h98 (allP2 h99 (allP1 h98)))) ?_
                  obtain rfl := Option.some.inj h
                  refine WO_fin [0, 1, 7, 8, 9, 49] [] (fr' := [(0, aI a0), (1, aD (.slice (.pair tI (.pair tI (.pair tI tI)))) a1), (7, aD (.slice (.pair tI (.pair tI (.pair tI tI)))) a1), (8, aI (List.length a1 : Int)), (9, aI i69), (49, aB (!r100))]) (L' := []) (by kernel_rfl) (by kernel_rfl) ?_
                  exact exQ_mk (by kernel_rfl) (by kernel_rfl)
                · replace h := ofF h99 h
                  refine WO_run (j := 23) (k := 10) (orcs := [(26, .known false), (28, .known false), (30, .known false), (32, .known false), (34, .known false), (36, .known false), (38, .known false), (40, .known false), (42, .known false), (43, .val (.dat .bool false)), (45, .val (.dat .bool false))]) (kF := [0, 1, 7, 8, 9, 49]) (kL := [6]) (fr' := [(0, aI a0), (1, aD (.slice (.pair tI (.pair tI (.pair tI tI)))) a1), (7, aD (.slice (.pair tI (.pair tI (.pair tI tI)))) a1), (8, aI (List.length a1 : Int)), (9, aI i69), (49, aB false)]) (L' := [(6, .one (.pair tI (.pair tI (.pair tI tI))) v72)]) (obs := [((v72.1 == (2 : Int)) = false), ((v72.1 == (2 : Int)) = false), ((v72.1 == (2 : Int)) = false), ((v72.1 == (2 : Int)) = false), ((v72.1 == (2 : Int)) = false), ((v72.1 == (2 : Int)) = false), ((v72.1 == (2 : Int)) = false), ((v72.1 == (2 : Int)) = false), ((!r96) = false), ((v72.1 == (2 : Int)) = false), ((!r96) = false)]) rfl (by kernel_rfl) (allP2 h99 (allP2 h99 (allP2 h99 (allP2 h99 (allP2 h99 (allP2 h99 (allP2 h99 (allP2 h99 (allP2 h98 (allP2 h99 (allP1 h98))))))))))) ?_
                  obtain rfl := Option.some.inj h
                  refine WO_fin [0, 1, 7, 8, 9, 49] [] (fr' := [(0, aI a0), (1, aD (.slice (.pair tI (.pair tI (.pair tI tI)))) a1), (7, aD (.slice (.pair tI (.pair tI (.pair tI tI)))) a1), (8, aI (List.length a1 : Int)), (9, aI i69), (49, aB false)]) (L' := []) (by kernel_rfl) (by kernel_rfl) ?_
                  exact exQ_mk (by kernel_rfl) (by kernel_rfl)
            · intro e fr L hJ
              obtain ⟨rfl, rfl, rfl⟩ := hJ
              refine LT_keep [0, 1, 7, 8, 9, 49] [] (fr' := [(0, aI a0), (1, aD (.slice (.pair tI (.pair tI (.pair tI tI)))) a1), (7, aD (.slice (.pair tI (.pair tI (.pair tI tI)))) a1), (8, aI (List.length a1 : Int)), (9, aI i69), (49, aB v102)]) (L' := []) (by kernel_rfl) ?_
              refine seqQ_norm ?_
              refine W_cond (o := .tmp 49) (b := v102) (by kernel_rfl) (by kernel_rfl) (fun h104 => ?_) (fun h104 => ?_)
              · replace h := ofT h104 h
                refine W_seq (by kernel_rfl) ?_
                refine W_run 1 [] [4] [] (fr' := [(4, aI (3 : Int))]) (L' := []) (obs := []) (by kernel_rfl) (by kernel_rfl) (by kernel_rfl) allP0 ?_
                refine seqQ_norm ?_
                obtain rfl := Option.some.inj h
                refine W_ret [4] [] (fr' := [(4, aI (3 : Int))]) (L' := []) (by kernel_rfl) (by kernel_rfl) ?_
                refine blockQ_ret ?_
                refine seqQ_ret ?_
                refine round_ret ?_
                refine escQ_ret ?_
                exact exQ_mk (by kernel_rfl) (by kernel_rfl)
              · replace h := ofF h104 h
                refine W_skip [0, 1, 7, 8, 9] [] (fr' := [(0, aI a0), (1, aD (.slice (.pair tI (.pair tI (.pair tI tI)))) a1), (7, aD (.slice (.pair tI (.pair tI (.pair tI tI)))) a1), (8, aI (List.length a1 : Int)), (9, aI i69)]) (L' := []) (by kernel_rfl) (by kernel_rfl) ?_
                refine blockQ_norm ?_
                refine seqQ_norm ?_
                obtain rfl := Option.some.inj h
                refine W_run 2 [] [0, 1, 7, 8, 9] [] (fr' := [(0, aI a0), (1, aD (.slice (.pair tI (.pair tI (.pair tI tI)))) a1), (7, aD (.slice (.pair tI (.pair tI (.pair tI tI)))) a1), (8, aI (List.length a1 : Int)), (9, aI (w64 (i69 + (1 : Int))))]) (L' := []) (obs := []) (by kernel_rfl) (by kernel_rfl) (by kernel_rfl) allP0 ?_
                exact round_next' (by kernel_rfl) (by kernel_rfl)
    · obtain rfl := stepL_false h74 h
      refine W_exit (id := 0) [] [] (fr' := []) (L' := []) (by kernel_rfl) (by kernel_rfl) ?_
      refine seqQ_exit ?_
      refine round_exit ?_
      refine escQ_brk ?_
      exact exQ_mk (by kernel_rfl) (by kernel_rfl)
  · intro e fr L hJ
    rcases v106 with v111 | v112
    · obtain ⟨rfl, rfl, rfl⟩ := hJ
      obtain rfl := Option.some.inj h
      refine LT_keep [4] [] (fr' := [(4, aI v111)]) (L' := []) (by kernel_rfl) ?_
      refine blockQ_ret ?_
      refine seqQ_ret ?_
      exact retQ_mk (by kernel_rfl) (by kernel_rfl) (by kernel_rfl)
    · obtain ⟨rfl, rfl, rfl⟩ := hJ
      refine LT_keep [] [] (fr' := []) (L' := []) (by kernel_rfl) ?_
      refine blockQ_hit ?_
      refine seqQ_norm ?_
      refine W_seq (by kernel_rfl) ?_
      refine W_run 1 [] [4] [] (fr' := [(4, aI (0 : Int))]) (L' := []) (obs := []) (by kernel_rfl) (by kernel_rfl) (by kernel_rfl) allP0 ?_
      refine seqQ_norm ?_
      obtain rfl := Option.some.inj h
      refine W_ret [4] [] (fr' := [(4, aI (0 : Int))]) (L' := []) (by kernel_rfl) (by kernel_rfl) ?_
      exact retQ_mk (by kernel_rfl) (by kernel_rfl) (by kernel_rfl)

def ref_CountCheck_g1 (a0 : Int) (a1 : (List (Int × (Int × (Int × Int))))) : Option Bool :=
(ref_Within (1 : Int) a0 (4 : Int)).bind fun r11 =>
bif !r11 then
(some true)
else
((ref_Within (1 : Int) (List.length a1 : Int) (12 : Int)).bind fun r14 =>
some (!r14))
@[reducible] def ref_CountCheck_s2 (a0 : Int) (a1 : (List (Int × (Int × (Int × Int))))) (v : Bool) : Fr × LL := ([(0, aI a0), (1, aD (.slice (.pair tI (.pair tI (.pair tI tI)))) a1), (13, aB v)], [])
def ref_CountCheck (a0 : Int) (a1 : (List (Int × (Int × (Int × Int))))) : Option Int :=
(ref_CountCheck_g1 a0 a1).bind fun v16 =>
bif v16 then
(some (1 : Int))
else
((ref_OrdersCheck a0 a1).bind fun r19 =>
some r19)
theorem ref_CountCheck_ok {a0 : Int} {a1 : (List (Int × (Int × (Int × Int))))} {r : Int} (h : ref_CountCheck a0 a1 = some r) : FnC Try.prog 23 [aI a0, aD (.slice (.pair tI (.pair tI (.pair tI tI)))) a1] [] (aI r) [] := by
  refine fnC_of_W (B := bodyOf Try.f23) (n := 17) Try.func23 (by kernel_rfl) (by kernel_rfl) (by kernel_rfl) (by kernel_rfl) (by kernel_rfl) ?_
  intro K
  refine W_seq (by kernel_rfl) ?_
  refine W_run 1 [] [0, 1] [] (fr' := [(0, aI a0), (1, aD (.slice (.pair tI (.pair tI (.pair tI tI)))) a1)]) (L' := []) (obs := []) (by kernel_rfl) (by kernel_rfl) (by kernel_rfl) allP0 ?_
  refine seqQ_norm ?_
  refine W_seq (by kernel_rfl) ?_
  refine W_seq (by kernel_rfl) ?_
  obtain ⟨v16, h17, h⟩ := bind_of h
  refine W_cutK (Q' := (exQ .normal (ref_CountCheck_s2 a0 a1)) v16) ?_ ?_
  · replace h := h17
    refine W_region (by kernel_rfl) ?_
    refine WO_run (j := 1) (k := 1) (orcs := []) (kF := [0, 1, 5]) (kL := []) (fr' := [(0, aI a0), (1, aD (.slice (.pair tI (.pair tI (.pair tI tI)))) a1), (5, aI a0)]) (L' := []) (obs := []) rfl (by kernel_rfl) allP0 ?_
    obtain ⟨r11, h12, h⟩ := bind_of h
    refine WO_call0 (us := [none, none, none]) (d := 6) (p := True) (j := 2) rfl ⟨by kernel_rfl, by kernel_rfl, by kernel_rfl⟩ trivial (ref_Within_ok h12) (by kernel_rfl) ?_
    refine WO_run (j := 4) (k := 2) (orcs := []) (kF := [0, 1, 8]) (kL := []) (fr' := [(0, aI a0), (1, aD (.slice (.pair tI (.pair tI (.pair tI tI)))) a1), (8, aB (!r11))]) (L' := []) (obs := []) rfl (by kernel_rfl) allP0 ?_
    rcases Bool.eq_false_or_eq_true (!r11) with h13 | h13
    · replace h := ofT h13 h
      refine WO_run (j := 9) (k := 5) (orcs := [(8, .known true), (10, .known true), (12, .known true), (14, .known true), (17, .val (.dat .bool true))]) (kF := [0, 1, 13]) (kL := []) (fr' := [(0, aI a0), (1, aD (.slice (.pair tI (.pair tI (.pair tI tI)))) a1), (13, aB true)]) (L' := []) (obs := [((!r11) = true), ((!r11) = true), ((!r11) = true), ((!r11) = true), ((!r11) = true)]) rfl (by kernel_rfl) (allP2 h13 (allP2 h13 (allP2 h13 (allP2 h13 (allP1 h13))))) ?_
      obtain rfl := Option.some.inj h
      refine WO_fin [0, 1, 13] [] (fr' := [(0, aI a0), (1, aD (.slice (.pair tI (.pair tI (.pair tI tI)))) a1), (13, aB true)]) (L' := []) (by kernel_rfl) (by kernel_rfl) ?_
      exact exQ_mk (by kernel_rfl) (by kernel_rfl)
    · replace h := ofF h13 h
      refine WO_run (j := 6) (k := 2) (orcs := [(8, .known false), (10, .known false)]) (kF := [0, 1, 8, 10]) (kL := []) (fr' := [(0, aI a0), (1, aD (.slice (.pair tI (.pair tI (.pair tI tI)))) a1), (8, aB (!r11)), (10, aI (List.length a1 : Int))]) (L' := []) (obs := [((!r11) = false), ((!r11) = false)]) rfl (by kernel_rfl) (allP2 h13 (allP1 h13)) ?_
      obtain ⟨r14, h15, h⟩ := bind_of h
      refine WO_call0 (us := [none, none, none]) (d := 11) (p := ((!r11) = false)) (j := 7) rfl ⟨by kernel_rfl, by kernel_rfl, by kernel_rfl⟩ h13 (ref_Within_ok h15) (by kernel_rfl) ?_
      refine WO_run (j := 9) (k := 2) (orcs := [(14, .known false), (17, .val (.dat .bool false))]) (kF := [0, 1, 13]) (kL := []) (fr' := [(0, aI a0), (1, aD (.slice (.pair tI (.pair tI (.pair tI tI)))) a1), (13, aB (!r14))]) (L' := []) (obs := [((!r11) = false), ((!r11) = false)]) rfl (by kernel_rfl) (allP2 h13 (allP1 h13)) ?_
      obtain rfl := Option.some.inj h
      refine WO_fin [0, 1, 13] [] (fr' := [(0, aI a0), (1, aD (.slice (.pair tI (.pair tI (.pair tI tI)))) a1), (13, aB (!r14))]) (L' := []) (by kernel_rfl) (by kernel_rfl) ?_
      exact exQ_mk (by kernel_rfl) (by kernel_rfl)
  · intro e fr L hJ
    obtain ⟨rfl, rfl, rfl⟩ := hJ
    refine LT_keep [0, 1, 13] [] (fr' := [(0, aI a0), (1, aD (.slice (.pair tI (.pair tI (.pair tI tI)))) a1), (13, aB v16)]) (L' := []) (by kernel_rfl) ?_
    refine seqQ_norm ?_
    refine W_cond (o := .tmp 13) (b := v16) (by kernel_rfl) (by kernel_rfl) (fun h18 => ?_) (fun h18 => ?_)
    · replace h := ofT h18 h
      refine W_seq (by kernel_rfl) ?_
      refine W_run 1 [] [4] [] (fr' := [(4, aI (1 : Int))]) (L' := []) (obs := []) (by kernel_rfl) (by kernel_rfl) (by kernel_rfl) allP0 ?_
      refine seqQ_norm ?_
      obtain rfl := Option.some.inj h
      refine W_ret [4] [] (fr' := [(4, aI (1 : Int))]) (L' := []) (by kernel_rfl) (by kernel_rfl) ?_
      refine seqQ_ret ?_
      exact retQ_mk (by kernel_rfl) (by kernel_rfl) (by kernel_rfl)
    · replace h := ofF h18 h
      refine W_skip [0, 1] [] (fr' := [(0, aI a0), (1, aD (.slice (.pair tI (.pair tI (.pair tI tI)))) a1)]) (L' := []) (by kernel_rfl) (by kernel_rfl) ?_
      refine seqQ_norm ?_
      refine W_seq (by kernel_rfl) ?_
      refine W_region (by kernel_rfl) ?_
      refine WO_run (j := 2) (k := 2) (orcs := []) (kF := [14, 15]) (kL := []) (fr' := [(14, aI a0), (15, aD (.slice (.pair tI (.pair tI (.pair tI tI)))) a1)]) (L' := []) (obs := []) rfl (by kernel_rfl) allP0 ?_
      obtain ⟨r19, h20, h⟩ := bind_of h
      refine WO_call0 (us := [none, none]) (d := 16) (p := True) (j := 3) rfl ⟨by kernel_rfl, by kernel_rfl, by kernel_rfl⟩ trivial (ref_OrdersCheck_ok h20) (by kernel_rfl) ?_
      refine WO_run (j := 4) (k := 1) (orcs := []) (kF := [4]) (kL := []) (fr' := [(4, aI r19)]) (L' := []) (obs := []) rfl (by kernel_rfl) allP0 ?_
      refine WO_fin [4] [] (fr' := [(4, aI r19)]) (L' := []) (by kernel_rfl) (by kernel_rfl) ?_
      refine seqQ_norm ?_
      obtain rfl := Option.some.inj h
      refine W_ret [4] [] (fr' := [(4, aI r19)]) (L' := []) (by kernel_rfl) (by kernel_rfl) ?_
      exact retQ_mk (by kernel_rfl) (by kernel_rfl) (by kernel_rfl)

def law_CountChecks (a0 : Int) (a1 : (List (Int × (Int × (Int × Int))))) : Option Bool :=
(count_Check a0 a1).bind fun r1 =>
(ref_CountCheck a0 a1).bind fun r3 =>
some (r1 == r3)
theorem law_CountChecks_ok {a0 : Int} {a1 : (List (Int × (Int × (Int × Int))))} {r : Bool} (h : law_CountChecks a0 a1 = some r) : FnC Try.prog 9 [aI a0, aD (.slice (.pair tI (.pair tI (.pair tI tI)))) a1] [] (aB r) [] := by
  refine fnC_of_W (B := bodyOf Try.f9) (n := 12) Try.func9 (by kernel_rfl) (by kernel_rfl) (by kernel_rfl) (by kernel_rfl) (by kernel_rfl) ?_
  intro K
  refine W_seq (by kernel_rfl) ?_
  refine W_run 1 [] [0, 1] [] (fr' := [(0, aI a0), (1, aD (.slice (.pair tI (.pair tI (.pair tI tI)))) a1)]) (L' := []) (obs := []) (by kernel_rfl) (by kernel_rfl) (by kernel_rfl) allP0 ?_
  refine seqQ_norm ?_
  refine W_seq (by kernel_rfl) ?_
  refine W_region (by kernel_rfl) ?_
  refine WO_run (j := 2) (k := 2) (orcs := []) (kF := [0, 1, 5, 6]) (kL := []) (fr' := [(0, aI a0), (1, aD (.slice (.pair tI (.pair tI (.pair tI tI)))) a1), (5, aI a0), (6, aD (.slice (.pair tI (.pair tI (.pair tI tI)))) a1)]) (L' := []) (obs := []) rfl (by kernel_rfl) allP0 ?_
  obtain ⟨r1, h2, h⟩ := bind_of h
  refine WO_call0 (us := [none, none]) (d := 7) (p := True) (j := 3) rfl ⟨by kernel_rfl, by kernel_rfl, by kernel_rfl⟩ trivial (count_Check_ok h2) (by kernel_rfl) ?_
  refine WO_run (j := 5) (k := 2) (orcs := []) (kF := [7, 8, 9]) (kL := []) (fr' := [(7, aI r1), (8, aI a0), (9, aD (.slice (.pair tI (.pair tI (.pair tI tI)))) a1)]) (L' := []) (obs := []) rfl (by kernel_rfl) allP0 ?_
  obtain ⟨r3, h4, h⟩ := bind_of h
  refine WO_call0 (us := [none, none]) (d := 10) (p := True) (j := 6) rfl ⟨by kernel_rfl, by kernel_rfl, by kernel_rfl⟩ trivial (ref_CountCheck_ok h4) (by kernel_rfl) ?_
  refine WO_run (j := 8) (k := 2) (orcs := []) (kF := [4]) (kL := []) (fr' := [(4, aB (r1 == r3))]) (L' := []) (obs := []) rfl (by kernel_rfl) allP0 ?_
  refine WO_fin [4] [] (fr' := [(4, aB (r1 == r3))]) (L' := []) (by kernel_rfl) (by kernel_rfl) ?_
  refine seqQ_norm ?_
  obtain rfl := Option.some.inj h
  refine W_ret [4] [] (fr' := [(4, aB (r1 == r3))]) (L' := []) (by kernel_rfl) (by kernel_rfl) ?_
  exact retQ_mk (by kernel_rfl) (by kernel_rfl) (by kernel_rfl)
end Go.Proofs.Ytmongadolmofnaa.countChecks
