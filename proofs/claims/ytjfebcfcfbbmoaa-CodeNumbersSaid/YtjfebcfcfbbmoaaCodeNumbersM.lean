/- What the functions that CodeNumbers calls compute, as models, and that they compute it: written by a program of mine. -/
import Derived.Test.YtjfebcfcfbbmoaaProg
import Derived.Test.YtjfebcfcfbbmoaaSl3
set_option linter.all false
set_option maxRecDepth 100000
namespace Go.Proofs.Ytjfebcfcfbbmoaa.codeNumbers
open Go Go.Sl
def count_Check_1 (a0 : Int) (c0 : (List (Int × (Int × (Int × Int))))) : Option Bool :=
some ((decide (a0 ≥ (0 : Int))) && (decide (a0 ≤ (List.length c0 : Int))))
theorem count_Check_1_ok {a0 : Int} {c0 : (List (Int × (Int × (Int × Int))))} {r : Bool} (h : count_Check_1 a0 c0 = some r) : FnC Try.prog 54 [aI a0, .one (.ptr 1000 0)] [(1000, .cells [.dat (.slice (.pair tI (.pair tI (.pair tI tI)))) c0])] (aB r) [(1000, .cells [.dat (.slice (.pair tI (.pair tI (.pair tI tI)))) c0])] := by
  refine fnC_of_W (B := bodyOf Try.f54) (n := 12) Try.func54 (by kernel_rfl) (by kernel_rfl) (by kernel_rfl) (by kernel_rfl) (by kernel_rfl) ?_
  intro K
  refine W_seq (by kernel_rfl) ?_
  refine W_run 1 [] [0, 1] [1000] (fr' := [(0, aI a0), (1, .one (.ptr 1000 0))]) (L' := [(1000, .cells [.dat (.slice (.pair tI (.pair tI (.pair tI tI)))) c0])]) (obs := []) (by kernel_rfl) (by kernel_rfl) (by kernel_rfl) allP0 ?_
  refine seqQ_norm ?_
  refine W_seq (by kernel_rfl) ?_
  refine W_run 9 [] [3] [1000] (fr' := [(3, aB ((decide (a0 ≥ (0 : Int))) && (decide (a0 ≤ (List.length c0 : Int)))))]) (L' := [(1000, .cells [.dat (.slice (.pair tI (.pair tI (.pair tI tI)))) c0])]) (obs := []) (by kernel_rfl) (by kernel_rfl) (by kernel_rfl) allP0 ?_
  refine seqQ_norm ?_
  obtain rfl := Option.some.inj h
  refine W_ret [3] [1000] (fr' := [(3, aB ((decide (a0 ≥ (0 : Int))) && (decide (a0 ≤ (List.length c0 : Int)))))]) (L' := [(1000, .cells [.dat (.slice (.pair tI (.pair tI (.pair tI tI)))) c0])]) (by kernel_rfl) (by kernel_rfl) ?_
  exact retQ_mk (by kernel_rfl) (by kernel_rfl) (by kernel_rfl)

def count_Check_g9 (a1 : (List (Int × (Int × (Int × Int))))) (v79 : (Int × (Int × (Int × Int)))) : Option Bool :=
(count_Check_1 v79.2.2.1 a1).bind fun r106 =>
bif !r106 then
(some true)
else
(bif v79.1 == (2 : Int) then
((count_Check_1 v79.2.2.2 a1).bind fun r110 =>
some (!r110))
else
(some false))
@[reducible] def count_Check_s10 (a0 : Int) (a1 : (List (Int × (Int × (Int × Int))))) (i76 : Int) (v : Bool) : Fr × LL := ([(0, aI a0), (5, .one (.fn 54 [(3, 0)])), (25, aD (.slice (.pair tI (.pair tI (.pair tI tI)))) a1), (26, aI (List.length a1 : Int)), (27, aI i76), (50, aB v)], [(3, .cells [.dat (.slice (.pair tI (.pair tI (.pair tI tI)))) a1])])
@[reducible] def count_Check_s11 (a0 : Int) (a1 : (List (Int × (Int × (Int × Int))))) (i76 : Int) (v79 : (Int × (Int × (Int × Int)))) (v : Bool) : Fr × LL := ([(0, aI a0), (5, .one (.fn 54 [(3, 0)])), (7, .one (.ptr 7 0)), (25, aD (.slice (.pair tI (.pair tI (.pair tI tI)))) a1), (26, aI (List.length a1 : Int)), (27, aI i76), (40, aB v)], [(3, .cells [.dat (.slice (.pair tI (.pair tI (.pair tI tI)))) a1]), (7, .one (.pair tI (.pair tI (.pair tI tI))) v79)])
@[reducible] def count_Check_s12 (a0 : Int) (a1 : (List (Int × (Int × (Int × Int))))) (i76 : Int) (v79 : (Int × (Int × (Int × Int)))) (v : Bool) : Fr × LL := ([(0, aI a0), (5, .one (.fn 54 [(3, 0)])), (7, .one (.ptr 7 0)), (25, aD (.slice (.pair tI (.pair tI (.pair tI tI)))) a1), (26, aI (List.length a1 : Int)), (27, aI i76), (31, aB v)], [(3, .cells [.dat (.slice (.pair tI (.pair tI (.pair tI tI)))) a1]), (7, .one (.pair tI (.pair tI (.pair tI tI))) v79)])
def count_Check_b13 (a0 : Int) (a1 : (List (Int × (Int × (Int × Int))))) (i76 : Int) (v79 : (Int × (Int × (Int × Int)))) (x77 : Unit) : Option (Flow Unit (Esc Int Unit)) :=
(bif v79.1 != (1 : Int) then
(some (v79.1 != (2 : Int)))
else
(some false)).bind fun v85 =>
bif v85 then
(some (.done (.ret (6 : Int))))
else
((bif decide (v79.2.1 < (0 : Int)) then
(some true)
else
(some (decide (v79.2.1 ≥ a0)))).bind fun v91 =>
bif v91 then
(some (.done (.ret (2 : Int))))
else
((count_Check_g9 a1 v79).bind fun v112 =>
bif v112 then
(some (.done (.ret (3 : Int))))
else
(some (.next ()))))
@[reducible] def count_Check_s14 (a0 : Int) (a1 : (List (Int × (Int × (Int × Int))))) (v : Int × Unit) : Fr × LL := ([(0, aI a0), (5, .one (.fn 54 [(3, 0)])), (25, aD (.slice (.pair tI (.pair tI (.pair tI tI)))) a1), (26, aI (List.length a1 : Int)), (27, aI v.1)], [(3, .cells [.dat (.slice (.pair tI (.pair tI (.pair tI tI)))) a1])])
@[reducible] def count_Check_s15 (v : Int) : Fr × LL := ([(4, aI v)], [])
@[reducible] def count_Check_s16 (v : Unit) : Fr × LL := ([], [])
def count_Check (a0 : Int) (a1 : (List (Int × (Int × (Int × Int))))) : Option Int :=
bif (((decide (a0 < (1 : Int))) || (decide (a0 > (4 : Int)))) || (decide ((List.length a1 : Int) < (1 : Int)))) || (decide ((List.length a1 : Int) > (12 : Int))) then
(some (1 : Int))
else
((forL (count_Check_b13 a0 a1) (fun x77 => (.brk ())) a1 0 ()).bind fun v116 =>
match v116 with
| .ret v121 =>
(some v121)
| .brk v122 =>
(some (0 : Int)))
theorem count_Check_ok {a0 : Int} {a1 : (List (Int × (Int × (Int × Int))))} {r : Int} (h : count_Check a0 a1 = some r) : FnC Try.prog 39 [aI a0, aD (.slice (.pair tI (.pair tI (.pair tI tI)))) a1] [] (aI r) [] := by
  refine fnC_of_W (B := bodyOf Try.f39) (n := 69) Try.func39 (by kernel_rfl) (by kernel_rfl) (by kernel_rfl) (by kernel_rfl) (by kernel_rfl) ?_
  intro K
  refine W_seq (by kernel_rfl) ?_
  refine W_run 2 [] [0, 3] [3] (fr' := [(0, aI a0), (3, .one (.ptr 3 0))]) (L' := [(3, .cells [.dat (.slice (.pair tI (.pair tI (.pair tI tI)))) a1])]) (obs := []) (by kernel_rfl) (by kernel_rfl) (by kernel_rfl) allP0 ?_
  refine seqQ_norm ?_
  refine W_seq (by kernel_rfl) ?_
  refine W_seq (by kernel_rfl) ?_
  refine W_run 16 [] [0, 3, 23] [3] (fr' := [(0, aI a0), (3, .one (.ptr 3 0)), (23, aB ((((decide (a0 < (1 : Int))) || (decide (a0 > (4 : Int)))) || (decide ((List.length a1 : Int) < (1 : Int)))) || (decide ((List.length a1 : Int) > (12 : Int)))))]) (L' := [(3, .cells [.dat (.slice (.pair tI (.pair tI (.pair tI tI)))) a1])]) (obs := []) (by kernel_rfl) (by kernel_rfl) (by kernel_rfl) allP0 ?_
  refine seqQ_norm ?_
  refine W_cond (o := .tmp 23) (b := (((decide (a0 < (1 : Int))) || (decide (a0 > (4 : Int)))) || (decide ((List.length a1 : Int) < (1 : Int)))) || (decide ((List.length a1 : Int) > (12 : Int)))) (by kernel_rfl) (by kernel_rfl) (fun h1 => ?_) (fun h1 => ?_)
  · replace h := ofT h1 h
    refine W_seq (by kernel_rfl) ?_
    refine W_run 1 [] [4] [] (fr' := [(4, aI (1 : Int))]) (L' := []) (obs := []) (by kernel_rfl) (by kernel_rfl) (by kernel_rfl) allP0 ?_
    refine seqQ_norm ?_
    obtain rfl := Option.some.inj h
    refine W_ret [4] [] (fr' := [(4, aI (1 : Int))]) (L' := []) (by kernel_rfl) (by kernel_rfl) ?_
    refine seqQ_ret ?_
    exact retQ_mk (by kernel_rfl) (by kernel_rfl) (by kernel_rfl)
  · replace h := ofF h1 h
    refine W_skip [0, 3] [3] (fr' := [(0, aI a0), (3, .one (.ptr 3 0))]) (L' := [(3, .cells [.dat (.slice (.pair tI (.pair tI (.pair tI tI)))) a1])]) (by kernel_rfl) (by kernel_rfl) ?_
    refine seqQ_norm ?_
    refine W_seq (by kernel_rfl) ?_
    refine W_run 2 [] [0, 3, 5] [3] (fr' := [(0, aI a0), (3, .one (.ptr 3 0)), (5, .one (.fn 54 [(3, 0)]))]) (L' := [(3, .cells [.dat (.slice (.pair tI (.pair tI (.pair tI tI)))) a1])]) (obs := []) (by kernel_rfl) (by kernel_rfl) (by kernel_rfl) allP0 ?_
    refine seqQ_norm ?_
    refine W_seq (by kernel_rfl) ?_
    refine W_seq (by kernel_rfl) ?_
    refine W_run 3 [] [0, 5, 25, 26, 27] [3] (fr' := [(0, aI a0), (5, .one (.fn 54 [(3, 0)])), (25, aD (.slice (.pair tI (.pair tI (.pair tI tI)))) a1), (26, aI (List.length a1 : Int)), (27, aI (0 : Int))]) (L' := [(3, .cells [.dat (.slice (.pair tI (.pair tI (.pair tI tI)))) a1])]) (obs := []) (by kernel_rfl) (by kernel_rfl) (by kernel_rfl) allP0 ?_
    refine seqQ_norm ?_
    refine W_block (id := 0) (by kernel_rfl) ?_
    obtain ⟨v116, h117, h⟩ := bind_of h
    refine W_len (t := 25) (u := (.pair tI (.pair tI (.pair tI tI)))) (xs := a1) (by kernel_rfl) (fun h120 => ?_)
    obtain ⟨h118, h119⟩ := forL_iter h120 h117
    refine W_weaken [0, 5, 25, 26, 27] [3] (fr' := ((count_Check_s14 a0 a1) ((0 : Int), ())).1) (L' := ((count_Check_s14 a0 a1) ((0 : Int), ())).2) (by kernel_rfl) ?_
    refine W_cutK (W_loop (S := (count_Check_s14 a0 a1)) (J := (escQ (exQ .ret count_Check_s15) (exQ (.exit 0) count_Check_s16))) (by kernel_rfl) ?_ h118 _ v116 h119) ?_
    · rintro ⟨i76, x77⟩ s h
      refine W_seq (by kernel_rfl) ?_
      refine W_run 1 [] [0, 5, 25, 26, 27, 28] [3] (fr' := [(0, aI a0), (5, .one (.fn 54 [(3, 0)])), (25, aD (.slice (.pair tI (.pair tI (.pair tI tI)))) a1), (26, aI (List.length a1 : Int)), (27, aI i76), (28, aB (decide (i76 < (List.length a1 : Int))))]) (L' := [(3, .cells [.dat (.slice (.pair tI (.pair tI (.pair tI tI)))) a1])]) (obs := []) (by kernel_rfl) (by kernel_rfl) (by kernel_rfl) allP0 ?_
      refine seqQ_norm ?_
      refine W_seq (by kernel_rfl) ?_
      refine W_cond (o := .tmp 28) (b := decide (i76 < (List.length a1 : Int))) (by kernel_rfl) (by kernel_rfl) (fun h81 => ?_) (fun h81 => ?_)
      · replace h := stepL_true h81 h
        obtain ⟨v79, _, h80, h, rfl⟩ := h
        refine W_skip [0, 5, 25, 26, 27] [3] (fr' := [(0, aI a0), (5, .one (.fn 54 [(3, 0)])), (25, aD (.slice (.pair tI (.pair tI (.pair tI tI)))) a1), (26, aI (List.length a1 : Int)), (27, aI i76)]) (L' := [(3, .cells [.dat (.slice (.pair tI (.pair tI (.pair tI tI)))) a1])]) (by kernel_rfl) (by kernel_rfl) ?_
        refine seqQ_norm ?_
        refine W_seq (by kernel_rfl) ?_
        refine W_block (id := 1) (by kernel_rfl) ?_
        refine W_seq (by kernel_rfl) ?_
        refine W_run 4 [(1, .val (.dat (.pair tI (.pair tI (.pair tI tI))) v79)), (5, .typed)] [0, 5, 7, 25, 26, 27] [3, 7] (fr' := [(0, aI a0), (5, .one (.fn 54 [(3, 0)])), (7, .one (.ptr 7 0)), (25, aD (.slice (.pair tI (.pair tI (.pair tI tI)))) a1), (26, aI (List.length a1 : Int)), (27, aI i76)]) (L' := [(3, .cells [.dat (.slice (.pair tI (.pair tI (.pair tI tI)))) a1]), (7, .one (.pair tI (.pair tI (.pair tI tI))) v79)]) (obs := [Idx a1 i76 v79, True]) (by kernel_rfl) (by kernel_rfl) (by kernel_rfl) (allP2 (Idx.of h80) (allP1 trivial)) ?_
        refine seqQ_norm ?_
        refine W_block (id := 2) (by kernel_rfl) ?_
        refine W_seq (by kernel_rfl) ?_
        obtain ⟨v85, h86, h⟩ := bind_of h
        refine W_cutK (Q' := (exQ .normal (count_Check_s12 a0 a1 i76 v79)) v85) ?_ ?_
        · replace h := h86
          refine W_region (by kernel_rfl) ?_
          refine WO_run (j := 4) (k := 4) (orcs := []) (kF := [0, 5, 7, 25, 26, 27, 35]) (kL := [3, 7]) (fr' := [(0, aI a0), (5, .one (.fn 54 [(3, 0)])), (7, .one (.ptr 7 0)), (25, aD (.slice (.pair tI (.pair tI (.pair tI tI)))) a1), (26, aI (List.length a1 : Int)), (27, aI i76), (35, aB (v79.1 != (1 : Int)))]) (L' := [(3, .cells [.dat (.slice (.pair tI (.pair tI (.pair tI tI)))) a1]), (7, .one (.pair tI (.pair tI (.pair tI tI))) v79)]) (obs := []) rfl (by kernel_rfl) allP0 ?_
          rcases Bool.eq_false_or_eq_true (v79.1 != (1 : Int)) with h84 | h84
          · replace h := ofT h84 h
            refine WO_run (j := 9) (k := 5) (orcs := [(8, .known true), (10, .known true), (12, .known true), (15, .val (.dat .bool true))]) (kF := [0, 5, 7, 25, 26, 27, 31]) (kL := [3, 7]) (fr' := [(0, aI a0), (5, .one (.fn 54 [(3, 0)])), (7, .one (.ptr 7 0)), (25, aD (.slice (.pair tI (.pair tI (.pair tI tI)))) a1), (26, aI (List.length a1 : Int)), (27, aI i76), (31, aB (v79.1 != (2 : Int)))]) (L' := [(3, .cells [.dat (.slice (.pair tI (.pair tI (.pair tI tI)))) a1]), (7, .one (.pair tI (.pair tI (.pair tI tI))) v79)]) (obs := [((v79.1 != (1 : Int)) = true), ((v79.1 != (1 : Int)) = true), ((v79.1 != (1 : Int)) = true), ((v79.1 != (1 : Int)) = true)]) rfl (by kernel_rfl) (allP2 h84 (allP2 h84 (allP2 h84 (allP1 h84)))) ?_
            obtain rfl := Option.some.inj h
            refine WO_fin [0, 5, 7, 25, 26, 27, 31] [3, 7] (fr' := [(0, aI a0), (5, .one (.fn 54 [(3, 0)])), (7, .one (.ptr 7 0)), (25, aD (.slice (.pair tI (.pair tI (.pair tI tI)))) a1), (26, aI (List.length a1 : Int)), (27, aI i76), (31, aB (v79.1 != (2 : Int)))]) (L' := [(3, .cells [.dat (.slice (.pair tI (.pair tI (.pair tI tI)))) a1]), (7, .one (.pair tI (.pair tI (.pair tI tI))) v79)]) (by kernel_rfl) (by kernel_rfl) ?_
            exact exQ_mk (by kernel_rfl) (by kernel_rfl)
          · replace h := ofF h84 h
            refine WO_run (j := 9) (k := 5) (orcs := [(8, .known false), (10, .known false), (12, .known false), (15, .val (.dat .bool false))]) (kF := [0, 5, 7, 25, 26, 27, 31]) (kL := [3, 7]) (fr' := [(0, aI a0), (5, .one (.fn 54 [(3, 0)])), (7, .one (.ptr 7 0)), (25, aD (.slice (.pair tI (.pair tI (.pair tI tI)))) a1), (26, aI (List.length a1 : Int)), (27, aI i76), (31, aB false)]) (L' := [(3, .cells [.dat (.slice (.pair tI (.pair tI (.pair tI tI)))) a1]), (7, .one (.pair tI (.pair tI (.pair tI tI))) v79)]) (obs := [((v79.1 != (1 : Int)) = false), ((v79.1 != (1 : Int)) = false), ((v79.1 != (1 : Int)) = false), ((v79.1 != (1 : Int)) = false)]) rfl (by kernel_rfl) (allP2 h84 (allP2 h84 (allP2 h84 (allP1 h84)))) ?_
            obtain rfl := Option.some.inj h
            refine WO_fin [0, 5, 7, 25, 26, 27, 31] [3, 7] (fr' := [(0, aI a0), (5, .one (.fn 54 [(3, 0)])), (7, .one (.ptr 7 0)), (25, aD (.slice (.pair tI (.pair tI (.pair tI tI)))) a1), (26, aI (List.length a1 : Int)), (27, aI i76), (31, aB false)]) (L' := [(3, .cells [.dat (.slice (.pair tI (.pair tI (.pair tI tI)))) a1]), (7, .one (.pair tI (.pair tI (.pair tI tI))) v79)]) (by kernel_rfl) (by kernel_rfl) ?_
            exact exQ_mk (by kernel_rfl) (by kernel_rfl)
        · intro e fr L hJ
          obtain ⟨rfl, rfl, rfl⟩ := hJ
          refine LT_keep [0, 5, 7, 25, 26, 27, 31] [3, 7] (fr' := [(0, aI a0), (5, .one (.fn 54 [(3, 0)])), (7, .one (.ptr 7 0)), (25, aD (.slice (.pair tI (.pair tI (.pair tI tI)))) a1), (26, aI (List.length a1 : Int)), (27, aI i76), (31, aB v85)]) (L' := [(3, .cells [.dat (.slice (.pair tI (.pair tI (.pair tI tI)))) a1]), (7, .one (.pair tI (.pair tI (.pair tI tI))) v79)]) (by kernel_rfl) ?_
          refine seqQ_norm ?_
          refine W_cond (o := .tmp 31) (b := v85) (by kernel_rfl) (by kernel_rfl) (fun h87 => ?_) (fun h87 => ?_)
          · replace h := ofT h87 h
            refine W_seq (by kernel_rfl) ?_
            refine W_run 1 [] [4] [] (fr' := [(4, aI (6 : Int))]) (L' := []) (obs := []) (by kernel_rfl) (by kernel_rfl) (by kernel_rfl) allP0 ?_
            refine seqQ_norm ?_
            obtain rfl := Option.some.inj h
            refine W_ret [4] [] (fr' := [(4, aI (6 : Int))]) (L' := []) (by kernel_rfl) (by kernel_rfl) ?_
            refine blockQ_ret ?_
            refine blockQ_ret ?_
            refine seqQ_ret ?_
            refine round_ret ?_
            refine escQ_ret ?_
            exact exQ_mk (by kernel_rfl) (by kernel_rfl)
          · replace h := ofF h87 h
            refine W_seq (by kernel_rfl) ?_
            obtain ⟨v91, h92, h⟩ := bind_of h
            refine W_cutK (Q' := (exQ .normal (count_Check_s11 a0 a1 i76 v79)) v91) ?_ ?_
            · replace h := h92
              refine W_region (by kernel_rfl) ?_
              refine WO_run (j := 4) (k := 4) (orcs := []) (kF := [0, 5, 7, 25, 26, 27, 44]) (kL := [3, 7]) (fr' := [(0, aI a0), (5, .one (.fn 54 [(3, 0)])), (7, .one (.ptr 7 0)), (25, aD (.slice (.pair tI (.pair tI (.pair tI tI)))) a1), (26, aI (List.length a1 : Int)), (27, aI i76), (44, aB (decide (v79.2.1 < (0 : Int))))]) (L' := [(3, .cells [.dat (.slice (.pair tI (.pair tI (.pair tI tI)))) a1]), (7, .one (.pair tI (.pair tI (.pair tI tI))) v79)]) (obs := []) rfl (by kernel_rfl) allP0 ?_
              rcases Bool.eq_false_or_eq_true (decide (v79.2.1 < (0 : Int))) with h90 | h90
              · replace h := ofT h90 h
                refine WO_run (j := 10) (k := 6) (orcs := [(8, .known true), (10, .known true), (12, .known true), (14, .known true), (17, .val (.dat .bool true))]) (kF := [0, 5, 7, 25, 26, 27, 40]) (kL := [3, 7]) (fr' := [(0, aI a0), (5, .one (.fn 54 [(3, 0)])), (7, .one (.ptr 7 0)), (25, aD (.slice (.pair tI (.pair tI (.pair tI tI)))) a1), (26, aI (List.length a1 : Int)), (27, aI i76), (40, aB true)]) (L' := [(3, .cells [.dat (.slice (.pair tI (.pair tI (.pair tI tI)))) a1]), (7, .one (.pair tI (.pair tI (.pair tI tI))) v79)]) (obs := [((decide (v79.2.1 < (0 : Int))) = true), ((decide (v79.2.1 < (0 : Int))) = true), ((decide (v79.2.1 < (0 : Int))) = true), ((decide (v79.2.1 < (0 : Int))) = true), ((decide (v79.2.1 < (0 : Int))) = true)]) rfl (by kernel_rfl) (allP2 h90 (allP2 h90 (allP2 h90 (allP2 h90 (allP1 h90))))) ?_
                obtain rfl := Option.some.inj h
                refine WO_fin [0, 5, 7, 25, 26, 27, 40] [3, 7] (fr' := [(0, aI a0), (5, .one (.fn 54 [(3, 0)])), (7, .one (.ptr 7 0)), (25, aD (.slice (.pair tI (.pair tI (.pair tI tI)))) a1), (26, aI (List.length a1 : Int)), (27, aI i76), (40, aB true)]) (L' := [(3, .cells [.dat (.slice (.pair tI (.pair tI (.pair tI tI)))) a1]), (7, .one (.pair tI (.pair tI (.pair tI tI))) v79)]) (by kernel_rfl) (by kernel_rfl) ?_
                exact exQ_mk (by kernel_rfl) (by kernel_rfl)
              · replace h := ofF h90 h
                refine WO_run (j := 10) (k := 6) (orcs := [(8, .known false), (10, .known false), (12, .known false), (14, .known false), (17, .val (.dat .bool false))]) (kF := [0, 5, 7, 25, 26, 27, 40]) (kL := [3, 7]) (fr' := [(0, aI a0), (5, .one (.fn 54 [(3, 0)])), (7, .one (.ptr 7 0)), (25, aD (.slice (.pair tI (.pair tI (.pair tI tI)))) a1), (26, aI (List.length a1 : Int)), (27, aI i76), (40, aB (decide (v79.2.1 ≥ a0)))]) (L' := [(3, .cells [.dat (.slice (.pair tI (.pair tI (.pair tI tI)))) a1]), (7, .one (.pair tI (.pair tI (.pair tI tI))) v79)]) (obs := [((decide (v79.2.1 < (0 : Int))) = false), ((decide (v79.2.1 < (0 : Int))) = false), ((decide (v79.2.1 < (0 : Int))) = false), ((decide (v79.2.1 < (0 : Int))) = false), ((decide (v79.2.1 < (0 : Int))) = false)]) rfl (by kernel_rfl) (allP2 h90 (allP2 h90 (allP2 h90 (allP2 h90 (allP1 h90))))) ?_
                obtain rfl := Option.some.inj h
                refine WO_fin [0, 5, 7, 25, 26, 27, 40] [3, 7] (fr' := [(0, aI a0), (5, .one (.fn 54 [(3, 0)])), (7, .one (.ptr 7 0)), (25, aD (.slice (.pair tI (.pair tI (.pair tI tI)))) a1), (26, aI (List.length a1 : Int)), (27, aI i76), (40, aB (decide (v79.2.1 ≥ a0)))]) (L' := [(3, .cells [.dat (.slice (.pair tI (.pair tI (.pair tI tI)))) a1]), (7, .one (.pair tI (.pair tI (.pair tI tI))) v79)]) (by kernel_rfl) (by kernel_rfl) ?_
                exact exQ_mk (by kernel_rfl) (by kernel_rfl)
            · intro e fr L hJ
              obtain ⟨rfl, rfl, rfl⟩ := hJ
              refine LT_keep [0, 5, 7, 25, 26, 27, 40] [3, 7] (fr' := [(0, aI a0), (5, .one (.fn 54 [(3, 0)])), (7, .one (.ptr 7 0)), (25, aD (.slice (.pair tI (.pair tI (.pair tI tI)))) a1), (26, aI (List.length a1 : Int)), (27, aI i76), (40, aB v91)]) (L' := [(3, .cells [.dat (.slice (.pair tI (.pair tI (.pair tI tI)))) a1]), (7, .one (.pair tI (.pair tI (.pair tI tI))) v79)]) (by kernel_rfl) ?_
              refine seqQ_norm ?_
              refine W_cond (o := .tmp 40) (b := v91) (by kernel_rfl) (by kernel_rfl) (fun h93 => ?_) (fun h93 => ?_)
              · replace h := ofT h93 h
                refine W_seq (by kernel_rfl) ?_
                refine W_run 1 [] [4] [] (fr' := [(4, aI (2 : Int))]) (L' := []) (obs := []) (by kernel_rfl) (by kernel_rfl) (by kernel_rfl) allP0 ?_
                refine seqQ_norm ?_
                obtain rfl := Option.some.inj h
                refine W_ret [4] [] (fr' := [(4, aI (2 : Int))]) (L' := []) (by kernel_rfl) (by kernel_rfl) ?_
                refine blockQ_ret ?_
                refine blockQ_ret ?_
                refine seqQ_ret ?_
                refine round_ret ?_
                refine escQ_ret ?_
                exact exQ_mk (by kernel_rfl) (by kernel_rfl)
              · replace h := ofF h93 h
                refine W_seq (by kernel_rfl) ?_
                obtain ⟨v112, h113, h⟩ := bind_of h
                refine W_cutK (Q' := (exQ .normal (count_Check_s10 a0 a1 i76)) v112) ?_ ?_
                · replace h := h113
                  refine W_region (by kernel_rfl) ?_
                  refine WO_run (j := 3) (k := 3) (orcs := []) (kF := [0, 5, 7, 25, 26, 27, 51, 53]) (kL := [3, 7]) (fr' := [(0, aI a0), (5, .one (.fn 54 [(3, 0)])), (7, .one (.ptr 7 0)), (25, aD (.slice (.pair tI (.pair tI (.pair tI tI)))) a1), (26, aI (List.length a1 : Int)), (27, aI i76), (51, .one (.fn 54 [(3, 0)])), (53, aI v79.2.2.1)]) (L' := [(3, .cells [.dat (.slice (.pair tI (.pair tI (.pair tI tI)))) a1]), (7, .one (.pair tI (.pair tI (.pair tI tI))) v79)]) (obs := []) rfl (by kernel_rfl) allP0 ?_
                  obtain ⟨r106, h107, h⟩ := bind_of h
                  refine WO_lend [(1000, 3)] (us := [none, none]) (d := 54) (p := True) (j := 4) rfl ⟨by kernel_rfl, by kernel_rfl, by kernel_rfl⟩ trivial (count_Check_1_ok h107) (by kernel_rfl) (by kernel_rfl) ?_
                  refine WO_run (j := 6) (k := 2) (orcs := []) (kF := [0, 5, 7, 25, 26, 27, 56]) (kL := [3, 7]) (fr' := [(0, aI a0), (5, .one (.fn 54 [(3, 0)])), (7, .one (.ptr 7 0)), (25, aD (.slice (.pair tI (.pair tI (.pair tI tI)))) a1), (26, aI (List.length a1 : Int)), (27, aI i76), (56, aB (!r106))]) (L' := [(3, .cells [.dat (.slice (.pair tI (.pair tI (.pair tI tI)))) a1]), (7, .one (.pair tI (.pair tI (.pair tI tI))) v79)]) (obs := []) rfl (by kernel_rfl) allP0 ?_
                  rcases Bool.eq_false_or_eq_true (!r106) with h108 | h108
                  · replace h := ofT h108 h
                    refine WO_run (j := 18) (k := 12) (orcs := [(12, .known true), (14, .known true), (16, .known true), (18, .known true), (20, .known true), (22, .known true), (24, .known true), (26, .known true), (28, .known true), (30, .known true), (33, .val (.dat .bool true))]) (kF := [0, 5, 25, 26, 27, 50]) (kL := [3, 7]) (fr' := [(0, aI a0), (5, .one (.fn 54 [(3, 0)])), (25, aD (.slice (.pair tI (.pair tI (.pair tI tI)))) a1), (26, aI (List.length a1 : Int)), (27, aI i76), (50, aB true)]) (L' := [(3, .cells [.dat (.slice (.pair tI (.pair tI (.pair tI tI)))) a1]), (7, .one (.pair tI (.pair tI (.pair tI tI))) v79)]) (obs := [((!r106) = true), ((!r106) = true), ((!r106) = true), ((!r106) = true), ((!r106) = true), ((!r106) = true)]) rfl (by kernel_rfl) (allP2 h108 (allP2 h108 (allP2 h108 (allP2 h108 (allP2 h108 (allP1 h108)))))) ?_
                    obtain rfl := Option.some.inj h
                    refine WO_fin [0, 5, 25, 26, 27, 50] [3] (fr' := [(0, aI a0), (5, .one (.fn 54 [(3, 0)])), (25, aD (.slice (.pair tI (.pair tI (.pair tI tI)))) a1), (26, aI (List.length a1 : Int)), (27, aI i76), (50, aB true)]) (L' := [(3, .cells [.dat (.slice (.pair tI (.pair tI (.pair tI tI)))) a1])]) (by kernel_rfl) (by kernel_rfl) ?_
                    exact exQ_mk (by kernel_rfl) (by kernel_rfl)
                  · replace h := ofF h108 h
                    refine WO_run (j := 10) (k := 4) (orcs := [(12, .known false), (14, .known false), (16, .known false), (18, .known false)]) (kF := [0, 5, 7, 25, 26, 27, 56, 60]) (kL := [3, 7]) (fr' := [(0, aI a0), (5, .one (.fn 54 [(3, 0)])), (7, .one (.ptr 7 0)), (25, aD (.slice (.pair tI (.pair tI (.pair tI tI)))) a1), (26, aI (List.length a1 : Int)), (27, aI i76), (56, aB (!r106)), (60, aB (v79.1 == (2 : Int)))]) (L' := [(3, .cells [.dat (.slice (.pair tI (.pair tI (.pair tI tI)))) a1]), (7, .one (.pair tI (.pair tI (.pair tI tI))) v79)]) (obs := [((!r106) = false), ((!r106) = false), ((!r106) = false), ((!r106) = false)]) rfl (by kernel_rfl) (allP2 h108 (allP2 h108 (allP2 h108 (allP1 h108)))) ?_
                    rcases Bool.eq_false_or_eq_true (v79.1 == (2 : Int)) with h109 | h109
                    · replace h := ofT h109 h
                      refine WO_run (j := 13) (k := 3) (orcs := [(20, .known true), (22, .known true), (24, .known true)]) (kF := [0, 5, 25, 26, 27, 56, 60, 61, 63]) (kL := [3, 7]) (fr' := [(0, aI a0), (5, .one (.fn 54 [(3, 0)])), (25, aD (.slice (.pair tI (.pair tI (.pair tI tI)))) a1), (26, aI (List.length a1 : Int)), (27, aI i76), (56, aB (!r106)), (60, aB (v79.1 == (2 : Int))), (61, .one (.fn 54 [(3, 0)])), (63, aI v79.2.2.2)]) (L' := [(3, .cells [.dat (.slice (.pair tI (.pair tI (.pair tI tI)))) a1]), (7, .one (.pair tI (.pair tI (.pair tI tI))) v79)]) (obs := [((v79.1 == (2 : Int)) = true), ((v79.1 == (2 : Int)) = true), ((v79.1 == (2 : Int)) = true)]) rfl (by kernel_rfl) (allP2 h109 (allP2 h109 (allP1 h109))) ?_
                      obtain ⟨r110, h111, h⟩ := bind_of h
                      refine WO_lend [(1000, 3)] (us := [none, none]) (d := 64) (p := ((v79.1 == (2 : Int)) = true)) (j := 14) rfl ⟨by kernel_rfl, by kernel_rfl, by kernel_rfl⟩ h109 (count_Check_1_ok h111) (by kernel_rfl) (by kernel_rfl) ?_
                      refine WO_run (j := 18) (k := 4) (orcs := [(28, .known true), (30, .known false), (31, .val (.dat .bool true)), (33, .val (.dat .bool false))]) (kF := [0, 5, 25, 26, 27, 50]) (kL := [3, 7]) (fr' := [(0, aI a0), (5, .one (.fn 54 [(3, 0)])), (25, aD (.slice (.pair tI (.pair tI (.pair tI tI)))) a1), (26, aI (List.length a1 : Int)), (27, aI i76), (50, aB (!r110))]) (L' := [(3, .cells [.dat (.slice (.pair tI (.pair tI (.pair tI tI)))) a1]), (7, .one (.pair tI (.pair tI (.pair tI tI))) v79)]) (obs := [((v79.1 == (2 : Int)) = true), ((!r106) = false), ((v79.1 == (2 : Int)) = true), ((!r106) = false)]) rfl (by kernel_rfl) (allP2 h109 (allP2 h108 (allP2 h109 (allP1 h108)))) ?_
                      obtain rfl := Option.some.inj h
                      refine WO_fin [0, 5, 25, 26, 27, 50] [3] (fr' := [(0, aI a0), (5, .one (.fn 54 [(3, 0)])), (25, aD (.slice (.pair tI (.pair tI (.pair tI tI)))) a1), (26, aI (List.length a1 : Int)), (27, aI i76), (50, aB (!r110))]) (L' := [(3, .cells [.dat (.slice (.pair tI (.pair tI (.pair tI tI)))) a1])]) (by kernel_rfl) (by kernel_rfl) ?_
                      exact exQ_mk (by kernel_rfl) (by kernel_rfl)
                    · replace h := ofF h109 h
                      refine WO_run (j := 18) (k := 8) (orcs := [(20, .known false), (22, .known false), (24, .known false), (26, .known false), (28, .known false), (30, .known false), (31, .val (.dat .bool false)), (33, .val (.dat .bool false))]) (kF := [0, 5, 25, 26, 27, 50]) (kL := [3, 7]) (fr' := [(0, aI a0), (5, .one (.fn 54 [(3, 0)])), (25, aD (.slice (.pair tI (.pair tI (.pair tI tI)))) a1), (26, aI (List.length a1 : Int)), (27, aI i76), (50, aB false)]) (L' := [(3, .cells [.dat (.slice (.pair tI (.pair tI (.pair tI tI)))) a1]), (7, .one (.pair tI (.pair tI (.pair tI tI))) v79)]) (obs := [((v79.1 == (2 : Int)) = false), ((v79.1 == (2 : Int)) = false), ((v79.1 == (2 : Int)) = false), ((v79.1 == (2 : Int)) = false), ((v79.1 == (2 : Int)) = false), ((!r106) = false), ((v79.1 == (2 : Int)) = false), ((!r106) = false)]) rfl (by kernel_rfl) (allP2 h109 (allP2 h109 (allP2 h109 (allP2 h109 (allP2 h109 (allP2 h108 (allP2 h109 (allP1 h108)))))))) ?_
                      obtain rfl := Option.some.inj h
                      refine WO_fin [0, 5, 25, 26, 27, 50] [3] (fr' := [(0, aI a0), (5, .one (.fn 54 [(3, 0)])), (25, aD (.slice (.pair tI (.pair tI (.pair tI tI)))) a1), (26, aI (List.length a1 : Int)), (27, aI i76), (50, aB false)]) (L' := [(3, .cells [.dat (.slice (.pair tI (.pair tI (.pair tI tI)))) a1])]) (by kernel_rfl) (by kernel_rfl) ?_
                      exact exQ_mk (by kernel_rfl) (by kernel_rfl)
                · intro e fr L hJ
                  obtain ⟨rfl, rfl, rfl⟩ := hJ
                  refine LT_keep [0, 5, 25, 26, 27, 50] [3] (fr' := [(0, aI a0), (5, .one (.fn 54 [(3, 0)])), (25, aD (.slice (.pair tI (.pair tI (.pair tI tI)))) a1), (26, aI (List.length a1 : Int)), (27, aI i76), (50, aB v112)]) (L' := [(3, .cells [.dat (.slice (.pair tI (.pair tI (.pair tI tI)))) a1])]) (by kernel_rfl) ?_
                  refine seqQ_norm ?_
                  refine W_cond (o := .tmp 50) (b := v112) (by kernel_rfl) (by kernel_rfl) (fun h114 => ?_) (fun h114 => ?_)
                  · replace h := ofT h114 h
                    refine W_seq (by kernel_rfl) ?_
                    refine W_run 1 [] [4] [] (fr' := [(4, aI (3 : Int))]) (L' := []) (obs := []) (by kernel_rfl) (by kernel_rfl) (by kernel_rfl) allP0 ?_
                    refine seqQ_norm ?_
                    obtain rfl := Option.some.inj h
                    refine W_ret [4] [] (fr' := [(4, aI (3 : Int))]) (L' := []) (by kernel_rfl) (by kernel_rfl) ?_
                    refine blockQ_ret ?_
                    refine blockQ_ret ?_
                    refine seqQ_ret ?_
                    refine round_ret ?_
                    refine escQ_ret ?_
                    exact exQ_mk (by kernel_rfl) (by kernel_rfl)
                  · replace h := ofF h114 h
                    refine W_skip [0, 5, 25, 26, 27] [3] (fr' := [(0, aI a0), (5, .one (.fn 54 [(3, 0)])), (25, aD (.slice (.pair tI (.pair tI (.pair tI tI)))) a1), (26, aI (List.length a1 : Int)), (27, aI i76)]) (L' := [(3, .cells [.dat (.slice (.pair tI (.pair tI (.pair tI tI)))) a1])]) (by kernel_rfl) (by kernel_rfl) ?_
                    refine blockQ_norm ?_
                    refine blockQ_norm ?_
                    refine seqQ_norm ?_
                    obtain rfl := Option.some.inj h
                    refine W_run 2 [] [0, 5, 25, 26, 27] [3] (fr' := [(0, aI a0), (5, .one (.fn 54 [(3, 0)])), (25, aD (.slice (.pair tI (.pair tI (.pair tI tI)))) a1), (26, aI (List.length a1 : Int)), (27, aI (w64 (i76 + (1 : Int))))]) (L' := [(3, .cells [.dat (.slice (.pair tI (.pair tI (.pair tI tI)))) a1])]) (obs := []) (by kernel_rfl) (by kernel_rfl) (by kernel_rfl) allP0 ?_
                    exact round_next' (by kernel_rfl) (by kernel_rfl)
      · obtain rfl := stepL_false h81 h
        refine W_exit (id := 0) [] [] (fr' := []) (L' := []) (by kernel_rfl) (by kernel_rfl) ?_
        refine seqQ_exit ?_
        refine round_exit ?_
        refine escQ_brk ?_
        exact exQ_mk (by kernel_rfl) (by kernel_rfl)
    · intro e fr L hJ
      rcases v116 with v121 | v122
      · obtain ⟨rfl, rfl, rfl⟩ := hJ
        obtain rfl := Option.some.inj h
        refine LT_keep [4] [] (fr' := [(4, aI v121)]) (L' := []) (by kernel_rfl) ?_
        refine blockQ_ret ?_
        refine seqQ_ret ?_
        exact retQ_mk (by kernel_rfl) (by kernel_rfl) (by kernel_rfl)
      · obtain ⟨rfl, rfl, rfl⟩ := hJ
        refine LT_keep [] [] (fr' := []) (L' := []) (by kernel_rfl) ?_
        refine blockQ_hit ?_
        refine seqQ_norm ?_
        refine W_seq (by kernel_rfl) ?_
        refine W_run 1 [] [4] [] (fr' := [(4, aI (0 : Int))]) (L' := []) (obs := []) (by kernel_rfl) (by kernel_rfl) (by kernel_rfl) allP0 ?_
        refine seqQ_norm ?_
        obtain rfl := Option.some.inj h
        refine W_ret [4] [] (fr' := [(4, aI (0 : Int))]) (L' := []) (by kernel_rfl) (by kernel_rfl) ?_
        exact retQ_mk (by kernel_rfl) (by kernel_rfl) (by kernel_rfl)

@[reducible] def code_digits_s6 (a0 : (List (Int × (Int × (Int × Int))))) (i35 : Int) (x36 : (List Int)) (v : (Int × (Int × (Int × Int)))) : Fr × LL := ([(3, .one (.slc 26)), (5, .one (.ptr 5 0)), (6, aD (.slice (.pair tI (.pair tI (.pair tI tI)))) a0), (7, aI (List.length a0 : Int)), (8, aI i35)], [(26, .seq tI x36), (5, .one (.pair tI (.pair tI (.pair tI tI))) v)])
def code_digits_b7 (i35 : Int) (v38 : (Int × (Int × (Int × Int)))) (x36 : (List Int)) : Option (Flow (List Int) (List Int)) :=
(bif v38.1 == (1 : Int) then
(some (v38.1, v38.2.1, v38.2.2.1, (0 : Int)))
else
(some v38)).bind fun v50 =>
(ck ((List.length x36 : Int) + 4 ≤ 4294967296)).bind fun _ =>
some (.next (x36 ++ [v50.1, v50.2.1, v50.2.2.1, v50.2.2.2]))
@[reducible] def code_digits_s8 (a0 : (List (Int × (Int × (Int × Int))))) (v : Int × (List Int)) : Fr × LL := ([(3, .one (.slc 26)), (6, aD (.slice (.pair tI (.pair tI (.pair tI tI)))) a0), (7, aI (List.length a0 : Int)), (8, aI v.1)], [(26, .seq tI v.2)])
@[reducible] def code_digits_s9 (v : (List Int)) : Fr × LL := ([(3, .one (.slc 26))], [(26, .seq tI v)])
def code_digits (a0 : (List (Int × (Int × (Int × Int))))) : Option (List Int) :=
(forL code_digits_b7 (fun x36 => x36) a0 0 []).bind fun v54 =>
some v54
theorem code_digits_ok {a0 : (List (Int × (Int × (Int × Int))))} {r : (List Int)} (h : code_digits a0 = some r) : FnC Try.prog 40 [aD (.slice (.pair tI (.pair tI (.pair tI tI)))) a0] [] (aD (.slice tI) r) [] := by
  refine fnC_of_W (B := bodyOf Try.f40) (n := 29) Try.func40 (by kernel_rfl) (by kernel_rfl) (by kernel_rfl) (by kernel_rfl) (by kernel_rfl) ?_
  intro K
  refine W_seq (by kernel_rfl) ?_
  refine W_run 1 [] [0] [] (fr' := [(0, aD (.slice (.pair tI (.pair tI (.pair tI tI)))) a0)]) (L' := []) (obs := []) (by kernel_rfl) (by kernel_rfl) (by kernel_rfl) allP0 ?_
  refine seqQ_norm ?_
  refine W_seq (by kernel_rfl) ?_
  refine W_run 1 [] [0, 3] [] (fr' := [(0, aD (.slice (.pair tI (.pair tI (.pair tI tI)))) a0), (3, .one (.nilS))]) (L' := []) (obs := []) (by kernel_rfl) (by kernel_rfl) (by kernel_rfl) allP0 ?_
  refine seqQ_norm ?_
  refine W_seq (by kernel_rfl) ?_
  refine W_seq (by kernel_rfl) ?_
  refine W_run 3 [] [3, 6, 7, 8] [] (fr' := [(3, .one (.nilS)), (6, aD (.slice (.pair tI (.pair tI (.pair tI tI)))) a0), (7, aI (List.length a0 : Int)), (8, aI (0 : Int))]) (L' := []) (obs := []) (by kernel_rfl) (by kernel_rfl) (by kernel_rfl) allP0 ?_
  refine seqQ_norm ?_
  refine W_block (id := 0) (by kernel_rfl) ?_
  obtain ⟨v54, h55, h⟩ := bind_of h
  refine W_len (t := 6) (u := (.pair tI (.pair tI (.pair tI tI)))) (xs := a0) (by kernel_rfl) (fun h58 => ?_)
  obtain ⟨h56, h57⟩ := forL_iter h58 h55
  refine W_mine 3 26 tI (by kernel_rfl) ?_
  refine W_weaken [3, 6, 7, 8] [26] (fr' := ((code_digits_s8 a0) ((0 : Int), [])).1) (L' := ((code_digits_s8 a0) ((0 : Int), [])).2) (by kernel_rfl) ?_
  refine W_cutK (W_loop (S := (code_digits_s8 a0)) (J := (exQ (.exit 0) code_digits_s9)) (by kernel_rfl) ?_ h56 _ v54 h57) ?_
  · rintro ⟨i35, x36⟩ s h
    refine W_seq (by kernel_rfl) ?_
    refine W_run 1 [] [3, 6, 7, 8, 9] [26] (fr' := [(3, .one (.slc 26)), (6, aD (.slice (.pair tI (.pair tI (.pair tI tI)))) a0), (7, aI (List.length a0 : Int)), (8, aI i35), (9, aB (decide (i35 < (List.length a0 : Int))))]) (L' := [(26, .seq tI x36)]) (obs := []) (by kernel_rfl) (by kernel_rfl) (by kernel_rfl) allP0 ?_
    refine seqQ_norm ?_
    refine W_seq (by kernel_rfl) ?_
    refine W_cond (o := .tmp 9) (b := decide (i35 < (List.length a0 : Int))) (by kernel_rfl) (by kernel_rfl) (fun h40 => ?_) (fun h40 => ?_)
    · replace h := stepL_true h40 h
      obtain ⟨v38, _, h39, h, rfl⟩ := h
      refine W_skip [3, 6, 7, 8] [26] (fr' := [(3, .one (.slc 26)), (6, aD (.slice (.pair tI (.pair tI (.pair tI tI)))) a0), (7, aI (List.length a0 : Int)), (8, aI i35)]) (L' := [(26, .seq tI x36)]) (by kernel_rfl) (by kernel_rfl) ?_
      refine seqQ_norm ?_
      refine W_seq (by kernel_rfl) ?_
      refine W_block (id := 1) (by kernel_rfl) ?_
      refine W_seq (by kernel_rfl) ?_
      refine W_run 4 [(1, .val (.dat (.pair tI (.pair tI (.pair tI tI))) v38)), (5, .typed)] [3, 5, 6, 7, 8] [26, 5] (fr' := [(3, .one (.slc 26)), (5, .one (.ptr 5 0)), (6, aD (.slice (.pair tI (.pair tI (.pair tI tI)))) a0), (7, aI (List.length a0 : Int)), (8, aI i35)]) (L' := [(26, .seq tI x36), (5, .one (.pair tI (.pair tI (.pair tI tI))) v38)]) (obs := [Idx a0 i35 v38, True]) (by kernel_rfl) (by kernel_rfl) (by kernel_rfl) (allP2 (Idx.of h39) (allP1 trivial)) ?_
      refine seqQ_norm ?_
      refine W_seq (by kernel_rfl) ?_
      obtain ⟨v50, h51, h⟩ := bind_of h
      refine W_cutK (Q' := (exQ .normal (code_digits_s6 a0 i35 x36)) v50) ?_ ?_
      · replace h := h51
        refine W_seq (by kernel_rfl) ?_
        refine W_run 3 [] [3, 5, 6, 7, 8, 14] [26, 5] (fr' := [(3, .one (.slc 26)), (5, .one (.ptr 5 0)), (6, aD (.slice (.pair tI (.pair tI (.pair tI tI)))) a0), (7, aI (List.length a0 : Int)), (8, aI i35), (14, aB (v38.1 == (1 : Int)))]) (L' := [(26, .seq tI x36), (5, .one (.pair tI (.pair tI (.pair tI tI))) v38)]) (obs := []) (by kernel_rfl) (by kernel_rfl) (by kernel_rfl) allP0 ?_
        refine seqQ_norm ?_
        refine W_cond (o := .tmp 14) (b := v38.1 == (1 : Int)) (by kernel_rfl) (by kernel_rfl) (fun h49 => ?_) (fun h49 => ?_)
        · replace h := ofT h49 h
          obtain rfl := Option.some.inj h
          refine W_run 2 [] [3, 5, 6, 7, 8] [26, 5] (fr' := [(3, .one (.slc 26)), (5, .one (.ptr 5 0)), (6, aD (.slice (.pair tI (.pair tI (.pair tI tI)))) a0), (7, aI (List.length a0 : Int)), (8, aI i35)]) (L' := [(26, .seq tI x36), (5, .one (.pair tI (.pair tI (.pair tI tI))) (v38.1, v38.2.1, v38.2.2.1, (0 : Int)))]) (obs := [True]) (by kernel_rfl) (by kernel_rfl) (by kernel_rfl) (allP1 trivial) ?_
          exact exQ_mk (by kernel_rfl) (by kernel_rfl)
        · replace h := ofF h49 h
          obtain rfl := Option.some.inj h
          refine W_skip [3, 5, 6, 7, 8] [26, 5] (fr' := [(3, .one (.slc 26)), (5, .one (.ptr 5 0)), (6, aD (.slice (.pair tI (.pair tI (.pair tI tI)))) a0), (7, aI (List.length a0 : Int)), (8, aI i35)]) (L' := [(26, .seq tI x36), (5, .one (.pair tI (.pair tI (.pair tI tI))) v38)]) (by kernel_rfl) (by kernel_rfl) ?_
          exact exQ_mk (by kernel_rfl) (by kernel_rfl)
      · intro e fr L hJ
        obtain ⟨rfl, rfl, rfl⟩ := hJ
        refine LT_keep [3, 5, 6, 7, 8] [26, 5] (fr' := [(3, .one (.slc 26)), (5, .one (.ptr 5 0)), (6, aD (.slice (.pair tI (.pair tI (.pair tI tI)))) a0), (7, aI (List.length a0 : Int)), (8, aI i35)]) (L' := [(26, .seq tI x36), (5, .one (.pair tI (.pair tI (.pair tI tI))) v50)]) (by kernel_rfl) ?_
        refine seqQ_norm ?_
        obtain ⟨_, h52, h⟩ := bind_of h
        replace h52 := ck_some h52
        refine W_run 12 [] [3, 6, 7, 8] [26] (fr' := [(3, .one (.slc 26)), (6, aD (.slice (.pair tI (.pair tI (.pair tI tI)))) a0), (7, aI (List.length a0 : Int)), (8, aI i35)]) (L' := [(26, .seq tI (x36 ++ [v50.1, v50.2.1, v50.2.2.1, v50.2.2.2]))]) (obs := [SmallLen (List.length x36 + List.length [v50.1, v50.2.1, v50.2.2.1, v50.2.2.2])]) (by kernel_rfl) (by kernel_rfl) (by kernel_rfl) (allP1 h52) ?_
        refine blockQ_norm ?_
        refine seqQ_norm ?_
        obtain rfl := Option.some.inj h
        refine W_run 2 [] [3, 6, 7, 8] [26] (fr' := [(3, .one (.slc 26)), (6, aD (.slice (.pair tI (.pair tI (.pair tI tI)))) a0), (7, aI (List.length a0 : Int)), (8, aI (w64 (i35 + (1 : Int))))]) (L' := [(26, .seq tI (x36 ++ [v50.1, v50.2.1, v50.2.2.1, v50.2.2.2]))]) (obs := []) (by kernel_rfl) (by kernel_rfl) (by kernel_rfl) allP0 ?_
        exact round_next' (by kernel_rfl) (by kernel_rfl)
    · obtain rfl := stepL_false h40 h
      refine W_exit (id := 0) [3] [26] (fr' := [(3, .one (.slc 26))]) (L' := [(26, .seq tI x36)]) (by kernel_rfl) (by kernel_rfl) ?_
      refine seqQ_exit ?_
      refine round_exit ?_
      exact exQ_mk (by kernel_rfl) (by kernel_rfl)
  · intro e fr L hJ
    obtain ⟨rfl, rfl, rfl⟩ := hJ
    refine LT_keep [3] [26] (fr' := [(3, .one (.slc 26))]) (L' := [(26, .seq tI v54)]) (by kernel_rfl) ?_
    refine blockQ_hit ?_
    refine seqQ_norm ?_
    refine W_seq (by kernel_rfl) ?_
    refine W_run 2 [] [2] [26] (fr' := [(2, .one (.slc 26))]) (L' := [(26, .seq tI v54)]) (obs := []) (by kernel_rfl) (by kernel_rfl) (by kernel_rfl) allP0 ?_
    refine seqQ_norm ?_
    obtain rfl := Option.some.inj h
    refine W_frz 26 (by kernel_rfl) ?_
    refine W_ret [2] [] (fr' := [(2, aD (.slice tI) v54)]) (L' := []) (by kernel_rfl) (by kernel_rfl) ?_
    exact retQ_mk (by kernel_rfl) (by kernel_rfl) (by kernel_rfl)

def code_Number (a0 : Int) (a1 : (List (Int × (Int × (Int × Int))))) : Option ((List Int) × Int) :=
(count_Check a0 a1).bind fun r1 =>
bif r1 != (0 : Int) then
(some ([], r1))
else
((code_digits a1).bind fun r4 =>
some (r4, (0 : Int)))
theorem code_Number_ok {a0 : Int} {a1 : (List (Int × (Int × (Int × Int))))} {r : ((List Int) × Int)} (h : code_Number a0 a1 = some r) : FnC Try.prog 13 [aI a0, aD (.slice (.pair tI (.pair tI (.pair tI tI)))) a1] [] (.tup [.dat (.slice tI) r.1, .dat tI r.2]) [] := by
  refine fnC_of_W (B := bodyOf Try.f13) (n := 15) Try.func13 (by kernel_rfl) (by kernel_rfl) (by kernel_rfl) (by kernel_rfl) (by kernel_rfl) ?_
  intro K
  refine W_seq (by kernel_rfl) ?_
  refine W_run 2 [] [0, 1] [] (fr' := [(0, aI a0), (1, aD (.slice (.pair tI (.pair tI (.pair tI tI)))) a1)]) (L' := []) (obs := []) (by kernel_rfl) (by kernel_rfl) (by kernel_rfl) allP0 ?_
  refine seqQ_norm ?_
  refine W_seq (by kernel_rfl) ?_
  refine W_seq (by kernel_rfl) ?_
  refine W_region (by kernel_rfl) ?_
  refine WO_run (j := 2) (k := 2) (orcs := []) (kF := [1, 7, 8]) (kL := []) (fr' := [(1, aD (.slice (.pair tI (.pair tI (.pair tI tI)))) a1), (7, aI a0), (8, aD (.slice (.pair tI (.pair tI (.pair tI tI)))) a1)]) (L' := []) (obs := []) rfl (by kernel_rfl) allP0 ?_
  obtain ⟨r1, h2, h⟩ := bind_of h
  refine WO_call0 (us := [none, none]) (d := 9) (p := True) (j := 3) rfl ⟨by kernel_rfl, by kernel_rfl, by kernel_rfl⟩ trivial (count_Check_ok h2) (by kernel_rfl) ?_
  refine WO_run (j := 4) (k := 1) (orcs := []) (kF := [1, 6]) (kL := []) (fr' := [(1, aD (.slice (.pair tI (.pair tI (.pair tI tI)))) a1), (6, aI r1)]) (L' := []) (obs := []) rfl (by kernel_rfl) allP0 ?_
  refine WO_fin [1, 6] [] (fr' := [(1, aD (.slice (.pair tI (.pair tI (.pair tI tI)))) a1), (6, aI r1)]) (L' := []) (by kernel_rfl) (by kernel_rfl) ?_
  refine seqQ_norm ?_
  refine W_seq (by kernel_rfl) ?_
  refine W_run 2 [] [1, 6, 11] [] (fr' := [(1, aD (.slice (.pair tI (.pair tI (.pair tI tI)))) a1), (6, aI r1), (11, aB (r1 != (0 : Int)))]) (L' := []) (obs := []) (by kernel_rfl) (by kernel_rfl) (by kernel_rfl) allP0 ?_
  refine seqQ_norm ?_
  refine W_cond (o := .tmp 11) (b := r1 != (0 : Int)) (by kernel_rfl) (by kernel_rfl) (fun h3 => ?_) (fun h3 => ?_)
  · replace h := ofT h3 h
    refine W_seq (by kernel_rfl) ?_
    refine W_run 3 [] [4, 5] [] (fr' := [(4, .one (.nilS)), (5, aI r1)]) (L' := []) (obs := []) (by kernel_rfl) (by kernel_rfl) (by kernel_rfl) allP0 ?_
    refine seqQ_norm ?_
    obtain rfl := Option.some.inj h
    refine W_cnv 4 (.slice tI) (by kernel_rfl) ?_
    refine W_ret [4, 5] [] (fr' := [(4, aD (.slice tI) []), (5, aI r1)]) (L' := []) (by kernel_rfl) (by kernel_rfl) ?_
    refine seqQ_ret ?_
    exact retQ_mk (by kernel_rfl) (by kernel_rfl) (by kernel_rfl)
  · replace h := ofF h3 h
    refine W_skip [1] [] (fr' := [(1, aD (.slice (.pair tI (.pair tI (.pair tI tI)))) a1)]) (L' := []) (by kernel_rfl) (by kernel_rfl) ?_
    refine seqQ_norm ?_
    refine W_seq (by kernel_rfl) ?_
    refine W_region (by kernel_rfl) ?_
    refine WO_run (j := 1) (k := 1) (orcs := []) (kF := [13]) (kL := []) (fr' := [(13, aD (.slice (.pair tI (.pair tI (.pair tI tI)))) a1)]) (L' := []) (obs := []) rfl (by kernel_rfl) allP0 ?_
    obtain ⟨r4, h5, h⟩ := bind_of h
    refine WO_call0 (us := [none]) (d := 14) (p := True) (j := 2) rfl ⟨by kernel_rfl, by kernel_rfl, by kernel_rfl⟩ trivial (code_digits_ok h5) (by kernel_rfl) ?_
    refine WO_run (j := 4) (k := 2) (orcs := []) (kF := [4, 5]) (kL := []) (fr' := [(4, aD (.slice tI) r4), (5, aI (0 : Int))]) (L' := []) (obs := []) rfl (by kernel_rfl) allP0 ?_
    refine WO_fin [4, 5] [] (fr' := [(4, aD (.slice tI) r4), (5, aI (0 : Int))]) (L' := []) (by kernel_rfl) (by kernel_rfl) ?_
    refine seqQ_norm ?_
    obtain rfl := Option.some.inj h
    refine W_ret [4, 5] [] (fr' := [(4, aD (.slice tI) r4), (5, aI (0 : Int))]) (L' := []) (by kernel_rfl) (by kernel_rfl) ?_
    exact retQ_mk (by kernel_rfl) (by kernel_rfl) (by kernel_rfl)

def ref_Within (a0 : Int) (a1 : Int) (a2 : Int) : Option Bool :=
some ((decide (a0 ≤ a1)) && (decide (a1 ≤ a2)))
theorem ref_Within_ok {a0 : Int} {a1 : Int} {a2 : Int} {r : Bool} (h : ref_Within a0 a1 a2 = some r) : FnC Try.prog 23 [aI a0, aI a1, aI a2] [] (aB r) [] := by
  refine fnC_of_W (B := bodyOf Try.f23) (n := 15) Try.func23 (by kernel_rfl) (by kernel_rfl) (by kernel_rfl) (by kernel_rfl) (by kernel_rfl) ?_
  intro K
  refine W_seq (by kernel_rfl) ?_
  refine W_run 1 [] [0, 1, 2] [] (fr' := [(0, aI a0), (1, aI a1), (2, aI a2)]) (L' := []) (obs := []) (by kernel_rfl) (by kernel_rfl) (by kernel_rfl) allP0 ?_
  refine seqQ_norm ?_
  refine W_seq (by kernel_rfl) ?_
  refine W_run 9 [] [6] [] (fr' := [(6, aB ((decide (a0 ≤ a1)) && (decide (a1 ≤ a2))))]) (L' := []) (obs := []) (by kernel_rfl) (by kernel_rfl) (by kernel_rfl) allP0 ?_
  refine seqQ_norm ?_
  obtain rfl := Option.some.inj h
  refine W_ret [6] [] (fr' := [(6, aB ((decide (a0 ≤ a1)) && (decide (a1 ≤ a2))))]) (L' := []) (by kernel_rfl) (by kernel_rfl) ?_
  exact retQ_mk (by kernel_rfl) (by kernel_rfl) (by kernel_rfl)

def ref_Inside_b1 (a0 : Int) (i11 : Int) (v14 : Int) (x12 : Unit) : Option (Flow Unit (Esc Bool Unit)) :=
bif (decide (v14 < (0 : Int))) || (decide (v14 ≥ a0)) then
(some (.done (.ret false)))
else
(some (.next ()))
@[reducible] def ref_Inside_s2 (a0 : Int) (a1 : (List Int)) (v : Int × Unit) : Fr × LL := ([(0, aI a0), (7, aD (.slice tI) a1), (8, aI (List.length a1 : Int)), (9, aI v.1)], [])
@[reducible] def ref_Inside_s3 (v : Bool) : Fr × LL := ([(4, aB v)], [])
@[reducible] def ref_Inside_s4 (v : Unit) : Fr × LL := ([], [])
def ref_Inside (a0 : Int) (a1 : (List Int)) : Option Bool :=
(forL (ref_Inside_b1 a0) (fun x12 => (.brk ())) a1 0 ()).bind fun v19 =>
match v19 with
| .ret v24 =>
(some v24)
| .brk v25 =>
(some true)
theorem ref_Inside_ok {a0 : Int} {a1 : (List Int)} {r : Bool} (h : ref_Inside a0 a1 = some r) : FnC Try.prog 27 [aI a0, aD (.slice tI) a1] [] (aB r) [] := by
  refine fnC_of_W (B := bodyOf Try.f27) (n := 21) Try.func27 (by kernel_rfl) (by kernel_rfl) (by kernel_rfl) (by kernel_rfl) (by kernel_rfl) ?_
  intro K
  refine W_seq (by kernel_rfl) ?_
  refine W_run 1 [] [0, 1] [] (fr' := [(0, aI a0), (1, aD (.slice tI) a1)]) (L' := []) (obs := []) (by kernel_rfl) (by kernel_rfl) (by kernel_rfl) allP0 ?_
  refine seqQ_norm ?_
  refine W_seq (by kernel_rfl) ?_
  refine W_seq (by kernel_rfl) ?_
  refine W_run 3 [] [0, 7, 8, 9] [] (fr' := [(0, aI a0), (7, aD (.slice tI) a1), (8, aI (List.length a1 : Int)), (9, aI (0 : Int))]) (L' := []) (obs := []) (by kernel_rfl) (by kernel_rfl) (by kernel_rfl) allP0 ?_
  refine seqQ_norm ?_
  refine W_block (id := 0) (by kernel_rfl) ?_
  obtain ⟨v19, h20, h⟩ := bind_of h
  refine W_len (t := 7) (u := tI) (xs := a1) (by kernel_rfl) (fun h23 => ?_)
  obtain ⟨h21, h22⟩ := forL_iter h23 h20
  refine W_weaken [0, 7, 8, 9] [] (fr' := ((ref_Inside_s2 a0 a1) ((0 : Int), ())).1) (L' := ((ref_Inside_s2 a0 a1) ((0 : Int), ())).2) (by kernel_rfl) ?_
  refine W_cutK (W_loop (S := (ref_Inside_s2 a0 a1)) (J := (escQ (exQ .ret ref_Inside_s3) (exQ (.exit 0) ref_Inside_s4))) (by kernel_rfl) ?_ h21 _ v19 h22) ?_
  · rintro ⟨i11, x12⟩ s h
    refine W_seq (by kernel_rfl) ?_
    refine W_run 1 [] [0, 7, 8, 9, 10] [] (fr' := [(0, aI a0), (7, aD (.slice tI) a1), (8, aI (List.length a1 : Int)), (9, aI i11), (10, aB (decide (i11 < (List.length a1 : Int))))]) (L' := []) (obs := []) (by kernel_rfl) (by kernel_rfl) (by kernel_rfl) allP0 ?_
    refine seqQ_norm ?_
    refine W_seq (by kernel_rfl) ?_
    refine W_cond (o := .tmp 10) (b := decide (i11 < (List.length a1 : Int))) (by kernel_rfl) (by kernel_rfl) (fun h16 => ?_) (fun h16 => ?_)
    · replace h := stepL_true h16 h
      obtain ⟨v14, _, h15, h, rfl⟩ := h
      refine W_skip [0, 7, 8, 9] [] (fr' := [(0, aI a0), (7, aD (.slice tI) a1), (8, aI (List.length a1 : Int)), (9, aI i11)]) (L' := []) (by kernel_rfl) (by kernel_rfl) ?_
      refine seqQ_norm ?_
      refine W_seq (by kernel_rfl) ?_
      refine W_block (id := 1) (by kernel_rfl) ?_
      refine W_seq (by kernel_rfl) ?_
      refine W_run 3 [(1, .val (.dat tI v14))] [0, 6, 7, 8, 9] [] (fr' := [(0, aI a0), (6, aI v14), (7, aD (.slice tI) a1), (8, aI (List.length a1 : Int)), (9, aI i11)]) (L' := []) (obs := [Idx a1 i11 v14]) (by kernel_rfl) (by kernel_rfl) (by kernel_rfl) (allP1 (Idx.of h15)) ?_
      refine seqQ_norm ?_
      refine W_seq (by kernel_rfl) ?_
      refine W_run 7 [] [0, 7, 8, 9, 19] [] (fr' := [(0, aI a0), (7, aD (.slice tI) a1), (8, aI (List.length a1 : Int)), (9, aI i11), (19, aB ((decide (v14 < (0 : Int))) || (decide (v14 ≥ a0))))]) (L' := []) (obs := []) (by kernel_rfl) (by kernel_rfl) (by kernel_rfl) allP0 ?_
      refine seqQ_norm ?_
      refine W_cond (o := .tmp 19) (b := (decide (v14 < (0 : Int))) || (decide (v14 ≥ a0))) (by kernel_rfl) (by kernel_rfl) (fun h17 => ?_) (fun h17 => ?_)
      · replace h := ofT h17 h
        refine W_seq (by kernel_rfl) ?_
        refine W_run 1 [] [4] [] (fr' := [(4, aB false)]) (L' := []) (obs := []) (by kernel_rfl) (by kernel_rfl) (by kernel_rfl) allP0 ?_
        refine seqQ_norm ?_
        obtain rfl := Option.some.inj h
        refine W_ret [4] [] (fr' := [(4, aB false)]) (L' := []) (by kernel_rfl) (by kernel_rfl) ?_
        refine blockQ_ret ?_
        refine seqQ_ret ?_
        refine round_ret ?_
        refine escQ_ret ?_
        exact exQ_mk (by kernel_rfl) (by kernel_rfl)
      · replace h := ofF h17 h
        refine W_skip [0, 7, 8, 9] [] (fr' := [(0, aI a0), (7, aD (.slice tI) a1), (8, aI (List.length a1 : Int)), (9, aI i11)]) (L' := []) (by kernel_rfl) (by kernel_rfl) ?_
        refine blockQ_norm ?_
        refine seqQ_norm ?_
        obtain rfl := Option.some.inj h
        refine W_run 2 [] [0, 7, 8, 9] [] (fr' := [(0, aI a0), (7, aD (.slice tI) a1), (8, aI (List.length a1 : Int)), (9, aI (w64 (i11 + (1 : Int))))]) (L' := []) (obs := []) (by kernel_rfl) (by kernel_rfl) (by kernel_rfl) allP0 ?_
        exact round_next' (by kernel_rfl) (by kernel_rfl)
    · obtain rfl := stepL_false h16 h
      refine W_exit (id := 0) [] [] (fr' := []) (L' := []) (by kernel_rfl) (by kernel_rfl) ?_
      refine seqQ_exit ?_
      refine round_exit ?_
      refine escQ_brk ?_
      exact exQ_mk (by kernel_rfl) (by kernel_rfl)
  · intro e fr L hJ
    rcases v19 with v24 | v25
    · obtain ⟨rfl, rfl, rfl⟩ := hJ
      obtain rfl := Option.some.inj h
      refine LT_keep [4] [] (fr' := [(4, aB v24)]) (L' := []) (by kernel_rfl) ?_
      refine blockQ_ret ?_
      refine seqQ_ret ?_
      exact retQ_mk (by kernel_rfl) (by kernel_rfl) (by kernel_rfl)
    · obtain ⟨rfl, rfl, rfl⟩ := hJ
      refine LT_keep [] [] (fr' := []) (L' := []) (by kernel_rfl) ?_
      refine blockQ_hit ?_
      refine seqQ_norm ?_
      refine W_seq (by kernel_rfl) ?_
      refine W_run 1 [] [4] [] (fr' := [(4, aB true)]) (L' := []) (obs := []) (by kernel_rfl) (by kernel_rfl) (by kernel_rfl) allP0 ?_
      refine seqQ_norm ?_
      obtain rfl := Option.some.inj h
      refine W_ret [4] [] (fr' := [(4, aB true)]) (L' := []) (by kernel_rfl) (by kernel_rfl) ?_
      exact retQ_mk (by kernel_rfl) (by kernel_rfl) (by kernel_rfl)

def ref_OrdersCheck_g7 (a1 : (List (Int × (Int × (Int × Int))))) (v72 : (Int × (Int × (Int × Int)))) : Option Bool :=
(ref_Inside (w64 ((List.length a1 : Int) + (1 : Int))) [v72.2.2.1]).bind fun r96 =>
bif !r96 then
(some true)
else
(bif v72.1 == (2 : Int) then
((ref_Inside (w64 ((List.length a1 : Int) + (1 : Int))) [v72.2.2.2]).bind fun r100 =>
some (!r100))
else
(some false))
@[reducible] def ref_OrdersCheck_s8 (a0 : Int) (a1 : (List (Int × (Int × (Int × Int))))) (i69 : Int) (v : Bool) : Fr × LL := ([(0, aI a0), (1, aD (.slice (.pair tI (.pair tI (.pair tI tI)))) a1), (7, aD (.slice (.pair tI (.pair tI (.pair tI tI)))) a1), (8, aI (List.length a1 : Int)), (9, aI i69), (49, aB v)], [])
@[reducible] def ref_OrdersCheck_s9 (a0 : Int) (a1 : (List (Int × (Int × (Int × Int))))) (i69 : Int) (v72 : (Int × (Int × (Int × Int)))) (v : Bool) : Fr × LL := ([(0, aI a0), (1, aD (.slice (.pair tI (.pair tI (.pair tI tI)))) a1), (6, .one (.ptr 6 0)), (7, aD (.slice (.pair tI (.pair tI (.pair tI tI)))) a1), (8, aI (List.length a1 : Int)), (9, aI i69), (20, aB v)], [(6, .one (.pair tI (.pair tI (.pair tI tI))) v72)])
def ref_OrdersCheck_b10 (a0 : Int) (a1 : (List (Int × (Int × (Int × Int))))) (i69 : Int) (v72 : (Int × (Int × (Int × Int)))) (x70 : Unit) : Option (Flow Unit (Esc Int Unit)) :=
(bif v72.1 != (1 : Int) then
(some (v72.1 != (2 : Int)))
else
(some false)).bind fun v78 =>
bif v78 then
(some (.done (.ret (6 : Int))))
else
((ref_Inside a0 [v72.2.1]).bind fun r81 =>
bif !r81 then
(some (.done (.ret (2 : Int))))
else
((ref_OrdersCheck_g7 a1 v72).bind fun v102 =>
bif v102 then
(some (.done (.ret (3 : Int))))
else
(some (.next ()))))
@[reducible] def ref_OrdersCheck_s11 (a0 : Int) (a1 : (List (Int × (Int × (Int × Int))))) (v : Int × Unit) : Fr × LL := ([(0, aI a0), (1, aD (.slice (.pair tI (.pair tI (.pair tI tI)))) a1), (7, aD (.slice (.pair tI (.pair tI (.pair tI tI)))) a1), (8, aI (List.length a1 : Int)), (9, aI v.1)], [])
@[reducible] def ref_OrdersCheck_s12 (v : Int) : Fr × LL := ([(4, aI v)], [])
@[reducible] def ref_OrdersCheck_s13 (v : Unit) : Fr × LL := ([], [])
def ref_OrdersCheck (a0 : Int) (a1 : (List (Int × (Int × (Int × Int))))) : Option Int :=
(forL (ref_OrdersCheck_b10 a0 a1) (fun x70 => (.brk ())) a1 0 ()).bind fun v106 =>
match v106 with
| .ret v111 =>
(some v111)
| .brk v112 =>
(some (0 : Int))
theorem ref_OrdersCheck_ok {a0 : Int} {a1 : (List (Int × (Int × (Int × Int))))} {r : Int} (h : ref_OrdersCheck a0 a1 = some r) : FnC Try.prog 24 [aI a0, aD (.slice (.pair tI (.pair tI (.pair tI tI)))) a1] [] (aI r) [] := by
  refine fnC_of_W (B := bodyOf Try.f24) (n := 51) Try.func24 (by kernel_rfl) (by kernel_rfl) (by kernel_rfl) (by kernel_rfl) (by kernel_rfl) ?_
  intro K
  refine W_seq (by kernel_rfl) ?_
  refine W_run 1 [] [0, 1] [] (fr' := [(0, aI a0), (1, aD (.slice (.pair tI (.pair tI (.pair tI tI)))) a1)]) (L' := []) (obs := []) (by kernel_rfl) (by kernel_rfl) (by kernel_rfl) allP0 ?_
  refine seqQ_norm ?_
  refine W_seq (by kernel_rfl) ?_
  refine W_seq (by kernel_rfl) ?_
  refine W_run 3 [] [0, 1, 7, 8, 9] [] (fr' := [(0, aI a0), (1, aD (.slice (.pair tI (.pair tI (.pair tI tI)))) a1), (7, aD (.slice (.pair tI (.pair tI (.pair tI tI)))) a1), (8, aI (List.length a1 : Int)), (9, aI (0 : Int))]) (L' := []) (obs := []) (by kernel_rfl) (by kernel_rfl) (by kernel_rfl) allP0 ?_
  refine seqQ_norm ?_
  refine W_block (id := 0) (by kernel_rfl) ?_
  obtain ⟨v106, h107, h⟩ := bind_of h
  refine W_len (t := 7) (u := (.pair tI (.pair tI (.pair tI tI)))) (xs := a1) (by kernel_rfl) (fun h110 => ?_)
  obtain ⟨h108, h109⟩ := forL_iter h110 h107
  refine W_weaken [0, 1, 7, 8, 9] [] (fr' := ((ref_OrdersCheck_s11 a0 a1) ((0 : Int), ())).1) (L' := ((ref_OrdersCheck_s11 a0 a1) ((0 : Int), ())).2) (by kernel_rfl) ?_
  refine W_cutK (W_loop (S := (ref_OrdersCheck_s11 a0 a1)) (J := (escQ (exQ .ret ref_OrdersCheck_s12) (exQ (.exit 0) ref_OrdersCheck_s13))) (by kernel_rfl) ?_ h108 _ v106 h109) ?_
  · rintro ⟨i69, x70⟩ s h
    refine W_seq (by kernel_rfl) ?_
    refine W_run 1 [] [0, 1, 7, 8, 9, 10] [] (fr' := [(0, aI a0), (1, aD (.slice (.pair tI (.pair tI (.pair tI tI)))) a1), (7, aD (.slice (.pair tI (.pair tI (.pair tI tI)))) a1), (8, aI (List.length a1 : Int)), (9, aI i69), (10, aB (decide (i69 < (List.length a1 : Int))))]) (L' := []) (obs := []) (by kernel_rfl) (by kernel_rfl) (by kernel_rfl) allP0 ?_
    refine seqQ_norm ?_
    refine W_seq (by kernel_rfl) ?_
    refine W_cond (o := .tmp 10) (b := decide (i69 < (List.length a1 : Int))) (by kernel_rfl) (by kernel_rfl) (fun h74 => ?_) (fun h74 => ?_)
    · replace h := stepL_true h74 h
      obtain ⟨v72, _, h73, h, rfl⟩ := h
      refine W_skip [0, 1, 7, 8, 9] [] (fr' := [(0, aI a0), (1, aD (.slice (.pair tI (.pair tI (.pair tI tI)))) a1), (7, aD (.slice (.pair tI (.pair tI (.pair tI tI)))) a1), (8, aI (List.length a1 : Int)), (9, aI i69)]) (L' := []) (by kernel_rfl) (by kernel_rfl) ?_
      refine seqQ_norm ?_
      refine W_seq (by kernel_rfl) ?_
      refine W_block (id := 1) (by kernel_rfl) ?_
      refine W_seq (by kernel_rfl) ?_
      refine W_run 4 [(1, .val (.dat (.pair tI (.pair tI (.pair tI tI))) v72)), (5, .typed)] [0, 1, 6, 7, 8, 9] [6] (fr' := [(0, aI a0), (1, aD (.slice (.pair tI (.pair tI (.pair tI tI)))) a1), (6, .one (.ptr 6 0)), (7, aD (.slice (.pair tI (.pair tI (.pair tI tI)))) a1), (8, aI (List.length a1 : Int)), (9, aI i69)]) (L' := [(6, .one (.pair tI (.pair tI (.pair tI tI))) v72)]) (obs := [Idx a1 i69 v72, True]) (by kernel_rfl) (by kernel_rfl) (by kernel_rfl) (allP2 (Idx.of h73) (allP1 trivial)) ?_
      refine seqQ_norm ?_
      refine W_seq (by kernel_rfl) ?_
      refine W_seq (by kernel_rfl) ?_
      obtain ⟨v78, h79, h⟩ := bind_of h
      refine W_cutK (Q' := (exQ .normal (ref_OrdersCheck_s9 a0 a1 i69 v72)) v78) ?_ ?_
      · replace h := h79
        refine W_region (by kernel_rfl) ?_
        refine WO_run (j := 4) (k := 4) (orcs := []) (kF := [0, 1, 6, 7, 8, 9, 16]) (kL := [6]) (fr' := [(0, aI a0), (1, aD (.slice (.pair tI (.pair tI (.pair tI tI)))) a1), (6, .one (.ptr 6 0)), (7, aD (.slice (.pair tI (.pair tI (.pair tI tI)))) a1), (8, aI (List.length a1 : Int)), (9, aI i69), (16, aB (v72.1 != (1 : Int)))]) (L' := [(6, .one (.pair tI (.pair tI (.pair tI tI))) v72)]) (obs := []) rfl (by kernel_rfl) allP0 ?_
        rcases Bool.eq_false_or_eq_true (v72.1 != (1 : Int)) with h77 | h77
        · replace h := ofT h77 h
          refine WO_run (j := 8) (k := 4) (orcs := [(8, .known true), (10, .known true), (12, .known true), (15, .val (.dat .bool true))]) (kF := [0, 1, 6, 7, 8, 9, 20]) (kL := [6]) (fr' := [(0, aI a0), (1, aD (.slice (.pair tI (.pair tI (.pair tI tI)))) a1), (6, .one (.ptr 6 0)), (7, aD (.slice (.pair tI (.pair tI (.pair tI tI)))) a1), (8, aI (List.length a1 : Int)), (9, aI i69), (20, aB (v72.1 != (2 : Int)))]) (L' := [(6, .one (.pair tI (.pair tI (.pair tI tI))) v72)]) (obs := [((v72.1 != (1 : Int)) = true), ((v72.1 != (1 : Int)) = true), ((v72.1 != (1 : Int)) = true), ((v72.1 != (1 : Int)) = true)]) rfl (by kernel_rfl) (allP2 h77 (allP2 h77 (allP2 h77 (allP1 h77)))) ?_
          obtain rfl := Option.some.inj h
          refine WO_fin [0, 1, 6, 7, 8, 9, 20] [6] (fr' := [(0, aI a0), (1, aD (.slice (.pair tI (.pair tI (.pair tI tI)))) a1), (6, .one (.ptr 6 0)), (7, aD (.slice (.pair tI (.pair tI (.pair tI tI)))) a1), (8, aI (List.length a1 : Int)), (9, aI i69), (20, aB (v72.1 != (2 : Int)))]) (L' := [(6, .one (.pair tI (.pair tI (.pair tI tI))) v72)]) (by kernel_rfl) (by kernel_rfl) ?_
          exact exQ_mk (by kernel_rfl) (by kernel_rfl)
        · replace h := ofF h77 h
          refine WO_run (j := 8) (k := 4) (orcs := [(8, .known false), (10, .known false), (12, .known false), (15, .val (.dat .bool false))]) (kF := [0, 1, 6, 7, 8, 9, 20]) (kL := [6]) (fr' := [(0, aI a0), (1, aD (.slice (.pair tI (.pair tI (.pair tI tI)))) a1), (6, .one (.ptr 6 0)), (7, aD (.slice (.pair tI (.pair tI (.pair tI tI)))) a1), (8, aI (List.length a1 : Int)), (9, aI i69), (20, aB false)]) (L' := [(6, .one (.pair tI (.pair tI (.pair tI tI))) v72)]) (obs := [((v72.1 != (1 : Int)) = false), ((v72.1 != (1 : Int)) = false), ((v72.1 != (1 : Int)) = false), ((v72.1 != (1 : Int)) = false)]) rfl (by kernel_rfl) (allP2 h77 (allP2 h77 (allP2 h77 (allP1 h77)))) ?_
          obtain rfl := Option.some.inj h
          refine WO_fin [0, 1, 6, 7, 8, 9, 20] [6] (fr' := [(0, aI a0), (1, aD (.slice (.pair tI (.pair tI (.pair tI tI)))) a1), (6, .one (.ptr 6 0)), (7, aD (.slice (.pair tI (.pair tI (.pair tI tI)))) a1), (8, aI (List.length a1 : Int)), (9, aI i69), (20, aB false)]) (L' := [(6, .one (.pair tI (.pair tI (.pair tI tI))) v72)]) (by kernel_rfl) (by kernel_rfl) ?_
          exact exQ_mk (by kernel_rfl) (by kernel_rfl)
      · intro e fr L hJ
        obtain ⟨rfl, rfl, rfl⟩ := hJ
        refine LT_keep [0, 1, 6, 7, 8, 9, 20] [6] (fr' := [(0, aI a0), (1, aD (.slice (.pair tI (.pair tI (.pair tI tI)))) a1), (6, .one (.ptr 6 0)), (7, aD (.slice (.pair tI (.pair tI (.pair tI tI)))) a1), (8, aI (List.length a1 : Int)), (9, aI i69), (20, aB v78)]) (L' := [(6, .one (.pair tI (.pair tI (.pair tI tI))) v72)]) (by kernel_rfl) ?_
        refine seqQ_norm ?_
        refine W_cond (o := .tmp 20) (b := v78) (by kernel_rfl) (by kernel_rfl) (fun h80 => ?_) (fun h80 => ?_)
        · replace h := ofT h80 h
          refine W_seq (by kernel_rfl) ?_
          refine W_run 1 [] [4] [] (fr' := [(4, aI (6 : Int))]) (L' := []) (obs := []) (by kernel_rfl) (by kernel_rfl) (by kernel_rfl) allP0 ?_
          refine seqQ_norm ?_
          obtain rfl := Option.some.inj h
          refine W_ret [4] [] (fr' := [(4, aI (6 : Int))]) (L' := []) (by kernel_rfl) (by kernel_rfl) ?_
          refine seqQ_ret ?_
          refine blockQ_ret ?_
          refine seqQ_ret ?_
          refine round_ret ?_
          refine escQ_ret ?_
          exact exQ_mk (by kernel_rfl) (by kernel_rfl)
        · replace h := ofF h80 h
          refine W_skip [0, 1, 6, 7, 8, 9] [6] (fr' := [(0, aI a0), (1, aD (.slice (.pair tI (.pair tI (.pair tI tI)))) a1), (6, .one (.ptr 6 0)), (7, aD (.slice (.pair tI (.pair tI (.pair tI tI)))) a1), (8, aI (List.length a1 : Int)), (9, aI i69)]) (L' := [(6, .one (.pair tI (.pair tI (.pair tI tI))) v72)]) (by kernel_rfl) (by kernel_rfl) ?_
          refine seqQ_norm ?_
          refine W_seq (by kernel_rfl) ?_
          refine W_seq (by kernel_rfl) ?_
          refine W_region (by kernel_rfl) ?_
          refine WO_run (j := 4) (k := 4) (orcs := []) (kF := [0, 1, 6, 7, 8, 9, 21, 24]) (kL := [6, 24]) (fr' := [(0, aI a0), (1, aD (.slice (.pair tI (.pair tI (.pair tI tI)))) a1), (6, .one (.ptr 6 0)), (7, aD (.slice (.pair tI (.pair tI (.pair tI tI)))) a1), (8, aI (List.length a1 : Int)), (9, aI i69), (21, aI a0), (24, .one (.slc 24))]) (L' := [(6, .one (.pair tI (.pair tI (.pair tI tI))) v72), (24, .seq tI [v72.2.1])]) (obs := []) rfl (by kernel_rfl) allP0 ?_
          obtain ⟨r81, h82, h⟩ := bind_of h
          refine WO_frz 24 (by kernel_rfl) ?_
          refine WO_call0 (us := [none, none]) (d := 25) (p := True) (j := 5) rfl ⟨by kernel_rfl, by kernel_rfl, by kernel_rfl⟩ trivial (ref_Inside_ok h82) (by kernel_rfl) ?_
          refine WO_run (j := 6) (k := 1) (orcs := []) (kF := [0, 1, 6, 7, 8, 9, 26]) (kL := [6]) (fr' := [(0, aI a0), (1, aD (.slice (.pair tI (.pair tI (.pair tI tI)))) a1), (6, .one (.ptr 6 0)), (7, aD (.slice (.pair tI (.pair tI (.pair tI tI)))) a1), (8, aI (List.length a1 : Int)), (9, aI i69), (26, aB (!r81))]) (L' := [(6, .one (.pair tI (.pair tI (.pair tI tI))) v72)]) (obs := []) rfl (by kernel_rfl) allP0 ?_
          refine WO_fin [0, 1, 6, 7, 8, 9, 26] [6] (fr' := [(0, aI a0), (1, aD (.slice (.pair tI (.pair tI (.pair tI tI)))) a1), (6, .one (.ptr 6 0)), (7, aD (.slice (.pair tI (.pair tI (.pair tI tI)))) a1), (8, aI (List.length a1 : Int)), (9, aI i69), (26, aB (!r81))]) (L' := [(6, .one (.pair tI (.pair tI (.pair tI tI))) v72)]) (by kernel_rfl) (by kernel_rfl) ?_
          refine seqQ_norm ?_
          refine W_cond (o := .tmp 26) (b := !r81) (by kernel_rfl) (by kernel_rfl) (fun h83 => ?_) (fun h83 => ?_)
          · replace h := ofT h83 h
            refine W_seq (by kernel_rfl) ?_
            refine W_run 1 [] [4] [] (fr' := [(4, aI (2 : Int))]) (L' := []) (obs := []) (by kernel_rfl) (by kernel_rfl) (by kernel_rfl) allP0 ?_
            refine seqQ_norm ?_
            obtain rfl := Option.some.inj h
            refine W_ret [4] [] (fr' := [(4, aI (2 : Int))]) (L' := []) (by kernel_rfl) (by kernel_rfl) ?_
            refine seqQ_ret ?_
            refine blockQ_ret ?_
            refine seqQ_ret ?_
            refine round_ret ?_
            refine escQ_ret ?_
            exact exQ_mk (by kernel_rfl) (by kernel_rfl)
          · replace h := ofF h83 h
            refine W_skip [0, 1, 6, 7, 8, 9] [6] (fr' := [(0, aI a0), (1, aD (.slice (.pair tI (.pair tI (.pair tI tI)))) a1), (6, .one (.ptr 6 0)), (7, aD (.slice (.pair tI (.pair tI (.pair tI tI)))) a1), (8, aI (List.length a1 : Int)), (9, aI i69)]) (L' := [(6, .one (.pair tI (.pair tI (.pair tI tI))) v72)]) (by kernel_rfl) (by kernel_rfl) ?_
            refine seqQ_norm ?_
            refine W_seq (by kernel_rfl) ?_
            obtain ⟨v102, h103, h⟩ := bind_of h
            refine W_cutK (Q' := (exQ .normal (ref_OrdersCheck_s8 a0 a1 i69)) v102) ?_ ?_
            · replace h := h103
              refine W_region (by kernel_rfl) ?_
              refine WO_run (j := 6) (k := 6) (orcs := []) (kF := [0, 1, 6, 7, 8, 9, 29, 32]) (kL := [6, 32]) (fr' := [(0, aI a0), (1, aD (.slice (.pair tI (.pair tI (.pair tI tI)))) a1), (6, .one (.ptr 6 0)), (7, aD (.slice (.pair tI (.pair tI (.pair tI tI)))) a1), (8, aI (List.length a1 : Int)), (9, aI i69), (29, aI (w64 ((List.length a1 : Int) + (1 : Int)))), (32, .one (.slc 32))]) (L' := [(6, .one (.pair tI (.pair tI (.pair tI tI))) v72), (32, .seq tI [v72.2.2.1])]) (obs := []) rfl (by kernel_rfl) allP0 ?_
              obtain ⟨r96, h97, h⟩ := bind_of h
              refine WO_frz 32 (by kernel_rfl) ?_
              refine WO_call0 (us := [none, none]) (d := 33) (p := True) (j := 7) rfl ⟨by kernel_rfl, by kernel_rfl, by kernel_rfl⟩ trivial (ref_Inside_ok h97) (by kernel_rfl) ?_
              refine WO_run (j := 9) (k := 2) (orcs := []) (kF := [0, 1, 6, 7, 8, 9, 35]) (kL := [6]) (fr' := [(0, aI a0), (1, aD (.slice (.pair tI (.pair tI (.pair tI tI)))) a1), (6, .one (.ptr 6 0)), (7, aD (.slice (.pair tI (.pair tI (.pair tI tI)))) a1), (8, aI (List.length a1 : Int)), (9, aI i69), (35, aB (!r96))]) (L' := [(6, .one (.pair tI (.pair tI (.pair tI tI))) v72)]) (obs := []) rfl (by kernel_rfl) allP0 ?_
              rcases Bool.eq_false_or_eq_true (!r96) with h98 | h98
              · replace h := ofT h98 h
                refine WO_run (j := 23) (k := 14) (orcs := [(18, .known true), (20, .known true), (22, .known true), (24, .known true), (26, .known true), (28, .known true), (30, .known true), (32, .known true), (34, .known true), (36, .known true), (38, .known true), (40, .known true), (42, .known true), (45, .val (.dat .bool true))]) (kF := [0, 1, 7, 8, 9, 49]) (kL := [6]) (fr' := [(0, aI a0), (1, aD (.slice (.pair tI (.pair tI (.pair tI tI)))) a1), (7, aD (.slice (.pair tI (.pair tI (.pair tI tI)))) a1), (8, aI (List.length a1 : Int)), (9, aI i69), (49, aB true)]) (L' := [(6, .one (.pair tI (.pair tI (.pair tI tI))) v72)]) (obs := [((!r96) = true), ((!r96) = true), ((!r96) = true), ((!r96) = true), ((!r96) = true), ((!r96) = true)]) rfl (by kernel_rfl) (allP2 h98 (allP2 h98 (allP2 h98 (allP2 h98 (allP2 h98 (allP1 h98)))))) ?_
                obtain rfl := Option.some.inj h
                refine WO_fin [0, 1, 7, 8, 9, 49] [] (fr' := [(0, aI a0), (1, aD (.slice (.pair tI (.pair tI (.pair tI tI)))) a1), (7, aD (.slice (.pair tI (.pair tI (.pair tI tI)))) a1), (8, aI (List.length a1 : Int)), (9, aI i69), (49, aB true)]) (L' := []) (by kernel_rfl) (by kernel_rfl) ?_
                exact exQ_mk (by kernel_rfl) (by kernel_rfl)
              · replace h := ofF h98 h
                refine WO_run (j := 13) (k := 4) (orcs := [(18, .known false), (20, .known false), (22, .known false), (24, .known false)]) (kF := [0, 1, 6, 7, 8, 9, 35, 39]) (kL := [6]) (fr' := [(0, aI a0), (1, aD (.slice (.pair tI (.pair tI (.pair tI tI)))) a1), (6, .one (.ptr 6 0)), (7, aD (.slice (.pair tI (.pair tI (.pair tI tI)))) a1), (8, aI (List.length a1 : Int)), (9, aI i69), (35, aB (!r96)), (39, aB (v72.1 == (2 : Int)))]) (L' := [(6, .one (.pair tI (.pair tI (.pair tI tI))) v72)]) (obs := [((!r96) = false), ((!r96) = false), ((!r96) = false), ((!r96) = false)]) rfl (by kernel_rfl) (allP2 h98 (allP2 h98 (allP2 h98 (allP1 h98)))) ?_
                rcases Bool.eq_false_or_eq_true (v72.1 == (2 : Int)) with h99 | h99
                · replace h := ofT h99 h
                  refine WO_run (j := 19) (k := 6) (orcs := [(26, .known true), (28, .known true), (30, .known true), (32, .known true), (34, .known true), (36, .known true)]) (kF := [0, 1, 7, 8, 9, 35, 39, 42, 45]) (kL := [6, 45]) (fr' := [(0, aI a0), (1, aD (.slice (.pair tI (.pair tI (.pair tI tI)))) a1), (7, aD (.slice (.pair tI (.pair tI (.pair tI tI)))) a1), (8, aI (List.length a1 : Int)), (9, aI i69), (35, aB (!r96)), (39, aB (v72.1 == (2 : Int))), (42, aI (w64 ((List.length a1 : Int) + (1 : Int)))), (45, .one (.slc 45))]) (L' := [(6, .one (.pair tI (.pair tI (.pair tI tI))) v72), (45, .seq tI [v72.2.2.2])]) (obs := [((v72.1 == (2 : Int)) = true), ((v72.1 == (2 : Int)) = true), ((v72.1 == (2 : Int)) = true), ((v72.1 == (2 : Int)) = true), ((v72.1 == (2 : Int)) = true), ((v72.1 == (2 : Int)) = true)]) rfl (by kernel_rfl) (allP2 h99 (allP2 h99 (allP2 h99 (allP2 h99 (allP2 h99 (allP1 h99)))))) ?_
                  obtain ⟨r100, h101, h⟩ := bind_of h
                  refine WO_frz 45 (by kernel_rfl) ?_
                  refine WO_call0 (us := [none, none]) (d := 46) (p := ((v72.1 == (2 : Int)) = true)) (j := 20) rfl ⟨by kernel_rfl, by kernel_rfl, by kernel_rfl⟩ h99 (ref_Inside_ok h101) (by kernel_rfl) ?_
                  refine WO_run (j := 23) (k := 3) (orcs := [(40, .known true), (42, .known false), (43, .val (.dat .bool true)), (45, .val (.dat .bool false))]) (kF := [0, 1, 7, 8, 9, 49]) (kL := [6]) (fr' := [(0, aI a0), (1, aD (.slice (.pair tI (.pair tI (.pair tI tI)))) a1), (7, aD (.slice (.pair tI (.pair tI (.pair tI tI)))) a1), (8, aI (List.length a1 : Int)), (9, aI i69), (49, aB (!r100))]) (L' := [(6, .one (.pair tI (.pair tI (.pair tI tI))) v72)]) (obs := [((v72.1 == (2 : Int)) = true), ((!r96) = false), ((v72.1 == (2 : Int)) = true), ((!r96) = false)]) rfl (by kernel_rfl) (allP2 h99 (allP2 h98 (allP2 h99 (allP1 h98)))) ?_
                  obtain rfl := Option.some.inj h
                  refine WO_fin [0, 1, 7, 8, 9, 49] [] (fr' := [(0, aI a0), (1, aD (.slice (.pair tI (.pair tI (.pair tI tI)))) a1), (7, aD (.slice (.pair tI (.pair tI (.pair tI tI)))) a1), (8, aI (List.length a1 : Int)), (9, aI i69), (49, aB (!r100))]) (L' := []) (by kernel_rfl) (by kernel_rfl) ?_
                  exact exQ_mk (by kernel_rfl) (by kernel_rfl)
                · replace h := ofF h99 h
                  refine WO_run (j := 23) (k := 10) (orcs := [(26, .known false), (28, .known false), (30, .known false), (32, .known false), (34, .known false), (36, .known false), (38, .known false), (40, .known false), (42, .known false), (43, .val (.dat .bool false)), (45, .val (.dat .bool false))]) (kF := [0, 1, 7, 8, 9, 49]) (kL := [6]) (fr' := [(0, aI a0), (1, aD (.slice (.pair tI (.pair tI (.pair tI tI)))) a1), (7, aD (.slice (.pair tI (.pair tI (.pair tI tI)))) a1), (8, aI (List.length a1 : Int)), (9, aI i69), (49, aB false)]) (L' := [(6, .one (.pair tI (.pair tI (.pair tI tI))) v72)]) (obs := [((v72.1 == (2 : Int)) = false), ((v72.1 == (2 : Int)) = false), ((v72.1 == (2 : Int)) = false), ((v72.1 == (2 : Int)) = false), ((v72.1 == (2 : Int)) = false), ((v72.1 == (2 : Int)) = false), ((v72.1 == (2 : Int)) = false), ((v72.1 == (2 : Int)) = false), ((!r96) = false), ((v72.1 == (2 : Int)) = false), ((!r96) = false)]) rfl (by kernel_rfl) (allP2 h99 (allP2 h99 (allP2 h99 (allP2 h99 (allP2 h99 (allP2 h99 (allP2 h99 (allP2 h99 (allP2 h98 (allP2 h99 (allP1 h98))))))))))) ?_
                  obtain rfl := Option.some.inj h
                  refine WO_fin [0, 1, 7, 8, 9, 49] [] (fr' := [(0, aI a0), (1, aD (.slice (.pair tI (.pair tI (.pair tI tI)))) a1), (7, aD (.slice (.pair tI (.pair tI (.pair tI tI)))) a1), (8, aI (List.length a1 : Int)), (9, aI i69), (49, aB false)]) (L' := []) (by kernel_rfl) (by kernel_rfl) ?_
                  exact exQ_mk (by kernel_rfl) (by kernel_rfl)
            · intro e fr L hJ
              obtain ⟨rfl, rfl, rfl⟩ := hJ
              refine LT_keep [0, 1, 7, 8, 9, 49] [] (fr' := [(0, aI a0), (1, aD (.slice (.pair tI (.pair tI (.pair tI tI)))) a1), (7, aD (.slice (.pair tI (.pair tI (.pair tI tI)))) a1), (8, aI (List.length a1 : Int)), (9, aI i69), (49, aB v102)]) (L' := []) (by kernel_rfl) ?_
              refine seqQ_norm ?_
              refine W_cond (o := .tmp 49) (b := v102) (by kernel_rfl) (by kernel_rfl) (fun h104 => ?_) (fun h104 => ?_)
              · replace h := ofT h104 h
                refine W_seq (by kernel_rfl) ?_
                refine W_run 1 [] [4] [] (fr' := [(4, aI (3 : Int))]) (L' := []) (obs := []) (by kernel_rfl) (by kernel_rfl) (by kernel_rfl) allP0 ?_
                refine seqQ_norm ?_
                obtain rfl := Option.some.inj h
                refine W_ret [4] [] (fr' := [(4, aI (3 : Int))]) (L' := []) (by kernel_rfl) (by kernel_rfl) ?_
                refine blockQ_ret ?_
                refine seqQ_ret ?_
                refine round_ret ?_
                refine escQ_ret ?_
                exact exQ_mk (by kernel_rfl) (by kernel_rfl)
              · replace h := ofF h104 h
                refine W_skip [0, 1, 7, 8, 9] [] (fr' := [(0, aI a0), (1, aD (.slice (.pair tI (.pair tI (.pair tI tI)))) a1), (7, aD (.slice (.pair tI (.pair tI (.pair tI tI)))) a1), (8, aI (List.length a1 : Int)), (9, aI i69)]) (L' := []) (by kernel_rfl) (by kernel_rfl) ?_
                refine blockQ_norm ?_
                refine seqQ_norm ?_
                obtain rfl := Option.some.inj h
                refine W_run 2 [] [0, 1, 7, 8, 9] [] (fr' := [(0, aI a0), (1, aD (.slice (.pair tI (.pair tI (.pair tI tI)))) a1), (7, aD (.slice (.pair tI (.pair tI (.pair tI tI)))) a1), (8, aI (List.length a1 : Int)), (9, aI (w64 (i69 + (1 : Int))))]) (L' := []) (obs := []) (by kernel_rfl) (by kernel_rfl) (by kernel_rfl) allP0 ?_
                exact round_next' (by kernel_rfl) (by kernel_rfl)
    · obtain rfl := stepL_false h74 h
      refine W_exit (id := 0) [] [] (fr' := []) (L' := []) (by kernel_rfl) (by kernel_rfl) ?_
      refine seqQ_exit ?_
      refine round_exit ?_
      refine escQ_brk ?_
      exact exQ_mk (by kernel_rfl) (by kernel_rfl)
  · intro e fr L hJ
    rcases v106 with v111 | v112
    · obtain ⟨rfl, rfl, rfl⟩ := hJ
      obtain rfl := Option.some.inj h
      refine LT_keep [4] [] (fr' := [(4, aI v111)]) (L' := []) (by kernel_rfl) ?_
      refine blockQ_ret ?_
      refine seqQ_ret ?_
      exact retQ_mk (by kernel_rfl) (by kernel_rfl) (by kernel_rfl)
    · obtain ⟨rfl, rfl, rfl⟩ := hJ
      refine LT_keep [] [] (fr' := []) (L' := []) (by kernel_rfl) ?_
      refine blockQ_hit ?_
      refine seqQ_norm ?_
      refine W_seq (by kernel_rfl) ?_
      refine W_run 1 [] [4] [] (fr' := [(4, aI (0 : Int))]) (L' := []) (obs := []) (by kernel_rfl) (by kernel_rfl) (by kernel_rfl) allP0 ?_
      refine seqQ_norm ?_
      obtain rfl := Option.some.inj h
      refine W_ret [4] [] (fr' := [(4, aI (0 : Int))]) (L' := []) (by kernel_rfl) (by kernel_rfl) ?_
      exact retQ_mk (by kernel_rfl) (by kernel_rfl) (by kernel_rfl)

def ref_CountCheck_g1 (a0 : Int) (a1 : (List (Int × (Int × (Int × Int))))) : Option Bool :=
(ref_Within (1 : Int) a0 (4 : Int)).bind fun r11 =>
bif !r11 then
(some true)
else
((ref_Within (1 : Int) (List.length a1 : Int) (12 : Int)).bind fun r14 =>
some (!r14))
@[reducible] def ref_CountCheck_s2 (a0 : Int) (a1 : (List (Int × (Int × (Int × Int))))) (v : Bool) : Fr × LL := ([(0, aI a0), (1, aD (.slice (.pair tI (.pair tI (.pair tI tI)))) a1), (13, aB v)], [])
def ref_CountCheck (a0 : Int) (a1 : (List (Int × (Int × (Int × Int))))) : Option Int :=
(ref_CountCheck_g1 a0 a1).bind fun v16 =>
bif v16 then
(some (1 : Int))
else
((ref_OrdersCheck a0 a1).bind fun r19 =>
some r19)
theorem ref_CountCheck_ok {a0 : Int} {a1 : (List (Int × (Int × (Int × Int))))} {r : Int} (h : ref_CountCheck a0 a1 = some r) : FnC Try.prog 14 [aI a0, aD (.slice (.pair tI (.pair tI (.pair tI tI)))) a1] [] (aI r) [] := by
  refine fnC_of_W (B := bodyOf Try.f14) (n := 17) Try.func14 (by kernel_rfl) (by kernel_rfl) (by kernel_rfl) (by kernel_rfl) (by kernel_rfl) ?_
  intro K
  refine W_seq (by kernel_rfl) ?_
  refine W_run 1 [] [0, 1] [] (fr' := [(0, aI a0), (1, aD (.slice (.pair tI (.pair tI (.pair tI tI)))) a1)]) (L' := []) (obs := []) (by kernel_rfl) (by kernel_rfl) (by kernel_rfl) allP0 ?_
  refine seqQ_norm ?_
  refine W_seq (by kernel_rfl) ?_
  refine W_seq (by kernel_rfl) ?_
  obtain ⟨v16, h17, h⟩ := bind_of h
  refine W_cutK (Q' := (exQ .normal (ref_CountCheck_s2 a0 a1)) v16) ?_ ?_
  · replace h := h17
    refine W_region (by kernel_rfl) ?_
    refine WO_run (j := 1) (k := 1) (orcs := []) (kF := [0, 1, 5]) (kL := []) (fr' := [(0, aI a0), (1, aD (.slice (.pair tI (.pair tI (.pair tI tI)))) a1), (5, aI a0)]) (L' := []) (obs := []) rfl (by kernel_rfl) allP0 ?_
    obtain ⟨r11, h12, h⟩ := bind_of h
    refine WO_call0 (us := [none, none, none]) (d := 6) (p := True) (j := 2) rfl ⟨by kernel_rfl, by kernel_rfl, by kernel_rfl⟩ trivial (ref_Within_ok h12) (by kernel_rfl) ?_
    refine WO_run (j := 4) (k := 2) (orcs := []) (kF := [0, 1, 8]) (kL := []) (fr' := [(0, aI a0), (1, aD (.slice (.pair tI (.pair tI (.pair tI tI)))) a1), (8, aB (!r11))]) (L' := []) (obs := []) rfl (by kernel_rfl) allP0 ?_
    rcases Bool.eq_false_or_eq_true (!r11) with h13 | h13
    · replace h := ofT h13 h
      refine WO_run (j := 9) (k := 5) (orcs := [(8, .known true), (10, .known true), (12, .known true), (14, .known true), (17, .val (.dat .bool true))]) (kF := [0, 1, 13]) (kL := []) (fr' := [(0, aI a0), (1, aD (.slice (.pair tI (.pair tI (.pair tI tI)))) a1), (13, aB true)]) (L' := []) (obs := [((!r11) = true), ((!r11) = true), ((!r11) = true), ((!r11) = true), ((!r11) = true)]) rfl (by kernel_rfl) (allP2 h13 (allP2 h13 (allP2 h13 (allP2 h13 (allP1 h13))))) ?_
      obtain rfl := Option.some.inj h
      refine WO_fin [0, 1, 13] [] (fr' := [(0, aI a0), (1, aD (.slice (.pair tI (.pair tI (.pair tI tI)))) a1), (13, aB true)]) (L' := []) (by kernel_rfl) (by kernel_rfl) ?_
      exact exQ_mk (by kernel_rfl) (by kernel_rfl)
    · replace h := ofF h13 h
      refine WO_run (j := 6) (k := 2) (orcs := [(8, .known false), (10, .known false)]) (kF := [0, 1, 8, 10]) (kL := []) (fr' := [(0, aI a0), (1, aD (.slice (.pair tI (.pair tI (.pair tI tI)))) a1), (8, aB (!r11)), (10, aI (List.length a1 : Int))]) (L' := []) (obs := [((!r11) = false), ((!r11) = false)]) rfl (by kernel_rfl) (allP2 h13 (allP1 h13)) ?_
      obtain ⟨r14, h15, h⟩ := bind_of h
      refine WO_call0 (us := [none, none, none]) (d := 11) (p := ((!r11) = false)) (j := 7) rfl ⟨by kernel_rfl, by kernel_rfl, by kernel_rfl⟩ h13 (ref_Within_ok h15) (by kernel_rfl) ?_
      refine WO_run (j := 9) (k := 2) (orcs := [(14, .known false), (17, .val (.dat .bool false))]) (kF := [0, 1, 13]) (kL := []) (fr' := [(0, aI a0), (1, aD (.slice (.pair tI (.pair tI (.pair tI tI)))) a1), (13, aB (!r14))]) (L' := []) (obs := [((!r11) = false), ((!r11) = false)]) rfl (by kernel_rfl) (allP2 h13 (allP1 h13)) ?_
      obtain rfl := Option.some.inj h
      refine WO_fin [0, 1, 13] [] (fr' := [(0, aI a0), (1, aD (.slice (.pair tI (.pair tI (.pair tI tI)))) a1), (13, aB (!r14))]) (L' := []) (by kernel_rfl) (by kernel_rfl) ?_
      exact exQ_mk (by kernel_rfl) (by kernel_rfl)
  · intro e fr L hJ
    obtain ⟨rfl, rfl, rfl⟩ := hJ
    refine LT_keep [0, 1, 13] [] (fr' := [(0, aI a0), (1, aD (.slice (.pair tI (.pair tI (.pair tI tI)))) a1), (13, aB v16)]) (L' := []) (by kernel_rfl) ?_
    refine seqQ_norm ?_
    refine W_cond (o := .tmp 13) (b := v16) (by kernel_rfl) (by kernel_rfl) (fun h18 => ?_) (fun h18 => ?_)
    · replace h := ofT h18 h
      refine W_seq (by kernel_rfl) ?_
      refine W_run 1 [] [4] [] (fr' := [(4, aI (1 : Int))]) (L' := []) (obs := []) (by kernel_rfl) (by kernel_rfl) (by kernel_rfl) allP0 ?_
      refine seqQ_norm ?_
      obtain rfl := Option.some.inj h
      refine W_ret [4] [] (fr' := [(4, aI (1 : Int))]) (L' := []) (by kernel_rfl) (by kernel_rfl) ?_
      refine seqQ_ret ?_
      exact retQ_mk (by kernel_rfl) (by kernel_rfl) (by kernel_rfl)
    · replace h := ofF h18 h
      refine W_skip [0, 1] [] (fr' := [(0, aI a0), (1, aD (.slice (.pair tI (.pair tI (.pair tI tI)))) a1)]) (L' := []) (by kernel_rfl) (by kernel_rfl) ?_
      refine seqQ_norm ?_
      refine W_seq (by kernel_rfl) ?_
      refine W_region (by kernel_rfl) ?_
      refine WO_run (j := 2) (k := 2) (orcs := []) (kF := [14, 15]) (kL := []) (fr' := [(14, aI a0), (15, aD (.slice (.pair tI (.pair tI (.pair tI tI)))) a1)]) (L' := []) (obs := []) rfl (by kernel_rfl) allP0 ?_
      obtain ⟨r19, h20, h⟩ := bind_of h
      refine WO_call0 (us := [none, none]) (d := 16) (p := True) (j := 3) rfl ⟨by kernel_rfl, by kernel_rfl, by kernel_rfl⟩ trivial (ref_OrdersCheck_ok h20) (by kernel_rfl) ?_
      refine WO_run (j := 4) (k := 1) (orcs := []) (kF := [4]) (kL := []) (fr' := [(4, aI r19)]) (L' := []) (obs := []) rfl (by kernel_rfl) allP0 ?_
      refine WO_fin [4] [] (fr' := [(4, aI r19)]) (L' := []) (by kernel_rfl) (by kernel_rfl) ?_
      refine seqQ_norm ?_
      obtain rfl := Option.some.inj h
      refine W_ret [4] [] (fr' := [(4, aI r19)]) (L' := []) (by kernel_rfl) (by kernel_rfl) ?_
      exact retQ_mk (by kernel_rfl) (by kernel_rfl) (by kernel_rfl)

def ref_Ints_b1 (a1 : (List Int)) (i16 : Int) (v19 : Int) (x17 : Unit) : Option (Flow Unit (Esc Bool Unit)) :=
(idx a1 i16).bind fun v22 =>
bif v19 != v22 then
(some (.done (.ret false)))
else
(some (.next ()))
@[reducible] def ref_Ints_s2 (a0 : (List Int)) (a1 : (List Int)) (v : Int × Unit) : Fr × LL := ([(0, aD (.slice tI) a0), (1, aD (.slice tI) a1), (5, aI v.1)], [])
@[reducible] def ref_Ints_s3 (v : Bool) : Fr × LL := ([(4, aB v)], [])
@[reducible] def ref_Ints_s4 (v : Unit) : Fr × LL := ([], [])
def ref_Ints (a0 : (List Int)) (a1 : (List Int)) : Option Bool :=
bif (List.length a0 : Int) != (List.length a1 : Int) then
(some false)
else
((forL (ref_Ints_b1 a1) (fun x17 => (.brk ())) a0 0 ()).bind fun v26 =>
match v26 with
| .ret v31 =>
(some v31)
| .brk v32 =>
(some true))
theorem ref_Ints_ok {a0 : (List Int)} {a1 : (List Int)} {r : Bool} (h : ref_Ints a0 a1 = some r) : FnC Try.prog 15 [aD (.slice tI) a0, aD (.slice tI) a1] [] (aB r) [] := by
  refine fnC_of_W (B := bodyOf Try.f15) (n := 26) Try.func15 (by kernel_rfl) (by kernel_rfl) (by kernel_rfl) (by kernel_rfl) (by kernel_rfl) ?_
  intro K
  refine W_seq (by kernel_rfl) ?_
  refine W_run 1 [] [0, 1] [] (fr' := [(0, aD (.slice tI) a0), (1, aD (.slice tI) a1)]) (L' := []) (obs := []) (by kernel_rfl) (by kernel_rfl) (by kernel_rfl) allP0 ?_
  refine seqQ_norm ?_
  refine W_seq (by kernel_rfl) ?_
  refine W_seq (by kernel_rfl) ?_
  refine W_run 5 [] [0, 1, 10] [] (fr' := [(0, aD (.slice tI) a0), (1, aD (.slice tI) a1), (10, aB ((List.length a0 : Int) != (List.length a1 : Int)))]) (L' := []) (obs := []) (by kernel_rfl) (by kernel_rfl) (by kernel_rfl) allP0 ?_
  refine seqQ_norm ?_
  refine W_cond (o := .tmp 10) (b := (List.length a0 : Int) != (List.length a1 : Int)) (by kernel_rfl) (by kernel_rfl) (fun h1 => ?_) (fun h1 => ?_)
  · replace h := ofT h1 h
    refine W_seq (by kernel_rfl) ?_
    refine W_run 1 [] [4] [] (fr' := [(4, aB false)]) (L' := []) (obs := []) (by kernel_rfl) (by kernel_rfl) (by kernel_rfl) allP0 ?_
    refine seqQ_norm ?_
    obtain rfl := Option.some.inj h
    refine W_ret [4] [] (fr' := [(4, aB false)]) (L' := []) (by kernel_rfl) (by kernel_rfl) ?_
    refine seqQ_ret ?_
    exact retQ_mk (by kernel_rfl) (by kernel_rfl) (by kernel_rfl)
  · replace h := ofF h1 h
    refine W_skip [0, 1] [] (fr' := [(0, aD (.slice tI) a0), (1, aD (.slice tI) a1)]) (L' := []) (by kernel_rfl) (by kernel_rfl) ?_
    refine seqQ_norm ?_
    refine W_seq (by kernel_rfl) ?_
    refine W_seq (by kernel_rfl) ?_
    refine W_run 1 [] [0, 1, 5] [] (fr' := [(0, aD (.slice tI) a0), (1, aD (.slice tI) a1), (5, aI (0 : Int))]) (L' := []) (obs := []) (by kernel_rfl) (by kernel_rfl) (by kernel_rfl) allP0 ?_
    refine seqQ_norm ?_
    refine W_block (id := 0) (by kernel_rfl) ?_
    obtain ⟨v26, h27, h⟩ := bind_of h
    refine W_len (t := 0) (u := tI) (xs := a0) (by kernel_rfl) (fun h30 => ?_)
    obtain ⟨h28, h29⟩ := forL_iter h30 h27
    refine W_weaken [0, 1, 5] [] (fr' := ((ref_Ints_s2 a0 a1) ((0 : Int), ())).1) (L' := ((ref_Ints_s2 a0 a1) ((0 : Int), ())).2) (by kernel_rfl) ?_
    refine W_cutK (W_loop (S := (ref_Ints_s2 a0 a1)) (J := (escQ (exQ .ret ref_Ints_s3) (exQ (.exit 0) ref_Ints_s4))) (by kernel_rfl) ?_ h28 _ v26 h29) ?_
    · rintro ⟨i16, x17⟩ s h
      refine W_seq (by kernel_rfl) ?_
      refine W_seq (by kernel_rfl) ?_
      refine W_run 4 [] [0, 1, 5, 14] [] (fr' := [(0, aD (.slice tI) a0), (1, aD (.slice tI) a1), (5, aI i16), (14, aB (decide (i16 < (List.length a0 : Int))))]) (L' := []) (obs := []) (by kernel_rfl) (by kernel_rfl) (by kernel_rfl) allP0 ?_
      refine seqQ_norm ?_
      refine W_cond (o := .tmp 14) (b := decide (i16 < (List.length a0 : Int))) (by kernel_rfl) (by kernel_rfl) (fun h21 => ?_) (fun h21 => ?_)
      · replace h := stepL_true h21 h
        obtain ⟨v19, _, h20, h, rfl⟩ := h
        refine W_skip [0, 1, 5] [] (fr' := [(0, aD (.slice tI) a0), (1, aD (.slice tI) a1), (5, aI i16)]) (L' := []) (by kernel_rfl) (by kernel_rfl) ?_
        refine seqQ_norm ?_
        refine W_seq (by kernel_rfl) ?_
        refine W_block (id := 1) (by kernel_rfl) ?_
        refine W_seq (by kernel_rfl) ?_
        obtain ⟨v22, h23, h⟩ := bind_of h
        refine W_draw2 9 [(5, .val (.dat tI v19)), (13, .val (.dat tI v22))] [] [0, 1, 5, 25] [] (fr' := [(0, aD (.slice tI) a0), (1, aD (.slice tI) a1), (5, aI i16), (25, aB (v19 != v22))]) (L' := []) (out := [(17, aD (.slice tI) a0), (18, aI i16), (19, .one (.dptr tI v19)), (20, aI v19), (21, aD (.slice tI) a1), (22, aI i16), (23, .one (.dptr tI v22)), (24, aI v22), (25, aB (v19 != v22))]) (obs := [Idx a0 i16 v19, Idx a1 i16 v22]) (obs2 := []) (calls := []) (by kernel_rfl) (by kernel_rfl) (by kernel_rfl) (by kernel_rfl) (allP2 (Idx.of h20) (allP1 (Idx.of h23))) allC0 (by kernel_rfl) allP0 ?_
        refine seqQ_norm ?_
        refine W_cond (o := .tmp 25) (b := v19 != v22) (by kernel_rfl) (by kernel_rfl) (fun h24 => ?_) (fun h24 => ?_)
        · replace h := ofT h24 h
          refine W_seq (by kernel_rfl) ?_
          refine W_run 1 [] [4] [] (fr' := [(4, aB false)]) (L' := []) (obs := []) (by kernel_rfl) (by kernel_rfl) (by kernel_rfl) allP0 ?_
          refine seqQ_norm ?_
          obtain rfl := Option.some.inj h
          refine W_ret [4] [] (fr' := [(4, aB false)]) (L' := []) (by kernel_rfl) (by kernel_rfl) ?_
          refine blockQ_ret ?_
          refine seqQ_ret ?_
          refine round_ret ?_
          refine escQ_ret ?_
          exact exQ_mk (by kernel_rfl) (by kernel_rfl)
        · replace h := ofF h24 h
          refine W_skip [0, 1, 5] [] (fr' := [(0, aD (.slice tI) a0), (1, aD (.slice tI) a1), (5, aI i16)]) (L' := []) (by kernel_rfl) (by kernel_rfl) ?_
          refine blockQ_norm ?_
          refine seqQ_norm ?_
          obtain rfl := Option.some.inj h
          refine W_run 3 [] [0, 1, 5] [] (fr' := [(0, aD (.slice tI) a0), (1, aD (.slice tI) a1), (5, aI (w64 (i16 + (1 : Int))))]) (L' := []) (obs := []) (by kernel_rfl) (by kernel_rfl) (by kernel_rfl) allP0 ?_
          exact round_next' (by kernel_rfl) (by kernel_rfl)
      · obtain rfl := stepL_false h21 h
        refine W_exit (id := 0) [] [] (fr' := []) (L' := []) (by kernel_rfl) (by kernel_rfl) ?_
        refine seqQ_exit ?_
        refine round_exit ?_
        refine escQ_brk ?_
        exact exQ_mk (by kernel_rfl) (by kernel_rfl)
    · intro e fr L hJ
      rcases v26 with v31 | v32
      · obtain ⟨rfl, rfl, rfl⟩ := hJ
        obtain rfl := Option.some.inj h
        refine LT_keep [4] [] (fr' := [(4, aB v31)]) (L' := []) (by kernel_rfl) ?_
        refine blockQ_ret ?_
        refine seqQ_ret ?_
        exact retQ_mk (by kernel_rfl) (by kernel_rfl) (by kernel_rfl)
      · obtain ⟨rfl, rfl, rfl⟩ := hJ
        refine LT_keep [] [] (fr' := []) (L' := []) (by kernel_rfl) ?_
        refine blockQ_hit ?_
        refine seqQ_norm ?_
        refine W_seq (by kernel_rfl) ?_
        refine W_run 1 [] [4] [] (fr' := [(4, aB true)]) (L' := []) (obs := []) (by kernel_rfl) (by kernel_rfl) (by kernel_rfl) allP0 ?_
        refine seqQ_norm ?_
        obtain rfl := Option.some.inj h
        refine W_ret [4] [] (fr' := [(4, aB true)]) (L' := []) (by kernel_rfl) (by kernel_rfl) ?_
        exact retQ_mk (by kernel_rfl) (by kernel_rfl) (by kernel_rfl)

@[reducible] def law_CodeNumbers_s6 (a1 : (List (Int × (Int × (Int × Int))))) (r1 : ((List Int) × Int)) (i40 : Int) (x41 : (List Int)) (v : (Int × (Int × (Int × Int)))) : Fr × LL := ([(5, aD (.slice tI) r1.1), (6, aI r1.2), (8, .one (.slc 50)), (10, .one (.ptr 10 0)), (30, aD (.slice (.pair tI (.pair tI (.pair tI tI)))) a1), (31, aI (List.length a1 : Int)), (32, aI i40)], [(50, .seq tI x41), (10, .one (.pair tI (.pair tI (.pair tI tI))) v)])
def law_CodeNumbers_b7 (i40 : Int) (v43 : (Int × (Int × (Int × Int)))) (x41 : (List Int)) : Option (Flow (List Int) (List Int)) :=
(bif v43.1 == (1 : Int) then
(some (v43.1, v43.2.1, v43.2.2.1, (0 : Int)))
else
(some v43)).bind fun v55 =>
(ck ((List.length x41 : Int) + 4 ≤ 4294967296)).bind fun _ =>
some (.next (x41 ++ [v55.1, v55.2.1, v55.2.2.1, v55.2.2.2]))
@[reducible] def law_CodeNumbers_s8 (a1 : (List (Int × (Int × (Int × Int))))) (r1 : ((List Int) × Int)) (v : Int × (List Int)) : Fr × LL := ([(5, aD (.slice tI) r1.1), (6, aI r1.2), (8, .one (.slc 50)), (30, aD (.slice (.pair tI (.pair tI (.pair tI tI)))) a1), (31, aI (List.length a1 : Int)), (32, aI v.1)], [(50, .seq tI v.2)])
@[reducible] def law_CodeNumbers_s9 (r1 : ((List Int) × Int)) (v : (List Int)) : Fr × LL := ([(5, aD (.slice tI) r1.1), (6, aI r1.2), (8, .one (.slc 50))], [(50, .seq tI v)])
@[reducible] def law_CodeNumbers_s10 (v : Bool) : Fr × LL := ([(4, aB v)], [])
def law_CodeNumbers (a0 : Int) (a1 : (List (Int × (Int × (Int × Int))))) : Option Bool :=
(code_Number a0 a1).bind fun r1 =>
(ref_CountCheck a0 a1).bind fun r3 =>
bif r3 != (0 : Int) then
(some ((r1.2 == r3) && ((List.length r1.1 : Int) == (0 : Int))))
else
((forL law_CodeNumbers_b7 (fun x41 => x41) a1 0 []).bind fun v59 =>
(bif r1.2 == (0 : Int) then
((ref_Ints r1.1 v59).bind fun r71 =>
some r71)
else
(some false)).bind fun v73 =>
some v73)
theorem law_CodeNumbers_ok {a0 : Int} {a1 : (List (Int × (Int × (Int × Int))))} {r : Bool} (h : law_CodeNumbers a0 a1 = some r) : FnC Try.prog 3 [aI a0, aD (.slice (.pair tI (.pair tI (.pair tI tI)))) a1] [] (aB r) [] := by
  refine fnC_of_W (B := bodyOf Try.f3) (n := 59) Try.func3 (by kernel_rfl) (by kernel_rfl) (by kernel_rfl) (by kernel_rfl) (by kernel_rfl) ?_
  intro K
  refine W_seq (by kernel_rfl) ?_
  refine W_run 1 [] [0, 1] [] (fr' := [(0, aI a0), (1, aD (.slice (.pair tI (.pair tI (.pair tI tI)))) a1)]) (L' := []) (obs := []) (by kernel_rfl) (by kernel_rfl) (by kernel_rfl) allP0 ?_
  refine seqQ_norm ?_
  refine W_seq (by kernel_rfl) ?_
  refine W_region (by kernel_rfl) ?_
  refine WO_run (j := 2) (k := 2) (orcs := []) (kF := [0, 1, 12, 13]) (kL := []) (fr' := [(0, aI a0), (1, aD (.slice (.pair tI (.pair tI (.pair tI tI)))) a1), (12, aI a0), (13, aD (.slice (.pair tI (.pair tI (.pair tI tI)))) a1)]) (L' := []) (obs := []) rfl (by kernel_rfl) allP0 ?_
  obtain ⟨r1, h2, h⟩ := bind_of h
  refine WO_call0 (us := [none, none]) (d := 14) (p := True) (j := 3) rfl ⟨by kernel_rfl, by kernel_rfl, by kernel_rfl⟩ trivial (code_Number_ok h2) (by kernel_rfl) ?_
  refine WO_run (j := 8) (k := 5) (orcs := []) (kF := [0, 1, 5, 6]) (kL := []) (fr' := [(0, aI a0), (1, aD (.slice (.pair tI (.pair tI (.pair tI tI)))) a1), (5, aD (.slice tI) r1.1), (6, aI r1.2)]) (L' := []) (obs := []) rfl (by kernel_rfl) allP0 ?_
  refine WO_fin [0, 1, 5, 6] [] (fr' := [(0, aI a0), (1, aD (.slice (.pair tI (.pair tI (.pair tI tI)))) a1), (5, aD (.slice tI) r1.1), (6, aI r1.2)]) (L' := []) (by kernel_rfl) (by kernel_rfl) ?_
  refine seqQ_norm ?_
  refine W_seq (by kernel_rfl) ?_
  refine W_region (by kernel_rfl) ?_
  refine WO_run (j := 2) (k := 2) (orcs := []) (kF := [1, 5, 6, 17, 18]) (kL := []) (fr' := [(1, aD (.slice (.pair tI (.pair tI (.pair tI tI)))) a1), (5, aD (.slice tI) r1.1), (6, aI r1.2), (17, aI a0), (18, aD (.slice (.pair tI (.pair tI (.pair tI tI)))) a1)]) (L' := []) (obs := []) rfl (by kernel_rfl) allP0 ?_
  obtain ⟨r3, h4, h⟩ := bind_of h
  refine WO_call0 (us := [none, none]) (d := 19) (p := True) (j := 3) rfl ⟨by kernel_rfl, by kernel_rfl, by kernel_rfl⟩ trivial (ref_CountCheck_ok h4) (by kernel_rfl) ?_
  refine WO_run (j := 4) (k := 1) (orcs := []) (kF := [1, 5, 6, 7]) (kL := []) (fr' := [(1, aD (.slice (.pair tI (.pair tI (.pair tI tI)))) a1), (5, aD (.slice tI) r1.1), (6, aI r1.2), (7, aI r3)]) (L' := []) (obs := []) rfl (by kernel_rfl) allP0 ?_
  refine WO_fin [1, 5, 6, 7] [] (fr' := [(1, aD (.slice (.pair tI (.pair tI (.pair tI tI)))) a1), (5, aD (.slice tI) r1.1), (6, aI r1.2), (7, aI r3)]) (L' := []) (by kernel_rfl) (by kernel_rfl) ?_
  refine seqQ_norm ?_
  refine W_seq (by kernel_rfl) ?_
  refine W_seq (by kernel_rfl) ?_
  refine W_run 2 [] [1, 5, 6, 7, 21] [] (fr' := [(1, aD (.slice (.pair tI (.pair tI (.pair tI tI)))) a1), (5, aD (.slice tI) r1.1), (6, aI r1.2), (7, aI r3), (21, aB (r3 != (0 : Int)))]) (L' := []) (obs := []) (by kernel_rfl) (by kernel_rfl) (by kernel_rfl) allP0 ?_
  refine seqQ_norm ?_
  refine W_cond (o := .tmp 21) (b := r3 != (0 : Int)) (by kernel_rfl) (by kernel_rfl) (fun h5 => ?_) (fun h5 => ?_)
  · replace h := ofT h5 h
    refine W_seq (by kernel_rfl) ?_
    refine W_run 9 [] [4] [] (fr' := [(4, aB ((r1.2 == r3) && ((List.length r1.1 : Int) == (0 : Int))))]) (L' := []) (obs := []) (by kernel_rfl) (by kernel_rfl) (by kernel_rfl) allP0 ?_
    refine seqQ_norm ?_
    obtain rfl := Option.some.inj h
    refine W_ret [4] [] (fr' := [(4, aB ((r1.2 == r3) && ((List.length r1.1 : Int) == (0 : Int))))]) (L' := []) (by kernel_rfl) (by kernel_rfl) ?_
    refine seqQ_ret ?_
    exact retQ_mk (by kernel_rfl) (by kernel_rfl) (by kernel_rfl)
  · replace h := ofF h5 h
    refine W_skip [1, 5, 6] [] (fr' := [(1, aD (.slice (.pair tI (.pair tI (.pair tI tI)))) a1), (5, aD (.slice tI) r1.1), (6, aI r1.2)]) (L' := []) (by kernel_rfl) (by kernel_rfl) ?_
    refine seqQ_norm ?_
    refine W_seq (by kernel_rfl) ?_
    refine W_run 1 [] [1, 5, 6, 8] [] (fr' := [(1, aD (.slice (.pair tI (.pair tI (.pair tI tI)))) a1), (5, aD (.slice tI) r1.1), (6, aI r1.2), (8, .one (.nilS))]) (L' := []) (obs := []) (by kernel_rfl) (by kernel_rfl) (by kernel_rfl) allP0 ?_
    refine seqQ_norm ?_
    refine W_seq (by kernel_rfl) ?_
    refine W_seq (by kernel_rfl) ?_
    refine W_run 3 [] [5, 6, 8, 30, 31, 32] [] (fr' := [(5, aD (.slice tI) r1.1), (6, aI r1.2), (8, .one (.nilS)), (30, aD (.slice (.pair tI (.pair tI (.pair tI tI)))) a1), (31, aI (List.length a1 : Int)), (32, aI (0 : Int))]) (L' := []) (obs := []) (by kernel_rfl) (by kernel_rfl) (by kernel_rfl) allP0 ?_
    refine seqQ_norm ?_
    refine W_block (id := 0) (by kernel_rfl) ?_
    obtain ⟨v59, h60, h⟩ := bind_of h
    refine W_len (t := 30) (u := (.pair tI (.pair tI (.pair tI tI)))) (xs := a1) (by kernel_rfl) (fun h63 => ?_)
    obtain ⟨h61, h62⟩ := forL_iter h63 h60
    refine W_mine 8 50 tI (by kernel_rfl) ?_
    refine W_weaken [5, 6, 8, 30, 31, 32] [50] (fr' := ((law_CodeNumbers_s8 a1 r1) ((0 : Int), [])).1) (L' := ((law_CodeNumbers_s8 a1 r1) ((0 : Int), [])).2) (by kernel_rfl) ?_
    refine W_cutK (W_loop (S := (law_CodeNumbers_s8 a1 r1)) (J := (exQ (.exit 0) (law_CodeNumbers_s9 r1))) (by kernel_rfl) ?_ h61 _ v59 h62) ?_
    · rintro ⟨i40, x41⟩ s h
      refine W_seq (by kernel_rfl) ?_
      refine W_run 1 [] [5, 6, 8, 30, 31, 32, 33] [50] (fr' := [(5, aD (.slice tI) r1.1), (6, aI r1.2), (8, .one (.slc 50)), (30, aD (.slice (.pair tI (.pair tI (.pair tI tI)))) a1), (31, aI (List.length a1 : Int)), (32, aI i40), (33, aB (decide (i40 < (List.length a1 : Int))))]) (L' := [(50, .seq tI x41)]) (obs := []) (by kernel_rfl) (by kernel_rfl) (by kernel_rfl) allP0 ?_
      refine seqQ_norm ?_
      refine W_seq (by kernel_rfl) ?_
      refine W_cond (o := .tmp 33) (b := decide (i40 < (List.length a1 : Int))) (by kernel_rfl) (by kernel_rfl) (fun h45 => ?_) (fun h45 => ?_)
      · replace h := stepL_true h45 h
        obtain ⟨v43, _, h44, h, rfl⟩ := h
        refine W_skip [5, 6, 8, 30, 31, 32] [50] (fr' := [(5, aD (.slice tI) r1.1), (6, aI r1.2), (8, .one (.slc 50)), (30, aD (.slice (.pair tI (.pair tI (.pair tI tI)))) a1), (31, aI (List.length a1 : Int)), (32, aI i40)]) (L' := [(50, .seq tI x41)]) (by kernel_rfl) (by kernel_rfl) ?_
        refine seqQ_norm ?_
        refine W_seq (by kernel_rfl) ?_
        refine W_block (id := 1) (by kernel_rfl) ?_
        refine W_seq (by kernel_rfl) ?_
        refine W_run 4 [(1, .val (.dat (.pair tI (.pair tI (.pair tI tI))) v43)), (5, .typed)] [5, 6, 8, 10, 30, 31, 32] [50, 10] (fr' := [(5, aD (.slice tI) r1.1), (6, aI r1.2), (8, .one (.slc 50)), (10, .one (.ptr 10 0)), (30, aD (.slice (.pair tI (.pair tI (.pair tI tI)))) a1), (31, aI (List.length a1 : Int)), (32, aI i40)]) (L' := [(50, .seq tI x41), (10, .one (.pair tI (.pair tI (.pair tI tI))) v43)]) (obs := [Idx a1 i40 v43, True]) (by kernel_rfl) (by kernel_rfl) (by kernel_rfl) (allP2 (Idx.of h44) (allP1 trivial)) ?_
        refine seqQ_norm ?_
        refine W_seq (by kernel_rfl) ?_
        obtain ⟨v55, h56, h⟩ := bind_of h
        refine W_cutK (Q' := (exQ .normal (law_CodeNumbers_s6 a1 r1 i40 x41)) v55) ?_ ?_
        · replace h := h56
          refine W_seq (by kernel_rfl) ?_
          refine W_run 3 [] [5, 6, 8, 10, 30, 31, 32, 38] [50, 10] (fr' := [(5, aD (.slice tI) r1.1), (6, aI r1.2), (8, .one (.slc 50)), (10, .one (.ptr 10 0)), (30, aD (.slice (.pair tI (.pair tI (.pair tI tI)))) a1), (31, aI (List.length a1 : Int)), (32, aI i40), (38, aB (v43.1 == (1 : Int)))]) (L' := [(50, .seq tI x41), (10, .one (.pair tI (.pair tI (.pair tI tI))) v43)]) (obs := []) (by kernel_rfl) (by kernel_rfl) (by kernel_rfl) allP0 ?_
          refine seqQ_norm ?_
          refine W_cond (o := .tmp 38) (b := v43.1 == (1 : Int)) (by kernel_rfl) (by kernel_rfl) (fun h54 => ?_) (fun h54 => ?_)
          · replace h := ofT h54 h
            obtain rfl := Option.some.inj h
            refine W_run 2 [] [5, 6, 8, 10, 30, 31, 32] [50, 10] (fr' := [(5, aD (.slice tI) r1.1), (6, aI r1.2), (8, .one (.slc 50)), (10, .one (.ptr 10 0)), (30, aD (.slice (.pair tI (.pair tI (.pair tI tI)))) a1), (31, aI (List.length a1 : Int)), (32, aI i40)]) (L' := [(50, .seq tI x41), (10, .one (.pair tI (.pair tI (.pair tI tI))) (v43.1, v43.2.1, v43.2.2.1, (0 : Int)))]) (obs := [True]) (by kernel_rfl) (by kernel_rfl) (by kernel_rfl) (allP1 trivial) ?_
            exact exQ_mk (by kernel_rfl) (by kernel_rfl)
          · replace h := ofF h54 h
            obtain rfl := Option.some.inj h
            refine W_skip [5, 6, 8, 10, 30, 31, 32] [50, 10] (fr' := [(5, aD (.slice tI) r1.1), (6, aI r1.2), (8, .one (.slc 50)), (10, .one (.ptr 10 0)), (30, aD (.slice (.pair tI (.pair tI (.pair tI tI)))) a1), (31, aI (List.length a1 : Int)), (32, aI i40)]) (L' := [(50, .seq tI x41), (10, .one (.pair tI (.pair tI (.pair tI tI))) v43)]) (by kernel_rfl) (by kernel_rfl) ?_
            exact exQ_mk (by kernel_rfl) (by kernel_rfl)
        · intro e fr L hJ
          obtain ⟨rfl, rfl, rfl⟩ := hJ
          refine LT_keep [5, 6, 8, 10, 30, 31, 32] [50, 10] (fr' := [(5, aD (.slice tI) r1.1), (6, aI r1.2), (8, .one (.slc 50)), (10, .one (.ptr 10 0)), (30, aD (.slice (.pair tI (.pair tI (.pair tI tI)))) a1), (31, aI (List.length a1 : Int)), (32, aI i40)]) (L' := [(50, .seq tI x41), (10, .one (.pair tI (.pair tI (.pair tI tI))) v55)]) (by kernel_rfl) ?_
          refine seqQ_norm ?_
          obtain ⟨_, h57, h⟩ := bind_of h
          replace h57 := ck_some h57
          refine W_run 12 [] [5, 6, 8, 30, 31, 32] [50] (fr' := [(5, aD (.slice tI) r1.1), (6, aI r1.2), (8, .one (.slc 50)), (30, aD (.slice (.pair tI (.pair tI (.pair tI tI)))) a1), (31, aI (List.length a1 : Int)), (32, aI i40)]) (L' := [(50, .seq tI (x41 ++ [v55.1, v55.2.1, v55.2.2.1, v55.2.2.2]))]) (obs := [SmallLen (List.length x41 + List.length [v55.1, v55.2.1, v55.2.2.1, v55.2.2.2])]) (by kernel_rfl) (by kernel_rfl) (by kernel_rfl) (allP1 h57) ?_
          refine blockQ_norm ?_
          refine seqQ_norm ?_
          obtain rfl := Option.some.inj h
          refine W_run 2 [] [5, 6, 8, 30, 31, 32] [50] (fr' := [(5, aD (.slice tI) r1.1), (6, aI r1.2), (8, .one (.slc 50)), (30, aD (.slice (.pair tI (.pair tI (.pair tI tI)))) a1), (31, aI (List.length a1 : Int)), (32, aI (w64 (i40 + (1 : Int))))]) (L' := [(50, .seq tI (x41 ++ [v55.1, v55.2.1, v55.2.2.1, v55.2.2.2]))]) (obs := []) (by kernel_rfl) (by kernel_rfl) (by kernel_rfl) allP0 ?_
          exact round_next' (by kernel_rfl) (by kernel_rfl)
      · obtain rfl := stepL_false h45 h
        refine W_exit (id := 0) [5, 6, 8] [50] (fr' := [(5, aD (.slice tI) r1.1), (6, aI r1.2), (8, .one (.slc 50))]) (L' := [(50, .seq tI x41)]) (by kernel_rfl) (by kernel_rfl) ?_
        refine seqQ_exit ?_
        refine round_exit ?_
        exact exQ_mk (by kernel_rfl) (by kernel_rfl)
    · intro e fr L hJ
      obtain ⟨rfl, rfl, rfl⟩ := hJ
      refine LT_keep [5, 6, 8] [50] (fr' := [(5, aD (.slice tI) r1.1), (6, aI r1.2), (8, .one (.slc 50))]) (L' := [(50, .seq tI v59)]) (by kernel_rfl) ?_
      refine blockQ_hit ?_
      refine seqQ_norm ?_
      refine W_seq (by kernel_rfl) ?_
      obtain ⟨v73, h74, h⟩ := bind_of h
      refine W_cutK (Q' := (exQ .normal law_CodeNumbers_s10) v73) ?_ ?_
      · replace h := h74
        refine W_region (by kernel_rfl) ?_
        refine WO_run (j := 3) (k := 3) (orcs := []) (kF := [5, 8, 54]) (kL := [50]) (fr' := [(5, aD (.slice tI) r1.1), (8, .one (.slc 50)), (54, aB (r1.2 == (0 : Int)))]) (L' := [(50, .seq tI v59)]) (obs := []) rfl (by kernel_rfl) allP0 ?_
        rcases Bool.eq_false_or_eq_true (r1.2 == (0 : Int)) with h70 | h70
        · replace h := ofT h70 h
          refine WO_run (j := 5) (k := 2) (orcs := [(6, .known true), (8, .known true)]) (kF := [54, 55, 56]) (kL := [50]) (fr' := [(54, aB (r1.2 == (0 : Int))), (55, aD (.slice tI) r1.1), (56, .one (.slc 50))]) (L' := [(50, .seq tI v59)]) (obs := [((r1.2 == (0 : Int)) = true), ((r1.2 == (0 : Int)) = true)]) rfl (by kernel_rfl) (allP2 h70 (allP1 h70)) ?_
          obtain ⟨r71, h72, h⟩ := bind_of h
          refine WO_frz 50 (by kernel_rfl) ?_
          refine WO_call0 (us := [none, none]) (d := 57) (p := ((r1.2 == (0 : Int)) = true)) (j := 6) rfl ⟨by kernel_rfl, by kernel_rfl, by kernel_rfl⟩ h70 (ref_Ints_ok h72) (by kernel_rfl) ?_
          refine WO_run (j := 8) (k := 2) (orcs := [(13, .val (.dat .bool true))]) (kF := [4]) (kL := []) (fr' := [(4, aB r71)]) (L' := []) (obs := [((r1.2 == (0 : Int)) = true)]) rfl (by kernel_rfl) (allP1 h70) ?_
          obtain rfl := Option.some.inj h
          refine WO_fin [4] [] (fr' := [(4, aB r71)]) (L' := []) (by kernel_rfl) (by kernel_rfl) ?_
          exact exQ_mk (by kernel_rfl) (by kernel_rfl)
        · replace h := ofF h70 h
          refine WO_run (j := 8) (k := 5) (orcs := [(6, .known false), (8, .known false), (10, .known false), (13, .val (.dat .bool false))]) (kF := [4]) (kL := [50]) (fr' := [(4, aB false)]) (L' := [(50, .seq tI v59)]) (obs := [((r1.2 == (0 : Int)) = false), ((r1.2 == (0 : Int)) = false), ((r1.2 == (0 : Int)) = false), ((r1.2 == (0 : Int)) = false)]) rfl (by kernel_rfl) (allP2 h70 (allP2 h70 (allP2 h70 (allP1 h70)))) ?_
          obtain rfl := Option.some.inj h
          refine WO_fin [4] [] (fr' := [(4, aB false)]) (L' := []) (by kernel_rfl) (by kernel_rfl) ?_
          exact exQ_mk (by kernel_rfl) (by kernel_rfl)
      · intro e fr L hJ
        obtain ⟨rfl, rfl, rfl⟩ := hJ
        refine LT_keep [4] [] (fr' := [(4, aB v73)]) (L' := []) (by kernel_rfl) ?_
        refine seqQ_norm ?_
        obtain rfl := Option.some.inj h
        refine W_ret [4] [] (fr' := [(4, aB v73)]) (L' := []) (by kernel_rfl) (by kernel_rfl) ?_
        exact retQ_mk (by kernel_rfl) (by kernel_rfl) (by kernel_rfl)
end Go.Proofs.Ytjfebcfcfbbmoaa.codeNumbers
