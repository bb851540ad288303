/- What the functions that WideRuns calls compute, as models, and that they compute it: written by a program of mine. -/
import Derived.Test.YthjdegeajfhakaaProg
import Derived.Test.YthjdegeajfhakaaSl4
set_option linter.all false
set_option maxRecDepth 100000
namespace Go.Proofs.Ythjdegeajfhakaa.wideRuns
open Go Go.Sl
def wide_is_g5 (x46 : (List Bool)) (v49 : Int) : Option Bool :=
bif (decide (v49 < (0 : Int))) || (decide (v49 > (4 : Int))) then
(some true)
else
((ck (0 ≤ v49 ∧ v49 < 5)).bind fun _ =>
(idx x46 v49).bind fun v61 =>
some v61)
@[reducible] def wide_is_s6 (a0 : (List Int)) (i45 : Int) (x46 : (List Bool)) (v49 : Int) (v : Bool) : Fr × LL := ([(3, .one (.ptr 3 0)), (5, aI v49), (6, aD (.arr 5 tI) a0), (7, aI i45), (20, aB v)], [(3, .one (.arr 5 .bool) x46)])
def wide_is_b7 (a0 : (List Int)) (i45 : Int) (x46 : (List Bool)) : Option (Flow (List Bool) (Esc Bool Unit)) :=
(idx a0 i45).bind fun v49 =>
(wide_is_g5 x46 v49).bind fun v63 =>
bif v63 then
(some (.done (.ret false)))
else
((ck (0 ≤ v49 ∧ v49 < 5)).bind fun _ =>
(idx x46 v49).bind fun v67 =>
some (.next (List.set x46 (Int.toNat v49) true)))
@[reducible] def wide_is_s8 (a0 : (List Int)) (v : Int × (List Bool)) : Fr × LL := ([(3, .one (.ptr 3 0)), (6, aD (.arr 5 tI) a0), (7, aI v.1)], [(3, .one (.arr 5 .bool) v.2)])
@[reducible] def wide_is_s9 (v : Bool) : Fr × LL := ([(2, aB v)], [])
@[reducible] def wide_is_s10 (v : Unit) : Fr × LL := ([], [])
def wide_is (a0 : (List Int)) : Option Bool :=
(forI (0 : Int) (5 : Int) (wide_is_b7 a0) (fun x46 => (.brk ())) [false, false, false, false, false]).bind fun v70 =>
match v70 with
| .ret v74 =>
(some v74)
| .brk v75 =>
(some true)
theorem wide_is_ok {a0 : (List Int)} {r : Bool} (h : wide_is a0 = some r) : FnC Try.prog 34 [aD (.arr 5 tI) a0] [] (aB r) [] := by
  refine fnC_of_W (B := bodyOf Try.f34) (n := 24) Try.func34 (by kernel_rfl) (by kernel_rfl) (by kernel_rfl) (by kernel_rfl) (by kernel_rfl) ?_
  intro K
  refine W_seq (by kernel_rfl) ?_
  refine W_run 2 [] [1] [1] (fr' := [(1, .one (.ptr 1 0))]) (L' := [(1, .one (.arr 5 tI) a0)]) (obs := []) (by kernel_rfl) (by kernel_rfl) (by kernel_rfl) allP0 ?_
  refine seqQ_norm ?_
  refine W_seq (by kernel_rfl) ?_
  refine W_run 1 [(1, .typed)] [1, 3] [1, 3] (fr' := [(1, .one (.ptr 1 0)), (3, .one (.ptr 3 0))]) (L' := [(1, .one (.arr 5 tI) a0), (3, .one (.arr 5 .bool) [false, false, false, false, false])]) (obs := []) (by kernel_rfl) (by kernel_rfl) (by kernel_rfl) allP0 ?_
  refine seqQ_norm ?_
  refine W_seq (by kernel_rfl) ?_
  refine W_seq (by kernel_rfl) ?_
  refine W_run 2 [] [3, 6, 7] [3] (fr' := [(3, .one (.ptr 3 0)), (6, aD (.arr 5 tI) a0), (7, aI (0 : Int))]) (L' := [(3, .one (.arr 5 .bool) [false, false, false, false, false])]) (obs := []) (by kernel_rfl) (by kernel_rfl) (by kernel_rfl) allP0 ?_
  refine seqQ_norm ?_
  refine W_block (id := 0) (by kernel_rfl) ?_
  obtain ⟨v70, h71, h⟩ := bind_of h
  obtain ⟨h72, h73⟩ := forI_iter h71
  refine W_weaken [3, 6, 7] [3] (fr' := ((wide_is_s8 a0) ((0 : Int), [false, false, false, false, false])).1) (L' := ((wide_is_s8 a0) ((0 : Int), [false, false, false, false, false])).2) (by kernel_rfl) ?_
  refine W_cutK (W_loop (S := (wide_is_s8 a0)) (J := (escQ (exQ .ret wide_is_s9) (exQ (.exit 0) wide_is_s10))) (by kernel_rfl) ?_ h72 _ v70 h73) ?_
  · rintro ⟨i45, x46⟩ s h
    refine W_seq (by kernel_rfl) ?_
    refine W_run 1 [] [3, 6, 7, 8] [3] (fr' := [(3, .one (.ptr 3 0)), (6, aD (.arr 5 tI) a0), (7, aI i45), (8, aB (decide (i45 < (5 : Int))))]) (L' := [(3, .one (.arr 5 .bool) x46)]) (obs := []) (by kernel_rfl) (by kernel_rfl) (by kernel_rfl) allP0 ?_
    refine seqQ_norm ?_
    refine W_seq (by kernel_rfl) ?_
    refine W_cond (o := .tmp 8) (b := decide (i45 < (5 : Int))) (by kernel_rfl) (by kernel_rfl) (fun h48 => ?_) (fun h48 => ?_)
    · replace h := stepI_true h48 h
      obtain ⟨_, h, rfl⟩ := h
      refine W_skip [3, 6, 7] [3] (fr' := [(3, .one (.ptr 3 0)), (6, aD (.arr 5 tI) a0), (7, aI i45)]) (L' := [(3, .one (.arr 5 .bool) x46)]) (by kernel_rfl) (by kernel_rfl) ?_
      refine seqQ_norm ?_
      refine W_seq (by kernel_rfl) ?_
      refine W_block (id := 1) (by kernel_rfl) ?_
      refine W_seq (by kernel_rfl) ?_
      obtain ⟨v49, h50, h⟩ := bind_of h
      refine W_run 2 [(1, .val (.dat tI v49))] [3, 5, 6, 7] [3] (fr' := [(3, .one (.ptr 3 0)), (5, aI v49), (6, aD (.arr 5 tI) a0), (7, aI i45)]) (L' := [(3, .one (.arr 5 .bool) x46)]) (obs := [Idx a0 i45 v49]) (by kernel_rfl) (by kernel_rfl) (by kernel_rfl) (allP1 (Idx.of h50)) ?_
      refine seqQ_norm ?_
      refine W_seq (by kernel_rfl) ?_
      refine W_seq (by kernel_rfl) ?_
      obtain ⟨v63, h64, h⟩ := bind_of h
      refine W_cutK (Q' := (exQ .normal (wide_is_s6 a0 i45 x46 v49)) v63) ?_ ?_
      · replace h := h64
        refine W_region (by kernel_rfl) ?_
        refine WO_run (j := 7) (k := 7) (orcs := []) (kF := [3, 5, 6, 7, 16]) (kL := [3]) (fr' := [(3, .one (.ptr 3 0)), (5, aI v49), (6, aD (.arr 5 tI) a0), (7, aI i45), (16, aB ((decide (v49 < (0 : Int))) || (decide (v49 > (4 : Int)))))]) (L' := [(3, .one (.arr 5 .bool) x46)]) (obs := []) rfl (by kernel_rfl) allP0 ?_
        rcases Bool.eq_false_or_eq_true ((decide (v49 < (0 : Int))) || (decide (v49 > (4 : Int)))) with h59 | h59
        · replace h := ofT h59 h
          refine WO_run (j := 11) (k := 4) (orcs := [(14, .known true), (16, .known true), (18, .known true), (21, .val (.dat .bool true))]) (kF := [3, 5, 6, 7, 20]) (kL := [3]) (fr' := [(3, .one (.ptr 3 0)), (5, aI v49), (6, aD (.arr 5 tI) a0), (7, aI i45), (20, aB true)]) (L' := [(3, .one (.arr 5 .bool) x46)]) (obs := [(((decide (v49 < (0 : Int))) || (decide (v49 > (4 : Int)))) = true), (((decide (v49 < (0 : Int))) || (decide (v49 > (4 : Int)))) = true), (((decide (v49 < (0 : Int))) || (decide (v49 > (4 : Int)))) = true), (((decide (v49 < (0 : Int))) || (decide (v49 > (4 : Int)))) = true)]) rfl (by kernel_rfl) (allP2 h59 (allP2 h59 (allP2 h59 (allP1 h59)))) ?_
          obtain rfl := Option.some.inj h
          refine WO_fin [3, 5, 6, 7, 20] [3] (fr' := [(3, .one (.ptr 3 0)), (5, aI v49), (6, aD (.arr 5 tI) a0), (7, aI i45), (20, aB true)]) (L' := [(3, .one (.arr 5 .bool) x46)]) (by kernel_rfl) (by kernel_rfl) ?_
          exact exQ_mk (by kernel_rfl) (by kernel_rfl)
        · replace h := ofF h59 h
          obtain ⟨_, h60, h⟩ := bind_of h
          replace h60 := ck_some h60
          obtain ⟨v61, h62, h⟩ := bind_of h
          refine WO_run (j := 11) (k := 4) (orcs := [(14, .known false), (16, .known false), (18, .known false), (19, .val (.dat .bool v61)), (21, .val (.dat .bool false))]) (kF := [3, 5, 6, 7, 20]) (kL := [3]) (fr' := [(3, .one (.ptr 3 0)), (5, aI v49), (6, aD (.arr 5 tI) a0), (7, aI i45), (20, aB v61)]) (L' := [(3, .one (.arr 5 .bool) x46)]) (obs := [(((decide (v49 < (0 : Int))) || (decide (v49 > (4 : Int)))) = false), (((decide (v49 < (0 : Int))) || (decide (v49 > (4 : Int)))) = false), InR v49 5, (((decide (v49 < (0 : Int))) || (decide (v49 > (4 : Int)))) = false), Idx x46 v49 v61, (((decide (v49 < (0 : Int))) || (decide (v49 > (4 : Int)))) = false)]) rfl (by kernel_rfl) (allP2 h59 (allP2 h59 (allP2 h60 (allP2 h59 (allP2 (Idx.of h62) (allP1 h59)))))) ?_
          obtain rfl := Option.some.inj h
          refine WO_fin [3, 5, 6, 7, 20] [3] (fr' := [(3, .one (.ptr 3 0)), (5, aI v49), (6, aD (.arr 5 tI) a0), (7, aI i45), (20, aB v61)]) (L' := [(3, .one (.arr 5 .bool) x46)]) (by kernel_rfl) (by kernel_rfl) ?_
          exact exQ_mk (by kernel_rfl) (by kernel_rfl)
      · intro e fr L hJ
        obtain ⟨rfl, rfl, rfl⟩ := hJ
        refine LT_keep [3, 5, 6, 7, 20] [3] (fr' := [(3, .one (.ptr 3 0)), (5, aI v49), (6, aD (.arr 5 tI) a0), (7, aI i45), (20, aB v63)]) (L' := [(3, .one (.arr 5 .bool) x46)]) (by kernel_rfl) ?_
        refine seqQ_norm ?_
        refine W_cond (o := .tmp 20) (b := v63) (by kernel_rfl) (by kernel_rfl) (fun h65 => ?_) (fun h65 => ?_)
        · replace h := ofT h65 h
          refine W_seq (by kernel_rfl) ?_
          refine W_run 1 [] [2] [] (fr' := [(2, aB false)]) (L' := []) (obs := []) (by kernel_rfl) (by kernel_rfl) (by kernel_rfl) allP0 ?_
          refine seqQ_norm ?_
          obtain rfl := Option.some.inj h
          refine W_ret [2] [] (fr' := [(2, aB false)]) (L' := []) (by kernel_rfl) (by kernel_rfl) ?_
          refine seqQ_ret ?_
          refine blockQ_ret ?_
          refine seqQ_ret ?_
          refine round_ret ?_
          refine escQ_ret ?_
          exact exQ_mk (by kernel_rfl) (by kernel_rfl)
        · replace h := ofF h65 h
          refine W_skip [3, 5, 6, 7] [3] (fr' := [(3, .one (.ptr 3 0)), (5, aI v49), (6, aD (.arr 5 tI) a0), (7, aI i45)]) (L' := [(3, .one (.arr 5 .bool) x46)]) (by kernel_rfl) (by kernel_rfl) ?_
          refine seqQ_norm ?_
          obtain ⟨_, h66, h⟩ := bind_of h
          replace h66 := ck_some h66
          obtain ⟨v67, h68, h⟩ := bind_of h
          refine W_run 3 [] [3, 6, 7] [3] (fr' := [(3, .one (.ptr 3 0)), (6, aD (.arr 5 tI) a0), (7, aI i45)]) (L' := [(3, .one (.arr 5 .bool) (List.set x46 (Int.toNat v49) true))]) (obs := [InR v49 5, InR v49 (List.length x46)]) (by kernel_rfl) (by kernel_rfl) (by kernel_rfl) (allP2 h66 (allP1 (InR.of h68))) ?_
          refine blockQ_norm ?_
          refine seqQ_norm ?_
          obtain rfl := Option.some.inj h
          refine W_run 2 [] [3, 6, 7] [3] (fr' := [(3, .one (.ptr 3 0)), (6, aD (.arr 5 tI) a0), (7, aI (w64 (i45 + (1 : Int))))]) (L' := [(3, .one (.arr 5 .bool) (List.set x46 (Int.toNat v49) true))]) (obs := []) (by kernel_rfl) (by kernel_rfl) (by kernel_rfl) allP0 ?_
          exact round_next' (by kernel_rfl) (by kernel_rfl)
    · obtain rfl := stepI_false h48 h
      refine W_exit (id := 0) [] [] (fr' := []) (L' := []) (by kernel_rfl) (by kernel_rfl) ?_
      refine seqQ_exit ?_
      refine round_exit ?_
      refine escQ_brk ?_
      exact exQ_mk (by kernel_rfl) (by kernel_rfl)
  · intro e fr L hJ
    rcases v70 with v74 | v75
    · obtain ⟨rfl, rfl, rfl⟩ := hJ
      obtain rfl := Option.some.inj h
      refine LT_keep [2] [] (fr' := [(2, aB v74)]) (L' := []) (by kernel_rfl) ?_
      refine blockQ_ret ?_
      refine seqQ_ret ?_
      exact retQ_mk (by kernel_rfl) (by kernel_rfl) (by kernel_rfl)
    · obtain ⟨rfl, rfl, rfl⟩ := hJ
      refine LT_keep [] [] (fr' := []) (L' := []) (by kernel_rfl) ?_
      refine blockQ_hit ?_
      refine seqQ_norm ?_
      refine W_seq (by kernel_rfl) ?_
      refine W_run 1 [] [2] [] (fr' := [(2, aB true)]) (L' := []) (obs := []) (by kernel_rfl) (by kernel_rfl) (by kernel_rfl) allP0 ?_
      refine seqQ_norm ?_
      obtain rfl := Option.some.inj h
      refine W_ret [2] [] (fr' := [(2, aB true)]) (L' := []) (by kernel_rfl) (by kernel_rfl) ?_
      exact retQ_mk (by kernel_rfl) (by kernel_rfl) (by kernel_rfl)

def wide_then_b1 (a0 : (List Int)) (a1 : (List Int)) (i18 : Int) (x19 : (List Int)) : Option (Flow (List Int) (List Int)) :=
(idx a0 i18).bind fun v22 =>
(ck (0 ≤ v22 ∧ v22 < 5)).bind fun _ =>
(idx a1 v22).bind fun v25 =>
(ck (0 ≤ i18 ∧ i18 < 5)).bind fun _ =>
(idx x19 i18).bind fun v28 =>
some (.next (List.set x19 (Int.toNat i18) v25))
@[reducible] def wide_then_s2 (a0 : (List Int)) (a1 : (List Int)) (v : Int × (List Int)) : Fr × LL := ([(3, .one (.ptr 3 0)), (4, .one (.ptr 4 0)), (5, .one (.ptr 5 0)), (8, aD (.arr 5 tI) a0), (9, aI v.1)], [(3, .one (.arr 5 tI) a1), (4, .one (.arr 5 tI) [(0 : Int), (0 : Int), (0 : Int), (0 : Int), (0 : Int)]), (5, .one (.arr 5 tI) v.2)])
@[reducible] def wide_then_s3 (v : (List Int)) : Fr × LL := ([(4, .one (.ptr 4 0)), (5, .one (.ptr 5 0))], [(4, .one (.arr 5 tI) [(0 : Int), (0 : Int), (0 : Int), (0 : Int), (0 : Int)]), (5, .one (.arr 5 tI) v)])
def wide_then (a0 : (List Int)) (a1 : (List Int)) : Option (List Int) :=
(forI (0 : Int) (5 : Int) (wide_then_b1 a0 a1) (fun x19 => x19) [(0 : Int), (0 : Int), (0 : Int), (0 : Int), (0 : Int)]).bind fun v31 =>
some v31
theorem wide_then_ok {a0 : (List Int)} {a1 : (List Int)} {r : (List Int)} (h : wide_then a0 a1 = some r) : FnC Try.prog 35 [aD (.arr 5 tI) a0, aD (.arr 5 tI) a1] [] (aD (.arr 5 tI) r) [] := by
  refine fnC_of_W (B := bodyOf Try.f35) (n := 20) Try.func35 (by kernel_rfl) (by kernel_rfl) (by kernel_rfl) (by kernel_rfl) (by kernel_rfl) ?_
  intro K
  refine W_seq (by kernel_rfl) ?_
  refine W_run 3 [(5, .typed)] [2, 3, 4] [2, 3, 4] (fr' := [(2, .one (.ptr 2 0)), (3, .one (.ptr 3 0)), (4, .one (.ptr 4 0))]) (L' := [(2, .one (.arr 5 tI) a0), (3, .one (.arr 5 tI) a1), (4, .one (.arr 5 tI) [(0 : Int), (0 : Int), (0 : Int), (0 : Int), (0 : Int)])]) (obs := []) (by kernel_rfl) (by kernel_rfl) (by kernel_rfl) allP0 ?_
  refine seqQ_norm ?_
  refine W_seq (by kernel_rfl) ?_
  refine W_run 1 [(1, .typed)] [2, 3, 4, 5] [2, 3, 4, 5] (fr' := [(2, .one (.ptr 2 0)), (3, .one (.ptr 3 0)), (4, .one (.ptr 4 0)), (5, .one (.ptr 5 0))]) (L' := [(2, .one (.arr 5 tI) a0), (3, .one (.arr 5 tI) a1), (4, .one (.arr 5 tI) [(0 : Int), (0 : Int), (0 : Int), (0 : Int), (0 : Int)]), (5, .one (.arr 5 tI) [(0 : Int), (0 : Int), (0 : Int), (0 : Int), (0 : Int)])]) (obs := []) (by kernel_rfl) (by kernel_rfl) (by kernel_rfl) allP0 ?_
  refine seqQ_norm ?_
  refine W_seq (by kernel_rfl) ?_
  refine W_seq (by kernel_rfl) ?_
  refine W_run 2 [] [3, 4, 5, 8, 9] [3, 4, 5] (fr' := [(3, .one (.ptr 3 0)), (4, .one (.ptr 4 0)), (5, .one (.ptr 5 0)), (8, aD (.arr 5 tI) a0), (9, aI (0 : Int))]) (L' := [(3, .one (.arr 5 tI) a1), (4, .one (.arr 5 tI) [(0 : Int), (0 : Int), (0 : Int), (0 : Int), (0 : Int)]), (5, .one (.arr 5 tI) [(0 : Int), (0 : Int), (0 : Int), (0 : Int), (0 : Int)])]) (obs := []) (by kernel_rfl) (by kernel_rfl) (by kernel_rfl) allP0 ?_
  refine seqQ_norm ?_
  refine W_block (id := 0) (by kernel_rfl) ?_
  obtain ⟨v31, h32, h⟩ := bind_of h
  obtain ⟨h33, h34⟩ := forI_iter h32
  refine W_weaken [3, 4, 5, 8, 9] [3, 4, 5] (fr' := ((wide_then_s2 a0 a1) ((0 : Int), [(0 : Int), (0 : Int), (0 : Int), (0 : Int), (0 : Int)])).1) (L' := ((wide_then_s2 a0 a1) ((0 : Int), [(0 : Int), (0 : Int), (0 : Int), (0 : Int), (0 : Int)])).2) (by kernel_rfl) ?_
  refine W_cutK (W_loop (S := (wide_then_s2 a0 a1)) (J := (exQ (.exit 0) wide_then_s3)) (by kernel_rfl) ?_ h33 _ v31 h34) ?_
  · rintro ⟨i18, x19⟩ s h
    refine W_seq (by kernel_rfl) ?_
    refine W_run 1 [] [3, 4, 5, 8, 9, 10] [3, 4, 5] (fr' := [(3, .one (.ptr 3 0)), (4, .one (.ptr 4 0)), (5, .one (.ptr 5 0)), (8, aD (.arr 5 tI) a0), (9, aI i18), (10, aB (decide (i18 < (5 : Int))))]) (L' := [(3, .one (.arr 5 tI) a1), (4, .one (.arr 5 tI) [(0 : Int), (0 : Int), (0 : Int), (0 : Int), (0 : Int)]), (5, .one (.arr 5 tI) x19)]) (obs := []) (by kernel_rfl) (by kernel_rfl) (by kernel_rfl) allP0 ?_
    refine seqQ_norm ?_
    refine W_seq (by kernel_rfl) ?_
    refine W_cond (o := .tmp 10) (b := decide (i18 < (5 : Int))) (by kernel_rfl) (by kernel_rfl) (fun h21 => ?_) (fun h21 => ?_)
    · replace h := stepI_true h21 h
      obtain ⟨_, h, rfl⟩ := h
      refine W_skip [3, 4, 5, 8, 9] [3, 4, 5] (fr' := [(3, .one (.ptr 3 0)), (4, .one (.ptr 4 0)), (5, .one (.ptr 5 0)), (8, aD (.arr 5 tI) a0), (9, aI i18)]) (L' := [(3, .one (.arr 5 tI) a1), (4, .one (.arr 5 tI) [(0 : Int), (0 : Int), (0 : Int), (0 : Int), (0 : Int)]), (5, .one (.arr 5 tI) x19)]) (by kernel_rfl) (by kernel_rfl) ?_
      refine seqQ_norm ?_
      refine W_seq (by kernel_rfl) ?_
      refine W_block (id := 1) (by kernel_rfl) ?_
      refine W_seq (by kernel_rfl) ?_
      obtain ⟨v22, h23, h⟩ := bind_of h
      refine W_run 4 [(3, .val (.dat tI v22))] [3, 4, 5, 6, 7, 8, 9] [3, 4, 5] (fr' := [(3, .one (.ptr 3 0)), (4, .one (.ptr 4 0)), (5, .one (.ptr 5 0)), (6, aI i18), (7, aI v22), (8, aD (.arr 5 tI) a0), (9, aI i18)]) (L' := [(3, .one (.arr 5 tI) a1), (4, .one (.arr 5 tI) [(0 : Int), (0 : Int), (0 : Int), (0 : Int), (0 : Int)]), (5, .one (.arr 5 tI) x19)]) (obs := [Idx a0 i18 v22]) (by kernel_rfl) (by kernel_rfl) (by kernel_rfl) (allP1 (Idx.of h23)) ?_
      refine seqQ_norm ?_
      obtain ⟨_, h24, h⟩ := bind_of h
      replace h24 := ck_some h24
      obtain ⟨v25, h26, h⟩ := bind_of h
      obtain ⟨_, h27, h⟩ := bind_of h
      replace h27 := ck_some h27
      obtain ⟨v28, h29, h⟩ := bind_of h
      refine W_run 6 [(7, .val (.dat tI v25))] [3, 4, 5, 8, 9] [3, 4, 5] (fr' := [(3, .one (.ptr 3 0)), (4, .one (.ptr 4 0)), (5, .one (.ptr 5 0)), (8, aD (.arr 5 tI) a0), (9, aI i18)]) (L' := [(3, .one (.arr 5 tI) a1), (4, .one (.arr 5 tI) [(0 : Int), (0 : Int), (0 : Int), (0 : Int), (0 : Int)]), (5, .one (.arr 5 tI) (List.set x19 (Int.toNat i18) v25))]) (obs := [InR v22 5, Idx a1 v22 v25, InR i18 5, InR i18 (List.length x19)]) (by kernel_rfl) (by kernel_rfl) (by kernel_rfl) (allP2 h24 (allP2 (Idx.of h26) (allP2 h27 (allP1 (InR.of h29))))) ?_
      refine blockQ_norm ?_
      refine seqQ_norm ?_
      obtain rfl := Option.some.inj h
      refine W_run 2 [] [3, 4, 5, 8, 9] [3, 4, 5] (fr' := [(3, .one (.ptr 3 0)), (4, .one (.ptr 4 0)), (5, .one (.ptr 5 0)), (8, aD (.arr 5 tI) a0), (9, aI (w64 (i18 + (1 : Int))))]) (L' := [(3, .one (.arr 5 tI) a1), (4, .one (.arr 5 tI) [(0 : Int), (0 : Int), (0 : Int), (0 : Int), (0 : Int)]), (5, .one (.arr 5 tI) (List.set x19 (Int.toNat i18) v25))]) (obs := []) (by kernel_rfl) (by kernel_rfl) (by kernel_rfl) allP0 ?_
      exact round_next' (by kernel_rfl) (by kernel_rfl)
    · obtain rfl := stepI_false h21 h
      refine W_exit (id := 0) [4, 5] [4, 5] (fr' := [(4, .one (.ptr 4 0)), (5, .one (.ptr 5 0))]) (L' := [(4, .one (.arr 5 tI) [(0 : Int), (0 : Int), (0 : Int), (0 : Int), (0 : Int)]), (5, .one (.arr 5 tI) x19)]) (by kernel_rfl) (by kernel_rfl) ?_
      refine seqQ_exit ?_
      refine round_exit ?_
      exact exQ_mk (by kernel_rfl) (by kernel_rfl)
  · intro e fr L hJ
    obtain ⟨rfl, rfl, rfl⟩ := hJ
    refine LT_keep [4, 5] [4, 5] (fr' := [(4, .one (.ptr 4 0)), (5, .one (.ptr 5 0))]) (L' := [(4, .one (.arr 5 tI) [(0 : Int), (0 : Int), (0 : Int), (0 : Int), (0 : Int)]), (5, .one (.arr 5 tI) v31)]) (by kernel_rfl) ?_
    refine blockQ_hit ?_
    refine seqQ_norm ?_
    refine W_seq (by kernel_rfl) ?_
    refine W_run 2 [] [4] [4] (fr' := [(4, .one (.ptr 4 0))]) (L' := [(4, .one (.arr 5 tI) v31)]) (obs := [True]) (by kernel_rfl) (by kernel_rfl) (by kernel_rfl) (allP1 trivial) ?_
    refine seqQ_norm ?_
    obtain rfl := Option.some.inj h
    refine W_ret [4] [4] (fr' := [(4, .one (.ptr 4 0))]) (L' := [(4, .one (.arr 5 tI) v31)]) (by kernel_rfl) (by kernel_rfl) ?_
    exact retQ_mk (by kernel_rfl) (by kernel_rfl) (by kernel_rfl)

@[reducible] def wide_Run_s5 (a0 : Int) (a1 : (List (Int × ((List Int) × (List Int))))) (a2 : (List Bool)) (i58 : Int) (v : Bool) : Fr × LL := ([(0, aI a0), (1, aD (.slice (.pair tI (.pair (.arr 5 tI) (.arr 5 tI)))) a1), (2, aD (.slice .bool) a2), (6, .one (.ptr 6 0)), (25, aD (.slice (.pair tI (.pair (.arr 5 tI) (.arr 5 tI)))) a1), (26, aI (List.length a1 : Int)), (27, aI i58), (50, aB v)], [(6, .one (.arr 5 tI) [(0 : Int), (0 : Int), (0 : Int), (0 : Int), (0 : Int)])])
@[reducible] def wide_Run_s6 (a0 : Int) (a1 : (List (Int × ((List Int) × (List Int))))) (a2 : (List Bool)) (i58 : Int) (v61 : (Int × ((List Int) × (List Int)))) (v : Bool) : Fr × LL := ([(0, aI a0), (1, aD (.slice (.pair tI (.pair (.arr 5 tI) (.arr 5 tI)))) a1), (2, aD (.slice .bool) a2), (6, .one (.ptr 6 0)), (9, .one (.ptr 9 0)), (25, aD (.slice (.pair tI (.pair (.arr 5 tI) (.arr 5 tI)))) a1), (26, aI (List.length a1 : Int)), (27, aI i58), (39, aB v)], [(6, .one (.arr 5 tI) [(0 : Int), (0 : Int), (0 : Int), (0 : Int), (0 : Int)]), (9, .one (.pair tI (.pair (.arr 5 tI) (.arr 5 tI))) v61)])
def wide_Run_b7 (a0 : Int) (i58 : Int) (v61 : (Int × ((List Int) × (List Int)))) (x59 : Unit) : Option (Flow Unit (Esc ((List Int) × Int) Unit)) :=
(bif decide (v61.1 < (0 : Int)) then
(some true)
else
(some (decide (v61.1 ≥ a0)))).bind fun v67 =>
bif v67 then
(some (.done (.ret ([(0 : Int), (0 : Int), (0 : Int), (0 : Int), (0 : Int)], (4 : Int)))))
else
(((wide_is v61.2.1).bind fun r80 =>
bif !r80 then
(some true)
else
((wide_is v61.2.2).bind fun r83 =>
some (!r83))).bind fun v85 =>
bif v85 then
(some (.done (.ret ([(0 : Int), (0 : Int), (0 : Int), (0 : Int), (0 : Int)], (3 : Int)))))
else
(some (.next ())))
@[reducible] def wide_Run_s8 (a0 : Int) (a1 : (List (Int × ((List Int) × (List Int))))) (a2 : (List Bool)) (v : Int × Unit) : Fr × LL := ([(0, aI a0), (1, aD (.slice (.pair tI (.pair (.arr 5 tI) (.arr 5 tI)))) a1), (2, aD (.slice .bool) a2), (6, .one (.ptr 6 0)), (25, aD (.slice (.pair tI (.pair (.arr 5 tI) (.arr 5 tI)))) a1), (26, aI (List.length a1 : Int)), (27, aI v.1)], [(6, .one (.arr 5 tI) [(0 : Int), (0 : Int), (0 : Int), (0 : Int), (0 : Int)])])
@[reducible] def wide_Run_s9 (v : ((List Int) × Int)) : Fr × LL := ([(6, .one (.ptr 6 0)), (7, aI v.2)], [(6, .one (.arr 5 tI) v.1)])
@[reducible] def wide_Run_s10 (a0 : Int) (a1 : (List (Int × ((List Int) × (List Int))))) (a2 : (List Bool)) (v : Unit) : Fr × LL := ([(0, aI a0), (1, aD (.slice (.pair tI (.pair (.arr 5 tI) (.arr 5 tI)))) a1), (2, aD (.slice .bool) a2), (6, .one (.ptr 6 0))], [(6, .one (.arr 5 tI) [(0 : Int), (0 : Int), (0 : Int), (0 : Int), (0 : Int)])])
def wide_Run_g15 (a2 : (List Bool)) (x160 : (List Int)) (v162 : (Int × ((List Int) × (List Int)))) : Option (List Int) :=
(idx a2 v162.1).bind fun v179 =>
bif v179 then
((wide_then x160 v162.2.2).bind fun r182 =>
some r182)
else
((wide_then x160 v162.2.1).bind fun r184 =>
some r184)
@[reducible] def wide_Run_s16 (a1 : (List (Int × ((List Int) × (List Int))))) (a2 : (List Bool)) (i159 : Int) (v : (List Int)) : Fr × LL := ([(2, aD (.slice .bool) a2), (6, .one (.ptr 6 0)), (10, .one (.ptr 10 0)), (59, aD (.slice (.pair tI (.pair (.arr 5 tI) (.arr 5 tI)))) a1), (60, aI (List.length a1 : Int)), (61, aI i159)], [(6, .one (.arr 5 tI) [(0 : Int), (0 : Int), (0 : Int), (0 : Int), (0 : Int)]), (10, .one (.arr 5 tI) v)])
def wide_Run_b17 (a2 : (List Bool)) (i159 : Int) (v162 : (Int × ((List Int) × (List Int)))) (x160 : (List Int)) : Option (Flow (List Int) (List Int)) :=
(wide_Run_g15 a2 x160 v162).bind fun v186 =>
some (.next v186)
@[reducible] def wide_Run_s18 (a1 : (List (Int × ((List Int) × (List Int))))) (a2 : (List Bool)) (v : Int × (List Int)) : Fr × LL := ([(2, aD (.slice .bool) a2), (6, .one (.ptr 6 0)), (10, .one (.ptr 10 0)), (59, aD (.slice (.pair tI (.pair (.arr 5 tI) (.arr 5 tI)))) a1), (60, aI (List.length a1 : Int)), (61, aI v.1)], [(6, .one (.arr 5 tI) [(0 : Int), (0 : Int), (0 : Int), (0 : Int), (0 : Int)]), (10, .one (.arr 5 tI) v.2)])
@[reducible] def wide_Run_s19 (v : (List Int)) : Fr × LL := ([(6, .one (.ptr 6 0)), (10, .one (.ptr 10 0))], [(6, .one (.arr 5 tI) [(0 : Int), (0 : Int), (0 : Int), (0 : Int), (0 : Int)]), (10, .one (.arr 5 tI) v)])
def wide_Run (a0 : Int) (a1 : (List (Int × ((List Int) × (List Int))))) (a2 : (List Bool)) : Option ((List Int) × Int) :=
bif ((decide (a0 < (0 : Int))) || (decide (a0 > (5 : Int)))) || (decide ((List.length a1 : Int) > (300 : Int))) then
(some ([(0 : Int), (0 : Int), (0 : Int), (0 : Int), (0 : Int)], (1 : Int)))
else
((forL (wide_Run_b7 a0) (fun x59 => (.brk ())) a1 0 ()).bind fun v89 =>
match v89 with
| .ret v94 =>
(some (v94.1, v94.2))
| .brk v95 =>
(bif (List.length a2 : Int) != a0 then
(some ([(0 : Int), (0 : Int), (0 : Int), (0 : Int), (0 : Int)], (2 : Int)))
else
((forL (wide_Run_b17 a2) (fun x160 => x160) a1 0 [(0 : Int), (1 : Int), (2 : Int), (3 : Int), (4 : Int)]).bind fun v189 =>
some (v189, (0 : Int)))))
theorem wide_Run_ok {a0 : Int} {a1 : (List (Int × ((List Int) × (List Int))))} {a2 : (List Bool)} {r : ((List Int) × Int)} (h : wide_Run a0 a1 a2 = some r) : FnC Try.prog 19 [aI a0, aD (.slice (.pair tI (.pair (.arr 5 tI) (.arr 5 tI)))) a1, aD (.slice .bool) a2] [] (.tup [.dat (.arr 5 tI) r.1, .dat tI r.2]) [] := by
  refine fnC_of_W (B := bodyOf Try.f19) (n := 80) Try.func19 (by kernel_rfl) (by kernel_rfl) (by kernel_rfl) (by kernel_rfl) (by kernel_rfl) ?_
  intro K
  refine W_seq (by kernel_rfl) ?_
  refine W_run 2 [(1, .typed)] [0, 1, 2, 6] [6] (fr' := [(0, aI a0), (1, aD (.slice (.pair tI (.pair (.arr 5 tI) (.arr 5 tI)))) a1), (2, aD (.slice .bool) a2), (6, .one (.ptr 6 0))]) (L' := [(6, .one (.arr 5 tI) [(0 : Int), (0 : Int), (0 : Int), (0 : Int), (0 : Int)])]) (obs := []) (by kernel_rfl) (by kernel_rfl) (by kernel_rfl) allP0 ?_
  refine seqQ_norm ?_
  refine W_seq (by kernel_rfl) ?_
  refine W_seq (by kernel_rfl) ?_
  refine W_run 11 [] [0, 1, 2, 6, 23] [6] (fr' := [(0, aI a0), (1, aD (.slice (.pair tI (.pair (.arr 5 tI) (.arr 5 tI)))) a1), (2, aD (.slice .bool) a2), (6, .one (.ptr 6 0)), (23, aB (((decide (a0 < (0 : Int))) || (decide (a0 > (5 : Int)))) || (decide ((List.length a1 : Int) > (300 : Int)))))]) (L' := [(6, .one (.arr 5 tI) [(0 : Int), (0 : Int), (0 : Int), (0 : Int), (0 : Int)])]) (obs := []) (by kernel_rfl) (by kernel_rfl) (by kernel_rfl) allP0 ?_
  refine seqQ_norm ?_
  refine W_cond (o := .tmp 23) (b := ((decide (a0 < (0 : Int))) || (decide (a0 > (5 : Int)))) || (decide ((List.length a1 : Int) > (300 : Int)))) (by kernel_rfl) (by kernel_rfl) (fun h1 => ?_) (fun h1 => ?_)
  · replace h := ofT h1 h
    refine W_seq (by kernel_rfl) ?_
    refine W_run 3 [] [6, 7] [6] (fr' := [(6, .one (.ptr 6 0)), (7, aI (1 : Int))]) (L' := [(6, .one (.arr 5 tI) [(0 : Int), (0 : Int), (0 : Int), (0 : Int), (0 : Int)])]) (obs := [True]) (by kernel_rfl) (by kernel_rfl) (by kernel_rfl) (allP1 trivial) ?_
    refine seqQ_norm ?_
    obtain rfl := Option.some.inj h
    refine W_ret [6, 7] [6] (fr' := [(6, .one (.ptr 6 0)), (7, aI (1 : Int))]) (L' := [(6, .one (.arr 5 tI) [(0 : Int), (0 : Int), (0 : Int), (0 : Int), (0 : Int)])]) (by kernel_rfl) (by kernel_rfl) ?_
    refine seqQ_ret ?_
    exact retQ_mk (by kernel_rfl) (by kernel_rfl) (by kernel_rfl)
  · replace h := ofF h1 h
    refine W_skip [0, 1, 2, 6] [6] (fr' := [(0, aI a0), (1, aD (.slice (.pair tI (.pair (.arr 5 tI) (.arr 5 tI)))) a1), (2, aD (.slice .bool) a2), (6, .one (.ptr 6 0))]) (L' := [(6, .one (.arr 5 tI) [(0 : Int), (0 : Int), (0 : Int), (0 : Int), (0 : Int)])]) (by kernel_rfl) (by kernel_rfl) ?_
    refine seqQ_norm ?_
    refine W_seq (by kernel_rfl) ?_
    refine W_seq (by kernel_rfl) ?_
    refine W_run 3 [] [0, 1, 2, 6, 25, 26, 27] [6] (fr' := [(0, aI a0), (1, aD (.slice (.pair tI (.pair (.arr 5 tI) (.arr 5 tI)))) a1), (2, aD (.slice .bool) a2), (6, .one (.ptr 6 0)), (25, aD (.slice (.pair tI (.pair (.arr 5 tI) (.arr 5 tI)))) a1), (26, aI (List.length a1 : Int)), (27, aI (0 : Int))]) (L' := [(6, .one (.arr 5 tI) [(0 : Int), (0 : Int), (0 : Int), (0 : Int), (0 : Int)])]) (obs := []) (by kernel_rfl) (by kernel_rfl) (by kernel_rfl) allP0 ?_
    refine seqQ_norm ?_
    refine W_block (id := 0) (by kernel_rfl) ?_
    obtain ⟨v89, h90, h⟩ := bind_of h
    refine W_len (t := 25) (u := (.pair tI (.pair (.arr 5 tI) (.arr 5 tI)))) (xs := a1) (by kernel_rfl) (fun h93 => ?_)
    obtain ⟨h91, h92⟩ := forL_iter h93 h90
    refine W_weaken [0, 1, 2, 6, 25, 26, 27] [6] (fr' := ((wide_Run_s8 a0 a1 a2) ((0 : Int), ())).1) (L' := ((wide_Run_s8 a0 a1 a2) ((0 : Int), ())).2) (by kernel_rfl) ?_
    refine W_cutK (W_loop (S := (wide_Run_s8 a0 a1 a2)) (J := (escQ (exQ .ret wide_Run_s9) (exQ (.exit 0) (wide_Run_s10 a0 a1 a2)))) (by kernel_rfl) ?_ h91 _ v89 h92) ?_
    · rintro ⟨i58, x59⟩ s h
      refine W_seq (by kernel_rfl) ?_
      refine W_run 1 [] [0, 1, 2, 6, 25, 26, 27, 28] [6] (fr' := [(0, aI a0), (1, aD (.slice (.pair tI (.pair (.arr 5 tI) (.arr 5 tI)))) a1), (2, aD (.slice .bool) a2), (6, .one (.ptr 6 0)), (25, aD (.slice (.pair tI (.pair (.arr 5 tI) (.arr 5 tI)))) a1), (26, aI (List.length a1 : Int)), (27, aI i58), (28, aB (decide (i58 < (List.length a1 : Int))))]) (L' := [(6, .one (.arr 5 tI) [(0 : Int), (0 : Int), (0 : Int), (0 : Int), (0 : Int)])]) (obs := []) (by kernel_rfl) (by kernel_rfl) (by kernel_rfl) allP0 ?_
      refine seqQ_norm ?_
      refine W_seq (by kernel_rfl) ?_
      refine W_cond (o := .tmp 28) (b := decide (i58 < (List.length a1 : Int))) (by kernel_rfl) (by kernel_rfl) (fun h63 => ?_) (fun h63 => ?_)
      · replace h := stepL_true h63 h
        obtain ⟨v61, _, h62, h, rfl⟩ := h
        refine W_skip [0, 1, 2, 6, 25, 26, 27] [6] (fr' := [(0, aI a0), (1, aD (.slice (.pair tI (.pair (.arr 5 tI) (.arr 5 tI)))) a1), (2, aD (.slice .bool) a2), (6, .one (.ptr 6 0)), (25, aD (.slice (.pair tI (.pair (.arr 5 tI) (.arr 5 tI)))) a1), (26, aI (List.length a1 : Int)), (27, aI i58)]) (L' := [(6, .one (.arr 5 tI) [(0 : Int), (0 : Int), (0 : Int), (0 : Int), (0 : Int)])]) (by kernel_rfl) (by kernel_rfl) ?_
        refine seqQ_norm ?_
        refine W_seq (by kernel_rfl) ?_
        refine W_block (id := 1) (by kernel_rfl) ?_
        refine W_seq (by kernel_rfl) ?_
        refine W_run 4 [(1, .val (.dat (.pair tI (.pair (.arr 5 tI) (.arr 5 tI))) v61)), (5, .typed)] [0, 1, 2, 6, 9, 25, 26, 27] [6, 9] (fr' := [(0, aI a0), (1, aD (.slice (.pair tI (.pair (.arr 5 tI) (.arr 5 tI)))) a1), (2, aD (.slice .bool) a2), (6, .one (.ptr 6 0)), (9, .one (.ptr 9 0)), (25, aD (.slice (.pair tI (.pair (.arr 5 tI) (.arr 5 tI)))) a1), (26, aI (List.length a1 : Int)), (27, aI i58)]) (L' := [(6, .one (.arr 5 tI) [(0 : Int), (0 : Int), (0 : Int), (0 : Int), (0 : Int)]), (9, .one (.pair tI (.pair (.arr 5 tI) (.arr 5 tI))) v61)]) (obs := [Idx a1 i58 v61, True]) (by kernel_rfl) (by kernel_rfl) (by kernel_rfl) (allP2 (Idx.of h62) (allP1 trivial)) ?_
        refine seqQ_norm ?_
        refine W_seq (by kernel_rfl) ?_
        refine W_seq (by kernel_rfl) ?_
        obtain ⟨v67, h68, h⟩ := bind_of h
        refine W_cutK (Q' := (exQ .normal (wide_Run_s6 a0 a1 a2 i58 v61)) v67) ?_ ?_
        · replace h := h68
          refine W_region (by kernel_rfl) ?_
          refine WO_run (j := 4) (k := 4) (orcs := []) (kF := [0, 1, 2, 6, 9, 25, 26, 27, 34]) (kL := [6, 9]) (fr' := [(0, aI a0), (1, aD (.slice (.pair tI (.pair (.arr 5 tI) (.arr 5 tI)))) a1), (2, aD (.slice .bool) a2), (6, .one (.ptr 6 0)), (9, .one (.ptr 9 0)), (25, aD (.slice (.pair tI (.pair (.arr 5 tI) (.arr 5 tI)))) a1), (26, aI (List.length a1 : Int)), (27, aI i58), (34, aB (decide (v61.1 < (0 : Int))))]) (L' := [(6, .one (.arr 5 tI) [(0 : Int), (0 : Int), (0 : Int), (0 : Int), (0 : Int)]), (9, .one (.pair tI (.pair (.arr 5 tI) (.arr 5 tI))) v61)]) (obs := []) rfl (by kernel_rfl) allP0 ?_
          rcases Bool.eq_false_or_eq_true (decide (v61.1 < (0 : Int))) with h66 | h66
          · replace h := ofT h66 h
            refine WO_run (j := 9) (k := 5) (orcs := [(8, .known true), (10, .known true), (12, .known true), (14, .known true), (17, .val (.dat .bool true))]) (kF := [0, 1, 2, 6, 9, 25, 26, 27, 39]) (kL := [6, 9]) (fr' := [(0, aI a0), (1, aD (.slice (.pair tI (.pair (.arr 5 tI) (.arr 5 tI)))) a1), (2, aD (.slice .bool) a2), (6, .one (.ptr 6 0)), (9, .one (.ptr 9 0)), (25, aD (.slice (.pair tI (.pair (.arr 5 tI) (.arr 5 tI)))) a1), (26, aI (List.length a1 : Int)), (27, aI i58), (39, aB true)]) (L' := [(6, .one (.arr 5 tI) [(0 : Int), (0 : Int), (0 : Int), (0 : Int), (0 : Int)]), (9, .one (.pair tI (.pair (.arr 5 tI) (.arr 5 tI))) v61)]) (obs := [((decide (v61.1 < (0 : Int))) = true), ((decide (v61.1 < (0 : Int))) = true), ((decide (v61.1 < (0 : Int))) = true), ((decide (v61.1 < (0 : Int))) = true), ((decide (v61.1 < (0 : Int))) = true)]) rfl (by kernel_rfl) (allP2 h66 (allP2 h66 (allP2 h66 (allP2 h66 (allP1 h66))))) ?_
            obtain rfl := Option.some.inj h
            refine WO_fin [0, 1, 2, 6, 9, 25, 26, 27, 39] [6, 9] (fr' := [(0, aI a0), (1, aD (.slice (.pair tI (.pair (.arr 5 tI) (.arr 5 tI)))) a1), (2, aD (.slice .bool) a2), (6, .one (.ptr 6 0)), (9, .one (.ptr 9 0)), (25, aD (.slice (.pair tI (.pair (.arr 5 tI) (.arr 5 tI)))) a1), (26, aI (List.length a1 : Int)), (27, aI i58), (39, aB true)]) (L' := [(6, .one (.arr 5 tI) [(0 : Int), (0 : Int), (0 : Int), (0 : Int), (0 : Int)]), (9, .one (.pair tI (.pair (.arr 5 tI) (.arr 5 tI))) v61)]) (by kernel_rfl) (by kernel_rfl) ?_
            exact exQ_mk (by kernel_rfl) (by kernel_rfl)
          · replace h := ofF h66 h
            refine WO_run (j := 9) (k := 5) (orcs := [(8, .known false), (10, .known false), (12, .known false), (14, .known false), (17, .val (.dat .bool false))]) (kF := [0, 1, 2, 6, 9, 25, 26, 27, 39]) (kL := [6, 9]) (fr' := [(0, aI a0), (1, aD (.slice (.pair tI (.pair (.arr 5 tI) (.arr 5 tI)))) a1), (2, aD (.slice .bool) a2), (6, .one (.ptr 6 0)), (9, .one (.ptr 9 0)), (25, aD (.slice (.pair tI (.pair (.arr 5 tI) (.arr 5 tI)))) a1), (26, aI (List.length a1 : Int)), (27, aI i58), (39, aB (decide (v61.1 ≥ a0)))]) (L' := [(6, .one (.arr 5 tI) [(0 : Int), (0 : Int), (0 : Int), (0 : Int), (0 : Int)]), (9, .one (.pair tI (.pair (.arr 5 tI) (.arr 5 tI))) v61)]) (obs := [((decide (v61.1 < (0 : Int))) = false), ((decide (v61.1 < (0 : Int))) = false), ((decide (v61.1 < (0 : Int))) = false), ((decide (v61.1 < (0 : Int))) = false), ((decide (v61.1 < (0 : Int))) = false)]) rfl (by kernel_rfl) (allP2 h66 (allP2 h66 (allP2 h66 (allP2 h66 (allP1 h66))))) ?_
            obtain rfl := Option.some.inj h
            refine WO_fin [0, 1, 2, 6, 9, 25, 26, 27, 39] [6, 9] (fr' := [(0, aI a0), (1, aD (.slice (.pair tI (.pair (.arr 5 tI) (.arr 5 tI)))) a1), (2, aD (.slice .bool) a2), (6, .one (.ptr 6 0)), (9, .one (.ptr 9 0)), (25, aD (.slice (.pair tI (.pair (.arr 5 tI) (.arr 5 tI)))) a1), (26, aI (List.length a1 : Int)), (27, aI i58), (39, aB (decide (v61.1 ≥ a0)))]) (L' := [(6, .one (.arr 5 tI) [(0 : Int), (0 : Int), (0 : Int), (0 : Int), (0 : Int)]), (9, .one (.pair tI (.pair (.arr 5 tI) (.arr 5 tI))) v61)]) (by kernel_rfl) (by kernel_rfl) ?_
            exact exQ_mk (by kernel_rfl) (by kernel_rfl)
        · intro e fr L hJ
          obtain ⟨rfl, rfl, rfl⟩ := hJ
          refine LT_keep [0, 1, 2, 6, 9, 25, 26, 27, 39] [6, 9] (fr' := [(0, aI a0), (1, aD (.slice (.pair tI (.pair (.arr 5 tI) (.arr 5 tI)))) a1), (2, aD (.slice .bool) a2), (6, .one (.ptr 6 0)), (9, .one (.ptr 9 0)), (25, aD (.slice (.pair tI (.pair (.arr 5 tI) (.arr 5 tI)))) a1), (26, aI (List.length a1 : Int)), (27, aI i58), (39, aB v67)]) (L' := [(6, .one (.arr 5 tI) [(0 : Int), (0 : Int), (0 : Int), (0 : Int), (0 : Int)]), (9, .one (.pair tI (.pair (.arr 5 tI) (.arr 5 tI))) v61)]) (by kernel_rfl) ?_
          refine seqQ_norm ?_
          refine W_cond (o := .tmp 39) (b := v67) (by kernel_rfl) (by kernel_rfl) (fun h69 => ?_) (fun h69 => ?_)
          · replace h := ofT h69 h
            refine W_seq (by kernel_rfl) ?_
            refine W_run 3 [] [6, 7] [6] (fr' := [(6, .one (.ptr 6 0)), (7, aI (4 : Int))]) (L' := [(6, .one (.arr 5 tI) [(0 : Int), (0 : Int), (0 : Int), (0 : Int), (0 : Int)])]) (obs := [True]) (by kernel_rfl) (by kernel_rfl) (by kernel_rfl) (allP1 trivial) ?_
            refine seqQ_norm ?_
            obtain rfl := Option.some.inj h
            refine W_ret [6, 7] [6] (fr' := [(6, .one (.ptr 6 0)), (7, aI (4 : Int))]) (L' := [(6, .one (.arr 5 tI) [(0 : Int), (0 : Int), (0 : Int), (0 : Int), (0 : Int)])]) (by kernel_rfl) (by kernel_rfl) ?_
            refine seqQ_ret ?_
            refine blockQ_ret ?_
            refine seqQ_ret ?_
            refine round_ret ?_
            refine escQ_ret ?_
            exact exQ_mk (by kernel_rfl) (by kernel_rfl)
          · replace h := ofF h69 h
            refine W_skip [0, 1, 2, 6, 9, 25, 26, 27] [6, 9] (fr' := [(0, aI a0), (1, aD (.slice (.pair tI (.pair (.arr 5 tI) (.arr 5 tI)))) a1), (2, aD (.slice .bool) a2), (6, .one (.ptr 6 0)), (9, .one (.ptr 9 0)), (25, aD (.slice (.pair tI (.pair (.arr 5 tI) (.arr 5 tI)))) a1), (26, aI (List.length a1 : Int)), (27, aI i58)]) (L' := [(6, .one (.arr 5 tI) [(0 : Int), (0 : Int), (0 : Int), (0 : Int), (0 : Int)]), (9, .one (.pair tI (.pair (.arr 5 tI) (.arr 5 tI))) v61)]) (by kernel_rfl) (by kernel_rfl) ?_
            refine seqQ_norm ?_
            refine W_seq (by kernel_rfl) ?_
            obtain ⟨v85, h86, h⟩ := bind_of h
            refine W_cutK (Q' := (exQ .normal (wide_Run_s5 a0 a1 a2 i58)) v85) ?_ ?_
            · replace h := h86
              refine W_region (by kernel_rfl) ?_
              refine WO_run (j := 2) (k := 2) (orcs := []) (kF := [0, 1, 2, 6, 9, 25, 26, 27, 42]) (kL := [6, 9]) (fr' := [(0, aI a0), (1, aD (.slice (.pair tI (.pair (.arr 5 tI) (.arr 5 tI)))) a1), (2, aD (.slice .bool) a2), (6, .one (.ptr 6 0)), (9, .one (.ptr 9 0)), (25, aD (.slice (.pair tI (.pair (.arr 5 tI) (.arr 5 tI)))) a1), (26, aI (List.length a1 : Int)), (27, aI i58), (42, aD (.arr 5 tI) v61.2.1)]) (L' := [(6, .one (.arr 5 tI) [(0 : Int), (0 : Int), (0 : Int), (0 : Int), (0 : Int)]), (9, .one (.pair tI (.pair (.arr 5 tI) (.arr 5 tI))) v61)]) (obs := []) rfl (by kernel_rfl) allP0 ?_
              obtain ⟨r80, h81, h⟩ := bind_of h
              refine WO_call0 (us := [none]) (d := 43) (p := True) (j := 3) rfl ⟨by kernel_rfl, by kernel_rfl, by kernel_rfl⟩ trivial (wide_is_ok h81) (by kernel_rfl) ?_
              refine WO_run (j := 5) (k := 2) (orcs := []) (kF := [0, 1, 2, 6, 9, 25, 26, 27, 45]) (kL := [6, 9]) (fr' := [(0, aI a0), (1, aD (.slice (.pair tI (.pair (.arr 5 tI) (.arr 5 tI)))) a1), (2, aD (.slice .bool) a2), (6, .one (.ptr 6 0)), (9, .one (.ptr 9 0)), (25, aD (.slice (.pair tI (.pair (.arr 5 tI) (.arr 5 tI)))) a1), (26, aI (List.length a1 : Int)), (27, aI i58), (45, aB (!r80))]) (L' := [(6, .one (.arr 5 tI) [(0 : Int), (0 : Int), (0 : Int), (0 : Int), (0 : Int)]), (9, .one (.pair tI (.pair (.arr 5 tI) (.arr 5 tI))) v61)]) (obs := []) rfl (by kernel_rfl) allP0 ?_
              rcases Bool.eq_false_or_eq_true (!r80) with h82 | h82
              · replace h := ofT h82 h
                refine WO_run (j := 10) (k := 5) (orcs := [(10, .known true), (12, .known true), (14, .known true), (16, .known true), (19, .val (.dat .bool true))]) (kF := [0, 1, 2, 6, 25, 26, 27, 50]) (kL := [6, 9]) (fr' := [(0, aI a0), (1, aD (.slice (.pair tI (.pair (.arr 5 tI) (.arr 5 tI)))) a1), (2, aD (.slice .bool) a2), (6, .one (.ptr 6 0)), (25, aD (.slice (.pair tI (.pair (.arr 5 tI) (.arr 5 tI)))) a1), (26, aI (List.length a1 : Int)), (27, aI i58), (50, aB true)]) (L' := [(6, .one (.arr 5 tI) [(0 : Int), (0 : Int), (0 : Int), (0 : Int), (0 : Int)]), (9, .one (.pair tI (.pair (.arr 5 tI) (.arr 5 tI))) v61)]) (obs := [((!r80) = true), ((!r80) = true), ((!r80) = true), ((!r80) = true), ((!r80) = true)]) rfl (by kernel_rfl) (allP2 h82 (allP2 h82 (allP2 h82 (allP2 h82 (allP1 h82))))) ?_
                obtain rfl := Option.some.inj h
                refine WO_fin [0, 1, 2, 6, 25, 26, 27, 50] [6] (fr' := [(0, aI a0), (1, aD (.slice (.pair tI (.pair (.arr 5 tI) (.arr 5 tI)))) a1), (2, aD (.slice .bool) a2), (6, .one (.ptr 6 0)), (25, aD (.slice (.pair tI (.pair (.arr 5 tI) (.arr 5 tI)))) a1), (26, aI (List.length a1 : Int)), (27, aI i58), (50, aB true)]) (L' := [(6, .one (.arr 5 tI) [(0 : Int), (0 : Int), (0 : Int), (0 : Int), (0 : Int)])]) (by kernel_rfl) (by kernel_rfl) ?_
                exact exQ_mk (by kernel_rfl) (by kernel_rfl)
              · replace h := ofF h82 h
                refine WO_run (j := 7) (k := 2) (orcs := [(10, .known false), (12, .known false)]) (kF := [0, 1, 2, 6, 25, 26, 27, 45, 47]) (kL := [6, 9]) (fr' := [(0, aI a0), (1, aD (.slice (.pair tI (.pair (.arr 5 tI) (.arr 5 tI)))) a1), (2, aD (.slice .bool) a2), (6, .one (.ptr 6 0)), (25, aD (.slice (.pair tI (.pair (.arr 5 tI) (.arr 5 tI)))) a1), (26, aI (List.length a1 : Int)), (27, aI i58), (45, aB (!r80)), (47, aD (.arr 5 tI) v61.2.2)]) (L' := [(6, .one (.arr 5 tI) [(0 : Int), (0 : Int), (0 : Int), (0 : Int), (0 : Int)]), (9, .one (.pair tI (.pair (.arr 5 tI) (.arr 5 tI))) v61)]) (obs := [((!r80) = false), ((!r80) = false)]) rfl (by kernel_rfl) (allP2 h82 (allP1 h82)) ?_
                obtain ⟨r83, h84, h⟩ := bind_of h
                refine WO_call0 (us := [none]) (d := 48) (p := ((!r80) = false)) (j := 8) rfl ⟨by kernel_rfl, by kernel_rfl, by kernel_rfl⟩ h82 (wide_is_ok h84) (by kernel_rfl) ?_
                refine WO_run (j := 10) (k := 2) (orcs := [(16, .known false), (19, .val (.dat .bool false))]) (kF := [0, 1, 2, 6, 25, 26, 27, 50]) (kL := [6, 9]) (fr' := [(0, aI a0), (1, aD (.slice (.pair tI (.pair (.arr 5 tI) (.arr 5 tI)))) a1), (2, aD (.slice .bool) a2), (6, .one (.ptr 6 0)), (25, aD (.slice (.pair tI (.pair (.arr 5 tI) (.arr 5 tI)))) a1), (26, aI (List.length a1 : Int)), (27, aI i58), (50, aB (!r83))]) (L' := [(6, .one (.arr 5 tI) [(0 : Int), (0 : Int), (0 : Int), (0 : Int), (0 : Int)]), (9, .one (.pair tI (.pair (.arr 5 tI) (.arr 5 tI))) v61)]) (obs := [((!r80) = false), ((!r80) = false)]) rfl (by kernel_rfl) (allP2 h82 (allP1 h82)) ?_
                obtain rfl := Option.some.inj h
                refine WO_fin [0, 1, 2, 6, 25, 26, 27, 50] [6] (fr' := [(0, aI a0), (1, aD (.slice (.pair tI (.pair (.arr 5 tI) (.arr 5 tI)))) a1), (2, aD (.slice .bool) a2), (6, .one (.ptr 6 0)), (25, aD (.slice (.pair tI (.pair (.arr 5 tI) (.arr 5 tI)))) a1), (26, aI (List.length a1 : Int)), (27, aI i58), (50, aB (!r83))]) (L' := [(6, .one (.arr 5 tI) [(0 : Int), (0 : Int), (0 : Int), (0 : Int), (0 : Int)])]) (by kernel_rfl) (by kernel_rfl) ?_
                exact exQ_mk (by kernel_rfl) (by kernel_rfl)
            · intro e fr L hJ
              obtain ⟨rfl, rfl, rfl⟩ := hJ
              refine LT_keep [0, 1, 2, 6, 25, 26, 27, 50] [6] (fr' := [(0, aI a0), (1, aD (.slice (.pair tI (.pair (.arr 5 tI) (.arr 5 tI)))) a1), (2, aD (.slice .bool) a2), (6, .one (.ptr 6 0)), (25, aD (.slice (.pair tI (.pair (.arr 5 tI) (.arr 5 tI)))) a1), (26, aI (List.length a1 : Int)), (27, aI i58), (50, aB v85)]) (L' := [(6, .one (.arr 5 tI) [(0 : Int), (0 : Int), (0 : Int), (0 : Int), (0 : Int)])]) (by kernel_rfl) ?_
              refine seqQ_norm ?_
              refine W_cond (o := .tmp 50) (b := v85) (by kernel_rfl) (by kernel_rfl) (fun h87 => ?_) (fun h87 => ?_)
              · replace h := ofT h87 h
                refine W_seq (by kernel_rfl) ?_
                refine W_run 3 [] [6, 7] [6] (fr' := [(6, .one (.ptr 6 0)), (7, aI (3 : Int))]) (L' := [(6, .one (.arr 5 tI) [(0 : Int), (0 : Int), (0 : Int), (0 : Int), (0 : Int)])]) (obs := [True]) (by kernel_rfl) (by kernel_rfl) (by kernel_rfl) (allP1 trivial) ?_
                refine seqQ_norm ?_
                obtain rfl := Option.some.inj h
                refine W_ret [6, 7] [6] (fr' := [(6, .one (.ptr 6 0)), (7, aI (3 : Int))]) (L' := [(6, .one (.arr 5 tI) [(0 : Int), (0 : Int), (0 : Int), (0 : Int), (0 : Int)])]) (by kernel_rfl) (by kernel_rfl) ?_
                refine blockQ_ret ?_
                refine seqQ_ret ?_
                refine round_ret ?_
                refine escQ_ret ?_
                exact exQ_mk (by kernel_rfl) (by kernel_rfl)
              · replace h := ofF h87 h
                refine W_skip [0, 1, 2, 6, 25, 26, 27] [6] (fr' := [(0, aI a0), (1, aD (.slice (.pair tI (.pair (.arr 5 tI) (.arr 5 tI)))) a1), (2, aD (.slice .bool) a2), (6, .one (.ptr 6 0)), (25, aD (.slice (.pair tI (.pair (.arr 5 tI) (.arr 5 tI)))) a1), (26, aI (List.length a1 : Int)), (27, aI i58)]) (L' := [(6, .one (.arr 5 tI) [(0 : Int), (0 : Int), (0 : Int), (0 : Int), (0 : Int)])]) (by kernel_rfl) (by kernel_rfl) ?_
                refine blockQ_norm ?_
                refine seqQ_norm ?_
                obtain rfl := Option.some.inj h
                refine W_run 2 [] [0, 1, 2, 6, 25, 26, 27] [6] (fr' := [(0, aI a0), (1, aD (.slice (.pair tI (.pair (.arr 5 tI) (.arr 5 tI)))) a1), (2, aD (.slice .bool) a2), (6, .one (.ptr 6 0)), (25, aD (.slice (.pair tI (.pair (.arr 5 tI) (.arr 5 tI)))) a1), (26, aI (List.length a1 : Int)), (27, aI (w64 (i58 + (1 : Int))))]) (L' := [(6, .one (.arr 5 tI) [(0 : Int), (0 : Int), (0 : Int), (0 : Int), (0 : Int)])]) (obs := []) (by kernel_rfl) (by kernel_rfl) (by kernel_rfl) allP0 ?_
                exact round_next' (by kernel_rfl) (by kernel_rfl)
      · obtain rfl := stepL_false h63 h
        refine W_exit (id := 0) [0, 1, 2, 6] [6] (fr' := [(0, aI a0), (1, aD (.slice (.pair tI (.pair (.arr 5 tI) (.arr 5 tI)))) a1), (2, aD (.slice .bool) a2), (6, .one (.ptr 6 0))]) (L' := [(6, .one (.arr 5 tI) [(0 : Int), (0 : Int), (0 : Int), (0 : Int), (0 : Int)])]) (by kernel_rfl) (by kernel_rfl) ?_
        refine seqQ_exit ?_
        refine round_exit ?_
        refine escQ_brk ?_
        exact exQ_mk (by kernel_rfl) (by kernel_rfl)
    · intro e fr L hJ
      rcases v89 with v94 | v95
      · obtain ⟨rfl, rfl, rfl⟩ := hJ
        obtain rfl := Option.some.inj h
        refine LT_keep [6, 7] [6] (fr' := [(6, .one (.ptr 6 0)), (7, aI v94.2)]) (L' := [(6, .one (.arr 5 tI) v94.1)]) (by kernel_rfl) ?_
        refine blockQ_ret ?_
        refine seqQ_ret ?_
        exact retQ_mk (by kernel_rfl) (by kernel_rfl) (by kernel_rfl)
      · obtain ⟨rfl, rfl, rfl⟩ := hJ
        refine LT_keep [0, 1, 2, 6] [6] (fr' := [(0, aI a0), (1, aD (.slice (.pair tI (.pair (.arr 5 tI) (.arr 5 tI)))) a1), (2, aD (.slice .bool) a2), (6, .one (.ptr 6 0))]) (L' := [(6, .one (.arr 5 tI) [(0 : Int), (0 : Int), (0 : Int), (0 : Int), (0 : Int)])]) (by kernel_rfl) ?_
        refine blockQ_hit ?_
        refine seqQ_norm ?_
        refine W_seq (by kernel_rfl) ?_
        refine W_seq (by kernel_rfl) ?_
        refine W_run 4 [] [1, 2, 6, 56] [6] (fr' := [(1, aD (.slice (.pair tI (.pair (.arr 5 tI) (.arr 5 tI)))) a1), (2, aD (.slice .bool) a2), (6, .one (.ptr 6 0)), (56, aB ((List.length a2 : Int) != a0))]) (L' := [(6, .one (.arr 5 tI) [(0 : Int), (0 : Int), (0 : Int), (0 : Int), (0 : Int)])]) (obs := []) (by kernel_rfl) (by kernel_rfl) (by kernel_rfl) allP0 ?_
        refine seqQ_norm ?_
        refine W_cond (o := .tmp 56) (b := (List.length a2 : Int) != a0) (by kernel_rfl) (by kernel_rfl) (fun h96 => ?_) (fun h96 => ?_)
        · replace h := ofT h96 h
          refine W_seq (by kernel_rfl) ?_
          refine W_run 3 [] [6, 7] [6] (fr' := [(6, .one (.ptr 6 0)), (7, aI (2 : Int))]) (L' := [(6, .one (.arr 5 tI) [(0 : Int), (0 : Int), (0 : Int), (0 : Int), (0 : Int)])]) (obs := [True]) (by kernel_rfl) (by kernel_rfl) (by kernel_rfl) (allP1 trivial) ?_
          refine seqQ_norm ?_
          obtain rfl := Option.some.inj h
          refine W_ret [6, 7] [6] (fr' := [(6, .one (.ptr 6 0)), (7, aI (2 : Int))]) (L' := [(6, .one (.arr 5 tI) [(0 : Int), (0 : Int), (0 : Int), (0 : Int), (0 : Int)])]) (by kernel_rfl) (by kernel_rfl) ?_
          refine seqQ_ret ?_
          exact retQ_mk (by kernel_rfl) (by kernel_rfl) (by kernel_rfl)
        · replace h := ofF h96 h
          refine W_skip [1, 2, 6] [6] (fr' := [(1, aD (.slice (.pair tI (.pair (.arr 5 tI) (.arr 5 tI)))) a1), (2, aD (.slice .bool) a2), (6, .one (.ptr 6 0))]) (L' := [(6, .one (.arr 5 tI) [(0 : Int), (0 : Int), (0 : Int), (0 : Int), (0 : Int)])]) (by kernel_rfl) (by kernel_rfl) ?_
          refine seqQ_norm ?_
          refine W_seq (by kernel_rfl) ?_
          refine W_run 3 [(3, .typed)] [1, 2, 6, 10] [6, 10] (fr' := [(1, aD (.slice (.pair tI (.pair (.arr 5 tI) (.arr 5 tI)))) a1), (2, aD (.slice .bool) a2), (6, .one (.ptr 6 0)), (10, .one (.ptr 10 0))]) (L' := [(6, .one (.arr 5 tI) [(0 : Int), (0 : Int), (0 : Int), (0 : Int), (0 : Int)]), (10, .one (.arr 5 tI) [(0 : Int), (1 : Int), (2 : Int), (3 : Int), (4 : Int)])]) (obs := [True]) (by kernel_rfl) (by kernel_rfl) (by kernel_rfl) (allP1 trivial) ?_
          refine seqQ_norm ?_
          refine W_seq (by kernel_rfl) ?_
          refine W_seq (by kernel_rfl) ?_
          refine W_run 3 [] [2, 6, 10, 59, 60, 61] [6, 10] (fr' := [(2, aD (.slice .bool) a2), (6, .one (.ptr 6 0)), (10, .one (.ptr 10 0)), (59, aD (.slice (.pair tI (.pair (.arr 5 tI) (.arr 5 tI)))) a1), (60, aI (List.length a1 : Int)), (61, aI (0 : Int))]) (L' := [(6, .one (.arr 5 tI) [(0 : Int), (0 : Int), (0 : Int), (0 : Int), (0 : Int)]), (10, .one (.arr 5 tI) [(0 : Int), (1 : Int), (2 : Int), (3 : Int), (4 : Int)])]) (obs := []) (by kernel_rfl) (by kernel_rfl) (by kernel_rfl) allP0 ?_
          refine seqQ_norm ?_
          refine W_block (id := 2) (by kernel_rfl) ?_
          obtain ⟨v189, h190, h⟩ := bind_of h
          refine W_len (t := 59) (u := (.pair tI (.pair (.arr 5 tI) (.arr 5 tI)))) (xs := a1) (by kernel_rfl) (fun h193 => ?_)
          obtain ⟨h191, h192⟩ := forL_iter h193 h190
          refine W_weaken [2, 6, 10, 59, 60, 61] [6, 10] (fr' := ((wide_Run_s18 a1 a2) ((0 : Int), [(0 : Int), (1 : Int), (2 : Int), (3 : Int), (4 : Int)])).1) (L' := ((wide_Run_s18 a1 a2) ((0 : Int), [(0 : Int), (1 : Int), (2 : Int), (3 : Int), (4 : Int)])).2) (by kernel_rfl) ?_
          refine W_cutK (W_loop (S := (wide_Run_s18 a1 a2)) (J := (exQ (.exit 2) wide_Run_s19)) (by kernel_rfl) ?_ h191 _ v189 h192) ?_
          · rintro ⟨i159, x160⟩ s h
            refine W_seq (by kernel_rfl) ?_
            refine W_run 1 [] [2, 6, 10, 59, 60, 61, 62] [6, 10] (fr' := [(2, aD (.slice .bool) a2), (6, .one (.ptr 6 0)), (10, .one (.ptr 10 0)), (59, aD (.slice (.pair tI (.pair (.arr 5 tI) (.arr 5 tI)))) a1), (60, aI (List.length a1 : Int)), (61, aI i159), (62, aB (decide (i159 < (List.length a1 : Int))))]) (L' := [(6, .one (.arr 5 tI) [(0 : Int), (0 : Int), (0 : Int), (0 : Int), (0 : Int)]), (10, .one (.arr 5 tI) x160)]) (obs := []) (by kernel_rfl) (by kernel_rfl) (by kernel_rfl) allP0 ?_
            refine seqQ_norm ?_
            refine W_seq (by kernel_rfl) ?_
            refine W_cond (o := .tmp 62) (b := decide (i159 < (List.length a1 : Int))) (by kernel_rfl) (by kernel_rfl) (fun h164 => ?_) (fun h164 => ?_)
            · replace h := stepL_true h164 h
              obtain ⟨v162, _, h163, h, rfl⟩ := h
              refine W_skip [2, 6, 10, 59, 60, 61] [6, 10] (fr' := [(2, aD (.slice .bool) a2), (6, .one (.ptr 6 0)), (10, .one (.ptr 10 0)), (59, aD (.slice (.pair tI (.pair (.arr 5 tI) (.arr 5 tI)))) a1), (60, aI (List.length a1 : Int)), (61, aI i159)]) (L' := [(6, .one (.arr 5 tI) [(0 : Int), (0 : Int), (0 : Int), (0 : Int), (0 : Int)]), (10, .one (.arr 5 tI) x160)]) (by kernel_rfl) (by kernel_rfl) ?_
              refine seqQ_norm ?_
              refine W_seq (by kernel_rfl) ?_
              obtain ⟨v186, h187, h⟩ := bind_of h
              refine W_cutK (Q' := (exQ .normal (wide_Run_s16 a1 a2 i159)) v186) ?_ ?_
              · replace h := h187
                refine W_block (id := 3) (by kernel_rfl) ?_
                refine W_seq (by kernel_rfl) ?_
                refine W_run 4 [(1, .val (.dat (.pair tI (.pair (.arr 5 tI) (.arr 5 tI))) v162)), (5, .typed)] [2, 6, 10, 12, 59, 60, 61] [6, 10, 12] (fr' := [(2, aD (.slice .bool) a2), (6, .one (.ptr 6 0)), (10, .one (.ptr 10 0)), (12, .one (.ptr 12 0)), (59, aD (.slice (.pair tI (.pair (.arr 5 tI) (.arr 5 tI)))) a1), (60, aI (List.length a1 : Int)), (61, aI i159)]) (L' := [(6, .one (.arr 5 tI) [(0 : Int), (0 : Int), (0 : Int), (0 : Int), (0 : Int)]), (10, .one (.arr 5 tI) x160), (12, .one (.pair tI (.pair (.arr 5 tI) (.arr 5 tI))) v162)]) (obs := [Idx a1 i159 v162, True]) (by kernel_rfl) (by kernel_rfl) (by kernel_rfl) (allP2 (Idx.of h163) (allP1 trivial)) ?_
                refine seqQ_norm ?_
                refine W_seq (by kernel_rfl) ?_
                obtain ⟨v179, h180, h⟩ := bind_of h
                refine W_run 5 [(7, .val (.dat .bool v179))] [2, 6, 10, 12, 59, 60, 61, 69] [6, 10, 12] (fr' := [(2, aD (.slice .bool) a2), (6, .one (.ptr 6 0)), (10, .one (.ptr 10 0)), (12, .one (.ptr 12 0)), (59, aD (.slice (.pair tI (.pair (.arr 5 tI) (.arr 5 tI)))) a1), (60, aI (List.length a1 : Int)), (61, aI i159), (69, aB v179)]) (L' := [(6, .one (.arr 5 tI) [(0 : Int), (0 : Int), (0 : Int), (0 : Int), (0 : Int)]), (10, .one (.arr 5 tI) x160), (12, .one (.pair tI (.pair (.arr 5 tI) (.arr 5 tI))) v162)]) (obs := [Idx a2 v162.1 v179]) (by kernel_rfl) (by kernel_rfl) (by kernel_rfl) (allP1 (Idx.of h180)) ?_
                refine seqQ_norm ?_
                refine W_cond (o := .tmp 69) (b := v179) (by kernel_rfl) (by kernel_rfl) (fun h181 => ?_) (fun h181 => ?_)
                · replace h := ofT h181 h
                  refine W_region (by kernel_rfl) ?_
                  refine WO_run (j := 3) (k := 3) (orcs := []) (kF := [2, 6, 10, 59, 60, 61, 70, 72]) (kL := [6, 10, 12]) (fr' := [(2, aD (.slice .bool) a2), (6, .one (.ptr 6 0)), (10, .one (.ptr 10 0)), (59, aD (.slice (.pair tI (.pair (.arr 5 tI) (.arr 5 tI)))) a1), (60, aI (List.length a1 : Int)), (61, aI i159), (70, aD (.arr 5 tI) x160), (72, aD (.arr 5 tI) v162.2.2)]) (L' := [(6, .one (.arr 5 tI) [(0 : Int), (0 : Int), (0 : Int), (0 : Int), (0 : Int)]), (10, .one (.arr 5 tI) x160), (12, .one (.pair tI (.pair (.arr 5 tI) (.arr 5 tI))) v162)]) (obs := []) rfl (by kernel_rfl) allP0 ?_
                  obtain ⟨r182, h183, h⟩ := bind_of h
                  refine WO_call0 (us := [none, none]) (d := 73) (p := True) (j := 4) rfl ⟨by kernel_rfl, by kernel_rfl, by kernel_rfl⟩ trivial (wide_then_ok h183) (by kernel_rfl) ?_
                  refine WO_run (j := 5) (k := 1) (orcs := []) (kF := [2, 6, 10, 59, 60, 61]) (kL := [6, 10, 12]) (fr' := [(2, aD (.slice .bool) a2), (6, .one (.ptr 6 0)), (10, .one (.ptr 10 0)), (59, aD (.slice (.pair tI (.pair (.arr 5 tI) (.arr 5 tI)))) a1), (60, aI (List.length a1 : Int)), (61, aI i159)]) (L' := [(6, .one (.arr 5 tI) [(0 : Int), (0 : Int), (0 : Int), (0 : Int), (0 : Int)]), (10, .one (.arr 5 tI) r182), (12, .one (.pair tI (.pair (.arr 5 tI) (.arr 5 tI))) v162)]) (obs := [True]) rfl (by kernel_rfl) (allP1 trivial) ?_
                  obtain rfl := Option.some.inj h
                  refine WO_fin [2, 6, 10, 59, 60, 61] [6, 10] (fr' := [(2, aD (.slice .bool) a2), (6, .one (.ptr 6 0)), (10, .one (.ptr 10 0)), (59, aD (.slice (.pair tI (.pair (.arr 5 tI) (.arr 5 tI)))) a1), (60, aI (List.length a1 : Int)), (61, aI i159)]) (L' := [(6, .one (.arr 5 tI) [(0 : Int), (0 : Int), (0 : Int), (0 : Int), (0 : Int)]), (10, .one (.arr 5 tI) r182)]) (by kernel_rfl) (by kernel_rfl) ?_
                  refine blockQ_norm ?_
                  exact exQ_mk (by kernel_rfl) (by kernel_rfl)
                · replace h := ofF h181 h
                  refine W_region (by kernel_rfl) ?_
                  refine WO_run (j := 3) (k := 3) (orcs := []) (kF := [2, 6, 10, 59, 60, 61, 74, 76]) (kL := [6, 10, 12]) (fr' := [(2, aD (.slice .bool) a2), (6, .one (.ptr 6 0)), (10, .one (.ptr 10 0)), (59, aD (.slice (.pair tI (.pair (.arr 5 tI) (.arr 5 tI)))) a1), (60, aI (List.length a1 : Int)), (61, aI i159), (74, aD (.arr 5 tI) x160), (76, aD (.arr 5 tI) v162.2.1)]) (L' := [(6, .one (.arr 5 tI) [(0 : Int), (0 : Int), (0 : Int), (0 : Int), (0 : Int)]), (10, .one (.arr 5 tI) x160), (12, .one (.pair tI (.pair (.arr 5 tI) (.arr 5 tI))) v162)]) (obs := []) rfl (by kernel_rfl) allP0 ?_
                  obtain ⟨r184, h185, h⟩ := bind_of h
                  refine WO_call0 (us := [none, none]) (d := 77) (p := True) (j := 4) rfl ⟨by kernel_rfl, by kernel_rfl, by kernel_rfl⟩ trivial (wide_then_ok h185) (by kernel_rfl) ?_
                  refine WO_run (j := 5) (k := 1) (orcs := []) (kF := [2, 6, 10, 59, 60, 61]) (kL := [6, 10, 12]) (fr' := [(2, aD (.slice .bool) a2), (6, .one (.ptr 6 0)), (10, .one (.ptr 10 0)), (59, aD (.slice (.pair tI (.pair (.arr 5 tI) (.arr 5 tI)))) a1), (60, aI (List.length a1 : Int)), (61, aI i159)]) (L' := [(6, .one (.arr 5 tI) [(0 : Int), (0 : Int), (0 : Int), (0 : Int), (0 : Int)]), (10, .one (.arr 5 tI) r184), (12, .one (.pair tI (.pair (.arr 5 tI) (.arr 5 tI))) v162)]) (obs := [True]) rfl (by kernel_rfl) (allP1 trivial) ?_
                  obtain rfl := Option.some.inj h
                  refine WO_fin [2, 6, 10, 59, 60, 61] [6, 10] (fr' := [(2, aD (.slice .bool) a2), (6, .one (.ptr 6 0)), (10, .one (.ptr 10 0)), (59, aD (.slice (.pair tI (.pair (.arr 5 tI) (.arr 5 tI)))) a1), (60, aI (List.length a1 : Int)), (61, aI i159)]) (L' := [(6, .one (.arr 5 tI) [(0 : Int), (0 : Int), (0 : Int), (0 : Int), (0 : Int)]), (10, .one (.arr 5 tI) r184)]) (by kernel_rfl) (by kernel_rfl) ?_
                  refine blockQ_norm ?_
                  exact exQ_mk (by kernel_rfl) (by kernel_rfl)
              · intro e fr L hJ
                obtain ⟨rfl, rfl, rfl⟩ := hJ
                refine LT_keep [2, 6, 10, 59, 60, 61] [6, 10] (fr' := [(2, aD (.slice .bool) a2), (6, .one (.ptr 6 0)), (10, .one (.ptr 10 0)), (59, aD (.slice (.pair tI (.pair (.arr 5 tI) (.arr 5 tI)))) a1), (60, aI (List.length a1 : Int)), (61, aI i159)]) (L' := [(6, .one (.arr 5 tI) [(0 : Int), (0 : Int), (0 : Int), (0 : Int), (0 : Int)]), (10, .one (.arr 5 tI) v186)]) (by kernel_rfl) ?_
                refine seqQ_norm ?_
                obtain rfl := Option.some.inj h
                refine W_run 2 [] [2, 6, 10, 59, 60, 61] [6, 10] (fr' := [(2, aD (.slice .bool) a2), (6, .one (.ptr 6 0)), (10, .one (.ptr 10 0)), (59, aD (.slice (.pair tI (.pair (.arr 5 tI) (.arr 5 tI)))) a1), (60, aI (List.length a1 : Int)), (61, aI (w64 (i159 + (1 : Int))))]) (L' := [(6, .one (.arr 5 tI) [(0 : Int), (0 : Int), (0 : Int), (0 : Int), (0 : Int)]), (10, .one (.arr 5 tI) v186)]) (obs := []) (by kernel_rfl) (by kernel_rfl) (by kernel_rfl) allP0 ?_
                exact round_next' (by kernel_rfl) (by kernel_rfl)
            · obtain rfl := stepL_false h164 h
              refine W_exit (id := 2) [6, 10] [6, 10] (fr' := [(6, .one (.ptr 6 0)), (10, .one (.ptr 10 0))]) (L' := [(6, .one (.arr 5 tI) [(0 : Int), (0 : Int), (0 : Int), (0 : Int), (0 : Int)]), (10, .one (.arr 5 tI) x160)]) (by kernel_rfl) (by kernel_rfl) ?_
              refine seqQ_exit ?_
              refine round_exit ?_
              exact exQ_mk (by kernel_rfl) (by kernel_rfl)
          · intro e fr L hJ
            obtain ⟨rfl, rfl, rfl⟩ := hJ
            refine LT_keep [6, 10] [6, 10] (fr' := [(6, .one (.ptr 6 0)), (10, .one (.ptr 10 0))]) (L' := [(6, .one (.arr 5 tI) [(0 : Int), (0 : Int), (0 : Int), (0 : Int), (0 : Int)]), (10, .one (.arr 5 tI) v189)]) (by kernel_rfl) ?_
            refine blockQ_hit ?_
            refine seqQ_norm ?_
            refine W_seq (by kernel_rfl) ?_
            refine W_run 3 [] [6, 7] [6] (fr' := [(6, .one (.ptr 6 0)), (7, aI (0 : Int))]) (L' := [(6, .one (.arr 5 tI) v189)]) (obs := [True]) (by kernel_rfl) (by kernel_rfl) (by kernel_rfl) (allP1 trivial) ?_
            refine seqQ_norm ?_
            obtain rfl := Option.some.inj h
            refine W_ret [6, 7] [6] (fr' := [(6, .one (.ptr 6 0)), (7, aI (0 : Int))]) (L' := [(6, .one (.arr 5 tI) v189)]) (by kernel_rfl) (by kernel_rfl) ?_
            exact retQ_mk (by kernel_rfl) (by kernel_rfl) (by kernel_rfl)

def ref_Within (a0 : Int) (a1 : Int) (a2 : Int) : Option Bool :=
some ((decide (a0 ≤ a1)) && (decide (a1 ≤ a2)))
theorem ref_Within_ok {a0 : Int} {a1 : Int} {a2 : Int} {r : Bool} (h : ref_Within a0 a1 a2 = some r) : FnC Try.prog 10 [aI a0, aI a1, aI a2] [] (aB r) [] := by
  refine fnC_of_W (B := bodyOf Try.f10) (n := 15) Try.func10 (by kernel_rfl) (by kernel_rfl) (by kernel_rfl) (by kernel_rfl) (by kernel_rfl) ?_
  intro K
  refine W_seq (by kernel_rfl) ?_
  refine W_run 1 [] [0, 1, 2] [] (fr' := [(0, aI a0), (1, aI a1), (2, aI a2)]) (L' := []) (obs := []) (by kernel_rfl) (by kernel_rfl) (by kernel_rfl) allP0 ?_
  refine seqQ_norm ?_
  refine W_seq (by kernel_rfl) ?_
  refine W_run 9 [] [6] [] (fr' := [(6, aB ((decide (a0 ≤ a1)) && (decide (a1 ≤ a2))))]) (L' := []) (obs := []) (by kernel_rfl) (by kernel_rfl) (by kernel_rfl) allP0 ?_
  refine seqQ_norm ?_
  obtain rfl := Option.some.inj h
  refine W_ret [6] [] (fr' := [(6, aB ((decide (a0 ≤ a1)) && (decide (a1 ≤ a2))))]) (L' := []) (by kernel_rfl) (by kernel_rfl) ?_
  exact retQ_mk (by kernel_rfl) (by kernel_rfl) (by kernel_rfl)

def ref_Inside_b1 (a0 : Int) (i11 : Int) (v14 : Int) (x12 : Unit) : Option (Flow Unit (Esc Bool Unit)) :=
bif (decide (v14 < (0 : Int))) || (decide (v14 ≥ a0)) then
(some (.done (.ret false)))
else
(some (.next ()))
@[reducible] def ref_Inside_s2 (a0 : Int) (a1 : (List Int)) (v : Int × Unit) : Fr × LL := ([(0, aI a0), (7, aD (.slice tI) a1), (8, aI (List.length a1 : Int)), (9, aI v.1)], [])
@[reducible] def ref_Inside_s3 (v : Bool) : Fr × LL := ([(4, aB v)], [])
@[reducible] def ref_Inside_s4 (v : Unit) : Fr × LL := ([], [])
def ref_Inside (a0 : Int) (a1 : (List Int)) : Option Bool :=
(forL (ref_Inside_b1 a0) (fun x12 => (.brk ())) a1 0 ()).bind fun v19 =>
match v19 with
| .ret v24 =>
(some v24)
| .brk v25 =>
(some true)
theorem ref_Inside_ok {a0 : Int} {a1 : (List Int)} {r : Bool} (h : ref_Inside a0 a1 = some r) : FnC Try.prog 28 [aI a0, aD (.slice tI) a1] [] (aB r) [] := by
  refine fnC_of_W (B := bodyOf Try.f28) (n := 21) Try.func28 (by kernel_rfl) (by kernel_rfl) (by kernel_rfl) (by kernel_rfl) (by kernel_rfl) ?_
  intro K
  refine W_seq (by kernel_rfl) ?_
  refine W_run 1 [] [0, 1] [] (fr' := [(0, aI a0), (1, aD (.slice tI) a1)]) (L' := []) (obs := []) (by kernel_rfl) (by kernel_rfl) (by kernel_rfl) allP0 ?_
  refine seqQ_norm ?_
  refine W_seq (by kernel_rfl) ?_
  refine W_seq (by kernel_rfl) ?_
  refine W_run 3 [] [0, 7, 8, 9] [] (fr' := [(0, aI a0), (7, aD (.slice tI) a1), (8, aI (List.length a1 : Int)), (9, aI (0 : Int))]) (L' := []) (obs := []) (by kernel_rfl) (by kernel_rfl) (by kernel_rfl) allP0 ?_
  refine seqQ_norm ?_
  refine W_block (id := 0) (by kernel_rfl) ?_
  obtain ⟨v19, h20, h⟩ := bind_of h
  refine W_len (t := 7) (u := tI) (xs := a1) (by kernel_rfl) (fun h23 => ?_)
  obtain ⟨h21, h22⟩ := forL_iter h23 h20
  refine W_weaken [0, 7, 8, 9] [] (fr' := ((ref_Inside_s2 a0 a1) ((0 : Int), ())).1) (L' := ((ref_Inside_s2 a0 a1) ((0 : Int), ())).2) (by kernel_rfl) ?_
  refine W_cutK (W_loop (S := (ref_Inside_s2 a0 a1)) (J := (escQ (exQ .ret ref_Inside_s3) (exQ (.exit 0) ref_Inside_s4))) (by kernel_rfl) ?_ h21 _ v19 h22) ?_
  · rintro ⟨i11, x12⟩ s h
    refine W_seq (by kernel_rfl) ?_
    refine W_run 1 [] [0, 7, 8, 9, 10] [] (fr' := [(0, aI a0), (7, aD (.slice tI) a1), (8, aI (List.length a1 : Int)), (9, aI i11), (10, aB (decide (i11 < (List.length a1 : Int))))]) (L' := []) (obs := []) (by kernel_rfl) (by kernel_rfl) (by kernel_rfl) allP0 ?_
    refine seqQ_norm ?_
    refine W_seq (by kernel_rfl) ?_
    refine W_cond (o := .tmp 10) (b := decide (i11 < (List.length a1 : Int))) (by kernel_rfl) (by kernel_rfl) (fun h16 => ?_) (fun h16 => ?_)
    · replace h := stepL_true h16 h
      obtain ⟨v14, _, h15, h, rfl⟩ := h
      refine W_skip [0, 7, 8, 9] [] (fr' := [(0, aI a0), (7, aD (.slice tI) a1), (8, aI (List.length a1 : Int)), (9, aI i11)]) (L' := []) (by kernel_rfl) (by kernel_rfl) ?_
      refine seqQ_norm ?_
      refine W_seq (by kernel_rfl) ?_
      refine W_block (id := 1) (by kernel_rfl) ?_
      refine W_seq (by kernel_rfl) ?_
      refine W_run 3 [(1, .val (.dat tI v14))] [0, 6, 7, 8, 9] [] (fr' := [(0, aI a0), (6, aI v14), (7, aD (.slice tI) a1), (8, aI (List.length a1 : Int)), (9, aI i11)]) (L' := []) (obs := [Idx a1 i11 v14]) (by kernel_rfl) (by kernel_rfl) (by kernel_rfl) (allP1 (Idx.of h15)) ?_
      refine seqQ_norm ?_
      refine W_seq (by kernel_rfl) ?_
      refine W_run 7 [] [0, 7, 8, 9, 19] [] (fr' := [(0, aI a0), (7, aD (.slice tI) a1), (8, aI (List.length a1 : Int)), (9, aI i11), (19, aB ((decide (v14 < (0 : Int))) || (decide (v14 ≥ a0))))]) (L' := []) (obs := []) (by kernel_rfl) (by kernel_rfl) (by kernel_rfl) allP0 ?_
      refine seqQ_norm ?_
      refine W_cond (o := .tmp 19) (b := (decide (v14 < (0 : Int))) || (decide (v14 ≥ a0))) (by kernel_rfl) (by kernel_rfl) (fun h17 => ?_) (fun h17 => ?_)
      · replace h := ofT h17 h
        refine W_seq (by kernel_rfl) ?_
        refine W_run 1 [] [4] [] (fr' := [(4, aB false)]) (L' := []) (obs := []) (by kernel_rfl) (by kernel_rfl) (by kernel_rfl) allP0 ?_
        refine seqQ_norm ?_
        obtain rfl := Option.some.inj h
        refine W_ret [4] [] (fr' := [(4, aB false)]) (L' := []) (by kernel_rfl) (by kernel_rfl) ?_
        refine blockQ_ret ?_
        refine seqQ_ret ?_
        refine round_ret ?_
        refine escQ_ret ?_
        exact exQ_mk (by kernel_rfl) (by kernel_rfl)
      · replace h := ofF h17 h
        refine W_skip [0, 7, 8, 9] [] (fr' := [(0, aI a0), (7, aD (.slice tI) a1), (8, aI (List.length a1 : Int)), (9, aI i11)]) (L' := []) (by kernel_rfl) (by kernel_rfl) ?_
        refine blockQ_norm ?_
        refine seqQ_norm ?_
        obtain rfl := Option.some.inj h
        refine W_run 2 [] [0, 7, 8, 9] [] (fr' := [(0, aI a0), (7, aD (.slice tI) a1), (8, aI (List.length a1 : Int)), (9, aI (w64 (i11 + (1 : Int))))]) (L' := []) (obs := []) (by kernel_rfl) (by kernel_rfl) (by kernel_rfl) allP0 ?_
        exact round_next' (by kernel_rfl) (by kernel_rfl)
    · obtain rfl := stepL_false h16 h
      refine W_exit (id := 0) [] [] (fr' := []) (L' := []) (by kernel_rfl) (by kernel_rfl) ?_
      refine seqQ_exit ?_
      refine round_exit ?_
      refine escQ_brk ?_
      exact exQ_mk (by kernel_rfl) (by kernel_rfl)
  · intro e fr L hJ
    rcases v19 with v24 | v25
    · obtain ⟨rfl, rfl, rfl⟩ := hJ
      obtain rfl := Option.some.inj h
      refine LT_keep [4] [] (fr' := [(4, aB v24)]) (L' := []) (by kernel_rfl) ?_
      refine blockQ_ret ?_
      refine seqQ_ret ?_
      exact retQ_mk (by kernel_rfl) (by kernel_rfl) (by kernel_rfl)
    · obtain ⟨rfl, rfl, rfl⟩ := hJ
      refine LT_keep [] [] (fr' := []) (L' := []) (by kernel_rfl) ?_
      refine blockQ_hit ?_
      refine seqQ_norm ?_
      refine W_seq (by kernel_rfl) ?_
      refine W_run 1 [] [4] [] (fr' := [(4, aB true)]) (L' := []) (obs := []) (by kernel_rfl) (by kernel_rfl) (by kernel_rfl) allP0 ?_
      refine seqQ_norm ?_
      obtain rfl := Option.some.inj h
      refine W_ret [4] [] (fr' := [(4, aB true)]) (L' := []) (by kernel_rfl) (by kernel_rfl) ?_
      exact retQ_mk (by kernel_rfl) (by kernel_rfl) (by kernel_rfl)

@[reducible] def ref_Change_s15 (a0 : (List Int)) (i111 : Int) (i144 : Int) (v : Int) : Fr × LL := ([(1, .one (.ptr 1 0)), (3, aI i111), (4, aI v), (5, aI i144)], [(1, .one (.arr 5 tI) a0)])
def ref_Change_b16 (a0 : (List Int)) (i111 : Int) (i144 : Int) (x145 : Int) : Option (Flow Int Int) :=
((ck (0 ≤ i144 ∧ i144 < 5)).bind fun _ =>
(idx a0 i144).bind fun v157 =>
bif v157 == i111 then
(some (w64 (x145 + (1 : Int))))
else
(some x145)).bind fun v160 =>
some (.next v160)
@[reducible] def ref_Change_s17 (a0 : (List Int)) (i111 : Int) (v : Int × Int) : Fr × LL := ([(1, .one (.ptr 1 0)), (3, aI i111), (4, aI v.2), (5, aI v.1)], [(1, .one (.arr 5 tI) a0)])
@[reducible] def ref_Change_s18 (a0 : (List Int)) (i111 : Int) (v : Int) : Fr × LL := ([(1, .one (.ptr 1 0)), (3, aI i111), (4, aI v)], [(1, .one (.arr 5 tI) a0)])
def ref_Change_b19 (a0 : (List Int)) (i111 : Int) (x112 : Unit) : Option (Flow Unit (Esc Bool Unit)) :=
(forI (0 : Int) (5 : Int) (ref_Change_b16 a0 i111) (fun x145 => x145) (0 : Int)).bind fun v163 =>
bif v163 != (1 : Int) then
(some (.done (.ret false)))
else
(some (.next ()))
@[reducible] def ref_Change_s20 (a0 : (List Int)) (v : Int × Unit) : Fr × LL := ([(1, .one (.ptr 1 0)), (3, aI v.1)], [(1, .one (.arr 5 tI) a0)])
@[reducible] def ref_Change_s21 (v : Bool) : Fr × LL := ([(2, aB v)], [])
@[reducible] def ref_Change_s22 (v : Unit) : Fr × LL := ([], [])
def ref_Change (a0 : (List Int)) : Option Bool :=
(forI (0 : Int) (5 : Int) (ref_Change_b19 a0) (fun x112 => (.brk ())) ()).bind fun v169 =>
match v169 with
| .ret v173 =>
(some v173)
| .brk v174 =>
(some true)
theorem ref_Change_ok {a0 : (List Int)} {r : Bool} (h : ref_Change a0 = some r) : FnC Try.prog 36 [aD (.arr 5 tI) a0] [] (aB r) [] := by
  refine fnC_of_W (B := bodyOf Try.f36) (n := 23) Try.func36 (by kernel_rfl) (by kernel_rfl) (by kernel_rfl) (by kernel_rfl) (by kernel_rfl) ?_
  intro K
  refine W_seq (by kernel_rfl) ?_
  refine W_run 2 [] [1] [1] (fr' := [(1, .one (.ptr 1 0))]) (L' := [(1, .one (.arr 5 tI) a0)]) (obs := []) (by kernel_rfl) (by kernel_rfl) (by kernel_rfl) allP0 ?_
  refine seqQ_norm ?_
  refine W_seq (by kernel_rfl) ?_
  refine W_seq (by kernel_rfl) ?_
  refine W_run 1 [] [1, 3] [1] (fr' := [(1, .one (.ptr 1 0)), (3, aI (0 : Int))]) (L' := [(1, .one (.arr 5 tI) a0)]) (obs := []) (by kernel_rfl) (by kernel_rfl) (by kernel_rfl) allP0 ?_
  refine seqQ_norm ?_
  refine W_block (id := 0) (by kernel_rfl) ?_
  obtain ⟨v169, h170, h⟩ := bind_of h
  obtain ⟨h171, h172⟩ := forI_iter h170
  refine W_weaken [1, 3] [1] (fr' := ((ref_Change_s20 a0) ((0 : Int), ())).1) (L' := ((ref_Change_s20 a0) ((0 : Int), ())).2) (by kernel_rfl) ?_
  refine W_cutK (W_loop (S := (ref_Change_s20 a0)) (J := (escQ (exQ .ret ref_Change_s21) (exQ (.exit 0) ref_Change_s22))) (by kernel_rfl) ?_ h171 _ v169 h172) ?_
  · rintro ⟨i111, x112⟩ s h
    refine W_seq (by kernel_rfl) ?_
    refine W_seq (by kernel_rfl) ?_
    refine W_run 2 [] [1, 3, 7] [1] (fr' := [(1, .one (.ptr 1 0)), (3, aI i111), (7, aB (decide (i111 < (5 : Int))))]) (L' := [(1, .one (.arr 5 tI) a0)]) (obs := []) (by kernel_rfl) (by kernel_rfl) (by kernel_rfl) allP0 ?_
    refine seqQ_norm ?_
    refine W_cond (o := .tmp 7) (b := decide (i111 < (5 : Int))) (by kernel_rfl) (by kernel_rfl) (fun h114 => ?_) (fun h114 => ?_)
    · replace h := stepI_true h114 h
      obtain ⟨_, h, rfl⟩ := h
      refine W_skip [1, 3] [1] (fr' := [(1, .one (.ptr 1 0)), (3, aI i111)]) (L' := [(1, .one (.arr 5 tI) a0)]) (by kernel_rfl) (by kernel_rfl) ?_
      refine seqQ_norm ?_
      refine W_seq (by kernel_rfl) ?_
      refine W_block (id := 1) (by kernel_rfl) ?_
      refine W_seq (by kernel_rfl) ?_
      refine W_run 1 [] [1, 3, 4] [1] (fr' := [(1, .one (.ptr 1 0)), (3, aI i111), (4, aI (0 : Int))]) (L' := [(1, .one (.arr 5 tI) a0)]) (obs := []) (by kernel_rfl) (by kernel_rfl) (by kernel_rfl) allP0 ?_
      refine seqQ_norm ?_
      refine W_seq (by kernel_rfl) ?_
      refine W_seq (by kernel_rfl) ?_
      refine W_run 1 [] [1, 3, 4, 5] [1] (fr' := [(1, .one (.ptr 1 0)), (3, aI i111), (4, aI (0 : Int)), (5, aI (0 : Int))]) (L' := [(1, .one (.arr 5 tI) a0)]) (obs := []) (by kernel_rfl) (by kernel_rfl) (by kernel_rfl) allP0 ?_
      refine seqQ_norm ?_
      refine W_block (id := 2) (by kernel_rfl) ?_
      obtain ⟨v163, h164, h⟩ := bind_of h
      obtain ⟨h165, h166⟩ := forI_iter h164
      refine W_weaken [1, 3, 4, 5] [1] (fr' := ((ref_Change_s17 a0 i111) ((0 : Int), (0 : Int))).1) (L' := ((ref_Change_s17 a0 i111) ((0 : Int), (0 : Int))).2) (by kernel_rfl) ?_
      refine W_cutK (W_loop (S := (ref_Change_s17 a0 i111)) (J := (exQ (.exit 2) (ref_Change_s18 a0 i111))) (by kernel_rfl) ?_ h165 _ v163 h166) ?_
      · rintro ⟨i144, x145⟩ s h
        refine W_seq (by kernel_rfl) ?_
        refine W_seq (by kernel_rfl) ?_
        refine W_run 2 [] [1, 3, 4, 5, 11] [1] (fr' := [(1, .one (.ptr 1 0)), (3, aI i111), (4, aI x145), (5, aI i144), (11, aB (decide (i144 < (5 : Int))))]) (L' := [(1, .one (.arr 5 tI) a0)]) (obs := []) (by kernel_rfl) (by kernel_rfl) (by kernel_rfl) allP0 ?_
        refine seqQ_norm ?_
        refine W_cond (o := .tmp 11) (b := decide (i144 < (5 : Int))) (by kernel_rfl) (by kernel_rfl) (fun h147 => ?_) (fun h147 => ?_)
        · replace h := stepI_true h147 h
          obtain ⟨_, h, rfl⟩ := h
          refine W_skip [1, 3, 4, 5] [1] (fr' := [(1, .one (.ptr 1 0)), (3, aI i111), (4, aI x145), (5, aI i144)]) (L' := [(1, .one (.arr 5 tI) a0)]) (by kernel_rfl) (by kernel_rfl) ?_
          refine seqQ_norm ?_
          refine W_seq (by kernel_rfl) ?_
          obtain ⟨v160, h161, h⟩ := bind_of h
          refine W_cutK (Q' := (exQ .normal (ref_Change_s15 a0 i111 i144)) v160) ?_ ?_
          · replace h := h161
            refine W_block (id := 3) (by kernel_rfl) ?_
            refine W_seq (by kernel_rfl) ?_
            obtain ⟨_, h156, h⟩ := bind_of h
            replace h156 := ck_some h156
            obtain ⟨v157, h158, h⟩ := bind_of h
            refine W_run 5 [(5, .val (.dat tI v157))] [1, 3, 4, 5, 18] [1] (fr' := [(1, .one (.ptr 1 0)), (3, aI i111), (4, aI x145), (5, aI i144), (18, aB (v157 == i111))]) (L' := [(1, .one (.arr 5 tI) a0)]) (obs := [InR i144 5, Idx a0 i144 v157]) (by kernel_rfl) (by kernel_rfl) (by kernel_rfl) (allP2 h156 (allP1 (Idx.of h158))) ?_
            refine seqQ_norm ?_
            refine W_cond (o := .tmp 18) (b := v157 == i111) (by kernel_rfl) (by kernel_rfl) (fun h159 => ?_) (fun h159 => ?_)
            · replace h := ofT h159 h
              obtain rfl := Option.some.inj h
              refine W_run 3 [] [1, 3, 4, 5] [1] (fr' := [(1, .one (.ptr 1 0)), (3, aI i111), (4, aI (w64 (x145 + (1 : Int)))), (5, aI i144)]) (L' := [(1, .one (.arr 5 tI) a0)]) (obs := []) (by kernel_rfl) (by kernel_rfl) (by kernel_rfl) allP0 ?_
              refine blockQ_norm ?_
              exact exQ_mk (by kernel_rfl) (by kernel_rfl)
            · replace h := ofF h159 h
              obtain rfl := Option.some.inj h
              refine W_skip [1, 3, 4, 5] [1] (fr' := [(1, .one (.ptr 1 0)), (3, aI i111), (4, aI x145), (5, aI i144)]) (L' := [(1, .one (.arr 5 tI) a0)]) (by kernel_rfl) (by kernel_rfl) ?_
              refine blockQ_norm ?_
              exact exQ_mk (by kernel_rfl) (by kernel_rfl)
          · intro e fr L hJ
            obtain ⟨rfl, rfl, rfl⟩ := hJ
            refine LT_keep [1, 3, 4, 5] [1] (fr' := [(1, .one (.ptr 1 0)), (3, aI i111), (4, aI v160), (5, aI i144)]) (L' := [(1, .one (.arr 5 tI) a0)]) (by kernel_rfl) ?_
            refine seqQ_norm ?_
            obtain rfl := Option.some.inj h
            refine W_run 3 [] [1, 3, 4, 5] [1] (fr' := [(1, .one (.ptr 1 0)), (3, aI i111), (4, aI v160), (5, aI (w64 (i144 + (1 : Int))))]) (L' := [(1, .one (.arr 5 tI) a0)]) (obs := []) (by kernel_rfl) (by kernel_rfl) (by kernel_rfl) allP0 ?_
            exact round_next' (by kernel_rfl) (by kernel_rfl)
        · obtain rfl := stepI_false h147 h
          refine W_exit (id := 2) [1, 3, 4] [1] (fr' := [(1, .one (.ptr 1 0)), (3, aI i111), (4, aI x145)]) (L' := [(1, .one (.arr 5 tI) a0)]) (by kernel_rfl) (by kernel_rfl) ?_
          refine seqQ_exit ?_
          refine round_exit ?_
          exact exQ_mk (by kernel_rfl) (by kernel_rfl)
      · intro e fr L hJ
        obtain ⟨rfl, rfl, rfl⟩ := hJ
        refine LT_keep [1, 3, 4] [1] (fr' := [(1, .one (.ptr 1 0)), (3, aI i111), (4, aI v163)]) (L' := [(1, .one (.arr 5 tI) a0)]) (by kernel_rfl) ?_
        refine blockQ_hit ?_
        refine seqQ_norm ?_
        refine W_seq (by kernel_rfl) ?_
        refine W_run 2 [] [1, 3, 22] [1] (fr' := [(1, .one (.ptr 1 0)), (3, aI i111), (22, aB (v163 != (1 : Int)))]) (L' := [(1, .one (.arr 5 tI) a0)]) (obs := []) (by kernel_rfl) (by kernel_rfl) (by kernel_rfl) allP0 ?_
        refine seqQ_norm ?_
        refine W_cond (o := .tmp 22) (b := v163 != (1 : Int)) (by kernel_rfl) (by kernel_rfl) (fun h167 => ?_) (fun h167 => ?_)
        · replace h := ofT h167 h
          refine W_seq (by kernel_rfl) ?_
          refine W_run 1 [] [2] [] (fr' := [(2, aB false)]) (L' := []) (obs := []) (by kernel_rfl) (by kernel_rfl) (by kernel_rfl) allP0 ?_
          refine seqQ_norm ?_
          obtain rfl := Option.some.inj h
          refine W_ret [2] [] (fr' := [(2, aB false)]) (L' := []) (by kernel_rfl) (by kernel_rfl) ?_
          refine blockQ_ret ?_
          refine seqQ_ret ?_
          refine round_ret ?_
          refine escQ_ret ?_
          exact exQ_mk (by kernel_rfl) (by kernel_rfl)
        · replace h := ofF h167 h
          refine W_skip [1, 3] [1] (fr' := [(1, .one (.ptr 1 0)), (3, aI i111)]) (L' := [(1, .one (.arr 5 tI) a0)]) (by kernel_rfl) (by kernel_rfl) ?_
          refine blockQ_norm ?_
          refine seqQ_norm ?_
          obtain rfl := Option.some.inj h
          refine W_run 3 [] [1, 3] [1] (fr' := [(1, .one (.ptr 1 0)), (3, aI (w64 (i111 + (1 : Int))))]) (L' := [(1, .one (.arr 5 tI) a0)]) (obs := []) (by kernel_rfl) (by kernel_rfl) (by kernel_rfl) allP0 ?_
          exact round_next' (by kernel_rfl) (by kernel_rfl)
    · obtain rfl := stepI_false h114 h
      refine W_exit (id := 0) [] [] (fr' := []) (L' := []) (by kernel_rfl) (by kernel_rfl) ?_
      refine seqQ_exit ?_
      refine round_exit ?_
      refine escQ_brk ?_
      exact exQ_mk (by kernel_rfl) (by kernel_rfl)
  · intro e fr L hJ
    rcases v169 with v173 | v174
    · obtain ⟨rfl, rfl, rfl⟩ := hJ
      obtain rfl := Option.some.inj h
      refine LT_keep [2] [] (fr' := [(2, aB v173)]) (L' := []) (by kernel_rfl) ?_
      refine blockQ_ret ?_
      refine seqQ_ret ?_
      exact retQ_mk (by kernel_rfl) (by kernel_rfl) (by kernel_rfl)
    · obtain ⟨rfl, rfl, rfl⟩ := hJ
      refine LT_keep [] [] (fr' := []) (L' := []) (by kernel_rfl) ?_
      refine blockQ_hit ?_
      refine seqQ_norm ?_
      refine W_seq (by kernel_rfl) ?_
      refine W_run 1 [] [2] [] (fr' := [(2, aB true)]) (L' := []) (obs := []) (by kernel_rfl) (by kernel_rfl) (by kernel_rfl) allP0 ?_
      refine seqQ_norm ?_
      obtain rfl := Option.some.inj h
      refine W_ret [2] [] (fr' := [(2, aB true)]) (L' := []) (by kernel_rfl) (by kernel_rfl) ?_
      exact retQ_mk (by kernel_rfl) (by kernel_rfl) (by kernel_rfl)

@[reducible] def ref_WideCheck_s3 (a0 : Int) (a1 : (List (Int × ((List Int) × (List Int))))) (i56 : Int) (v : Bool) : Fr × LL := ([(0, aI a0), (15, aD (.slice (.pair tI (.pair (.arr 5 tI) (.arr 5 tI)))) a1), (16, aI (List.length a1 : Int)), (17, aI i56), (36, aB v)], [])
def ref_WideCheck_b4 (a0 : Int) (i56 : Int) (v59 : (Int × ((List Int) × (List Int)))) (x57 : Unit) : Option (Flow Unit (Esc Int Unit)) :=
(ref_Inside a0 [v59.1]).bind fun r62 =>
bif !r62 then
(some (.done (.ret (4 : Int))))
else
(((ref_Change v59.2.1).bind fun r75 =>
bif !r75 then
(some true)
else
((ref_Change v59.2.2).bind fun r78 =>
some (!r78))).bind fun v80 =>
bif v80 then
(some (.done (.ret (3 : Int))))
else
(some (.next ())))
@[reducible] def ref_WideCheck_s5 (a0 : Int) (a1 : (List (Int × ((List Int) × (List Int))))) (v : Int × Unit) : Fr × LL := ([(0, aI a0), (15, aD (.slice (.pair tI (.pair (.arr 5 tI) (.arr 5 tI)))) a1), (16, aI (List.length a1 : Int)), (17, aI v.1)], [])
@[reducible] def ref_WideCheck_s6 (v : Int) : Fr × LL := ([(4, aI v)], [])
@[reducible] def ref_WideCheck_s7 (v : Unit) : Fr × LL := ([], [])
def ref_WideCheck (a0 : Int) (a1 : (List (Int × ((List Int) × (List Int))))) : Option Int :=
(ref_Within (0 : Int) a0 (5 : Int)).bind fun r3 =>
bif (!r3) || (decide ((List.length a1 : Int) > (300 : Int))) then
(some (1 : Int))
else
((forL (ref_WideCheck_b4 a0) (fun x57 => (.brk ())) a1 0 ()).bind fun v84 =>
match v84 with
| .ret v89 =>
(some v89)
| .brk v90 =>
(some (0 : Int)))
theorem ref_WideCheck_ok {a0 : Int} {a1 : (List (Int × ((List Int) × (List Int))))} {r : Int} (h : ref_WideCheck a0 a1 = some r) : FnC Try.prog 20 [aI a0, aD (.slice (.pair tI (.pair (.arr 5 tI) (.arr 5 tI)))) a1] [] (aI r) [] := by
  refine fnC_of_W (B := bodyOf Try.f20) (n := 38) Try.func20 (by kernel_rfl) (by kernel_rfl) (by kernel_rfl) (by kernel_rfl) (by kernel_rfl) ?_
  intro K
  refine W_seq (by kernel_rfl) ?_
  refine W_run 1 [] [0, 1] [] (fr' := [(0, aI a0), (1, aD (.slice (.pair tI (.pair (.arr 5 tI) (.arr 5 tI)))) a1)]) (L' := []) (obs := []) (by kernel_rfl) (by kernel_rfl) (by kernel_rfl) allP0 ?_
  refine seqQ_norm ?_
  refine W_seq (by kernel_rfl) ?_
  refine W_seq (by kernel_rfl) ?_
  refine W_region (by kernel_rfl) ?_
  refine WO_run (j := 1) (k := 1) (orcs := []) (kF := [0, 1, 7]) (kL := []) (fr' := [(0, aI a0), (1, aD (.slice (.pair tI (.pair (.arr 5 tI) (.arr 5 tI)))) a1), (7, aI a0)]) (L' := []) (obs := []) rfl (by kernel_rfl) allP0 ?_
  obtain ⟨r3, h4, h⟩ := bind_of h
  refine WO_call0 (us := [none, none, none]) (d := 8) (p := True) (j := 2) rfl ⟨by kernel_rfl, by kernel_rfl, by kernel_rfl⟩ trivial (ref_Within_ok h4) (by kernel_rfl) ?_
  refine WO_run (j := 8) (k := 6) (orcs := []) (kF := [0, 1, 14]) (kL := []) (fr' := [(0, aI a0), (1, aD (.slice (.pair tI (.pair (.arr 5 tI) (.arr 5 tI)))) a1), (14, aB ((!r3) || (decide ((List.length a1 : Int) > (300 : Int)))))]) (L' := []) (obs := []) rfl (by kernel_rfl) allP0 ?_
  refine WO_fin [0, 1, 14] [] (fr' := [(0, aI a0), (1, aD (.slice (.pair tI (.pair (.arr 5 tI) (.arr 5 tI)))) a1), (14, aB ((!r3) || (decide ((List.length a1 : Int) > (300 : Int)))))]) (L' := []) (by kernel_rfl) (by kernel_rfl) ?_
  refine seqQ_norm ?_
  refine W_cond (o := .tmp 14) (b := (!r3) || (decide ((List.length a1 : Int) > (300 : Int)))) (by kernel_rfl) (by kernel_rfl) (fun h5 => ?_) (fun h5 => ?_)
  · replace h := ofT h5 h
    refine W_seq (by kernel_rfl) ?_
    refine W_run 1 [] [4] [] (fr' := [(4, aI (1 : Int))]) (L' := []) (obs := []) (by kernel_rfl) (by kernel_rfl) (by kernel_rfl) allP0 ?_
    refine seqQ_norm ?_
    obtain rfl := Option.some.inj h
    refine W_ret [4] [] (fr' := [(4, aI (1 : Int))]) (L' := []) (by kernel_rfl) (by kernel_rfl) ?_
    refine seqQ_ret ?_
    exact retQ_mk (by kernel_rfl) (by kernel_rfl) (by kernel_rfl)
  · replace h := ofF h5 h
    refine W_skip [0, 1] [] (fr' := [(0, aI a0), (1, aD (.slice (.pair tI (.pair (.arr 5 tI) (.arr 5 tI)))) a1)]) (L' := []) (by kernel_rfl) (by kernel_rfl) ?_
    refine seqQ_norm ?_
    refine W_seq (by kernel_rfl) ?_
    refine W_seq (by kernel_rfl) ?_
    refine W_run 3 [] [0, 15, 16, 17] [] (fr' := [(0, aI a0), (15, aD (.slice (.pair tI (.pair (.arr 5 tI) (.arr 5 tI)))) a1), (16, aI (List.length a1 : Int)), (17, aI (0 : Int))]) (L' := []) (obs := []) (by kernel_rfl) (by kernel_rfl) (by kernel_rfl) allP0 ?_
    refine seqQ_norm ?_
    refine W_block (id := 0) (by kernel_rfl) ?_
    obtain ⟨v84, h85, h⟩ := bind_of h
    refine W_len (t := 15) (u := (.pair tI (.pair (.arr 5 tI) (.arr 5 tI)))) (xs := a1) (by kernel_rfl) (fun h88 => ?_)
    obtain ⟨h86, h87⟩ := forL_iter h88 h85
    refine W_weaken [0, 15, 16, 17] [] (fr' := ((ref_WideCheck_s5 a0 a1) ((0 : Int), ())).1) (L' := ((ref_WideCheck_s5 a0 a1) ((0 : Int), ())).2) (by kernel_rfl) ?_
    refine W_cutK (W_loop (S := (ref_WideCheck_s5 a0 a1)) (J := (escQ (exQ .ret ref_WideCheck_s6) (exQ (.exit 0) ref_WideCheck_s7))) (by kernel_rfl) ?_ h86 _ v84 h87) ?_
    · rintro ⟨i56, x57⟩ s h
      refine W_seq (by kernel_rfl) ?_
      refine W_run 1 [] [0, 15, 16, 17, 18] [] (fr' := [(0, aI a0), (15, aD (.slice (.pair tI (.pair (.arr 5 tI) (.arr 5 tI)))) a1), (16, aI (List.length a1 : Int)), (17, aI i56), (18, aB (decide (i56 < (List.length a1 : Int))))]) (L' := []) (obs := []) (by kernel_rfl) (by kernel_rfl) (by kernel_rfl) allP0 ?_
      refine seqQ_norm ?_
      refine W_seq (by kernel_rfl) ?_
      refine W_cond (o := .tmp 18) (b := decide (i56 < (List.length a1 : Int))) (by kernel_rfl) (by kernel_rfl) (fun h61 => ?_) (fun h61 => ?_)
      · replace h := stepL_true h61 h
        obtain ⟨v59, _, h60, h, rfl⟩ := h
        refine W_skip [0, 15, 16, 17] [] (fr' := [(0, aI a0), (15, aD (.slice (.pair tI (.pair (.arr 5 tI) (.arr 5 tI)))) a1), (16, aI (List.length a1 : Int)), (17, aI i56)]) (L' := []) (by kernel_rfl) (by kernel_rfl) ?_
        refine seqQ_norm ?_
        refine W_seq (by kernel_rfl) ?_
        refine W_block (id := 1) (by kernel_rfl) ?_
        refine W_seq (by kernel_rfl) ?_
        refine W_run 4 [(1, .val (.dat (.pair tI (.pair (.arr 5 tI) (.arr 5 tI))) v59)), (5, .typed)] [0, 6, 15, 16, 17] [6] (fr' := [(0, aI a0), (6, .one (.ptr 6 0)), (15, aD (.slice (.pair tI (.pair (.arr 5 tI) (.arr 5 tI)))) a1), (16, aI (List.length a1 : Int)), (17, aI i56)]) (L' := [(6, .one (.pair tI (.pair (.arr 5 tI) (.arr 5 tI))) v59)]) (obs := [Idx a1 i56 v59, True]) (by kernel_rfl) (by kernel_rfl) (by kernel_rfl) (allP2 (Idx.of h60) (allP1 trivial)) ?_
        refine seqQ_norm ?_
        refine W_seq (by kernel_rfl) ?_
        refine W_seq (by kernel_rfl) ?_
        refine W_region (by kernel_rfl) ?_
        refine WO_run (j := 4) (k := 4) (orcs := []) (kF := [0, 6, 15, 16, 17, 21, 24]) (kL := [6, 24]) (fr' := [(0, aI a0), (6, .one (.ptr 6 0)), (15, aD (.slice (.pair tI (.pair (.arr 5 tI) (.arr 5 tI)))) a1), (16, aI (List.length a1 : Int)), (17, aI i56), (21, aI a0), (24, .one (.slc 24))]) (L' := [(6, .one (.pair tI (.pair (.arr 5 tI) (.arr 5 tI))) v59), (24, .seq tI [v59.1])]) (obs := []) rfl (by kernel_rfl) allP0 ?_
        obtain ⟨r62, h63, h⟩ := bind_of h
        refine WO_frz 24 (by kernel_rfl) ?_
        refine WO_call0 (us := [none, none]) (d := 25) (p := True) (j := 5) rfl ⟨by kernel_rfl, by kernel_rfl, by kernel_rfl⟩ trivial (ref_Inside_ok h63) (by kernel_rfl) ?_
        refine WO_run (j := 6) (k := 1) (orcs := []) (kF := [0, 6, 15, 16, 17, 26]) (kL := [6]) (fr' := [(0, aI a0), (6, .one (.ptr 6 0)), (15, aD (.slice (.pair tI (.pair (.arr 5 tI) (.arr 5 tI)))) a1), (16, aI (List.length a1 : Int)), (17, aI i56), (26, aB (!r62))]) (L' := [(6, .one (.pair tI (.pair (.arr 5 tI) (.arr 5 tI))) v59)]) (obs := []) rfl (by kernel_rfl) allP0 ?_
        refine WO_fin [0, 6, 15, 16, 17, 26] [6] (fr' := [(0, aI a0), (6, .one (.ptr 6 0)), (15, aD (.slice (.pair tI (.pair (.arr 5 tI) (.arr 5 tI)))) a1), (16, aI (List.length a1 : Int)), (17, aI i56), (26, aB (!r62))]) (L' := [(6, .one (.pair tI (.pair (.arr 5 tI) (.arr 5 tI))) v59)]) (by kernel_rfl) (by kernel_rfl) ?_
        refine seqQ_norm ?_
        refine W_cond (o := .tmp 26) (b := !r62) (by kernel_rfl) (by kernel_rfl) (fun h64 => ?_) (fun h64 => ?_)
        · replace h := ofT h64 h
          refine W_seq (by kernel_rfl) ?_
          refine W_run 1 [] [4] [] (fr' := [(4, aI (4 : Int))]) (L' := []) (obs := []) (by kernel_rfl) (by kernel_rfl) (by kernel_rfl) allP0 ?_
          refine seqQ_norm ?_
          obtain rfl := Option.some.inj h
          refine W_ret [4] [] (fr' := [(4, aI (4 : Int))]) (L' := []) (by kernel_rfl) (by kernel_rfl) ?_
          refine seqQ_ret ?_
          refine blockQ_ret ?_
          refine seqQ_ret ?_
          refine round_ret ?_
          refine escQ_ret ?_
          exact exQ_mk (by kernel_rfl) (by kernel_rfl)
        · replace h := ofF h64 h
          refine W_skip [0, 6, 15, 16, 17] [6] (fr' := [(0, aI a0), (6, .one (.ptr 6 0)), (15, aD (.slice (.pair tI (.pair (.arr 5 tI) (.arr 5 tI)))) a1), (16, aI (List.length a1 : Int)), (17, aI i56)]) (L' := [(6, .one (.pair tI (.pair (.arr 5 tI) (.arr 5 tI))) v59)]) (by kernel_rfl) (by kernel_rfl) ?_
          refine seqQ_norm ?_
          refine W_seq (by kernel_rfl) ?_
          obtain ⟨v80, h81, h⟩ := bind_of h
          refine W_cutK (Q' := (exQ .normal (ref_WideCheck_s3 a0 a1 i56)) v80) ?_ ?_
          · replace h := h81
            refine W_region (by kernel_rfl) ?_
            refine WO_run (j := 2) (k := 2) (orcs := []) (kF := [0, 6, 15, 16, 17, 28]) (kL := [6]) (fr' := [(0, aI a0), (6, .one (.ptr 6 0)), (15, aD (.slice (.pair tI (.pair (.arr 5 tI) (.arr 5 tI)))) a1), (16, aI (List.length a1 : Int)), (17, aI i56), (28, aD (.arr 5 tI) v59.2.1)]) (L' := [(6, .one (.pair tI (.pair (.arr 5 tI) (.arr 5 tI))) v59)]) (obs := []) rfl (by kernel_rfl) allP0 ?_
            obtain ⟨r75, h76, h⟩ := bind_of h
            refine WO_call0 (us := [none]) (d := 29) (p := True) (j := 3) rfl ⟨by kernel_rfl, by kernel_rfl, by kernel_rfl⟩ trivial (ref_Change_ok h76) (by kernel_rfl) ?_
            refine WO_run (j := 5) (k := 2) (orcs := []) (kF := [0, 6, 15, 16, 17, 31]) (kL := [6]) (fr' := [(0, aI a0), (6, .one (.ptr 6 0)), (15, aD (.slice (.pair tI (.pair (.arr 5 tI) (.arr 5 tI)))) a1), (16, aI (List.length a1 : Int)), (17, aI i56), (31, aB (!r75))]) (L' := [(6, .one (.pair tI (.pair (.arr 5 tI) (.arr 5 tI))) v59)]) (obs := []) rfl (by kernel_rfl) allP0 ?_
            rcases Bool.eq_false_or_eq_true (!r75) with h77 | h77
            · replace h := ofT h77 h
              refine WO_run (j := 10) (k := 5) (orcs := [(10, .known true), (12, .known true), (14, .known true), (16, .known true), (19, .val (.dat .bool true))]) (kF := [0, 15, 16, 17, 36]) (kL := [6]) (fr' := [(0, aI a0), (15, aD (.slice (.pair tI (.pair (.arr 5 tI) (.arr 5 tI)))) a1), (16, aI (List.length a1 : Int)), (17, aI i56), (36, aB true)]) (L' := [(6, .one (.pair tI (.pair (.arr 5 tI) (.arr 5 tI))) v59)]) (obs := [((!r75) = true), ((!r75) = true), ((!r75) = true), ((!r75) = true), ((!r75) = true)]) rfl (by kernel_rfl) (allP2 h77 (allP2 h77 (allP2 h77 (allP2 h77 (allP1 h77))))) ?_
              obtain rfl := Option.some.inj h
              refine WO_fin [0, 15, 16, 17, 36] [] (fr' := [(0, aI a0), (15, aD (.slice (.pair tI (.pair (.arr 5 tI) (.arr 5 tI)))) a1), (16, aI (List.length a1 : Int)), (17, aI i56), (36, aB true)]) (L' := []) (by kernel_rfl) (by kernel_rfl) ?_
              exact exQ_mk (by kernel_rfl) (by kernel_rfl)
            · replace h := ofF h77 h
              refine WO_run (j := 7) (k := 2) (orcs := [(10, .known false), (12, .known false)]) (kF := [0, 15, 16, 17, 31, 33]) (kL := [6]) (fr' := [(0, aI a0), (15, aD (.slice (.pair tI (.pair (.arr 5 tI) (.arr 5 tI)))) a1), (16, aI (List.length a1 : Int)), (17, aI i56), (31, aB (!r75)), (33, aD (.arr 5 tI) v59.2.2)]) (L' := [(6, .one (.pair tI (.pair (.arr 5 tI) (.arr 5 tI))) v59)]) (obs := [((!r75) = false), ((!r75) = false)]) rfl (by kernel_rfl) (allP2 h77 (allP1 h77)) ?_
              obtain ⟨r78, h79, h⟩ := bind_of h
              refine WO_call0 (us := [none]) (d := 34) (p := ((!r75) = false)) (j := 8) rfl ⟨by kernel_rfl, by kernel_rfl, by kernel_rfl⟩ h77 (ref_Change_ok h79) (by kernel_rfl) ?_
              refine WO_run (j := 10) (k := 2) (orcs := [(16, .known false), (19, .val (.dat .bool false))]) (kF := [0, 15, 16, 17, 36]) (kL := [6]) (fr' := [(0, aI a0), (15, aD (.slice (.pair tI (.pair (.arr 5 tI) (.arr 5 tI)))) a1), (16, aI (List.length a1 : Int)), (17, aI i56), (36, aB (!r78))]) (L' := [(6, .one (.pair tI (.pair (.arr 5 tI) (.arr 5 tI))) v59)]) (obs := [((!r75) = false), ((!r75) = false)]) rfl (by kernel_rfl) (allP2 h77 (allP1 h77)) ?_
              obtain rfl := Option.some.inj h
              refine WO_fin [0, 15, 16, 17, 36] [] (fr' := [(0, aI a0), (15, aD (.slice (.pair tI (.pair (.arr 5 tI) (.arr 5 tI)))) a1), (16, aI (List.length a1 : Int)), (17, aI i56), (36, aB (!r78))]) (L' := []) (by kernel_rfl) (by kernel_rfl) ?_
              exact exQ_mk (by kernel_rfl) (by kernel_rfl)
          · intro e fr L hJ
            obtain ⟨rfl, rfl, rfl⟩ := hJ
            refine LT_keep [0, 15, 16, 17, 36] [] (fr' := [(0, aI a0), (15, aD (.slice (.pair tI (.pair (.arr 5 tI) (.arr 5 tI)))) a1), (16, aI (List.length a1 : Int)), (17, aI i56), (36, aB v80)]) (L' := []) (by kernel_rfl) ?_
            refine seqQ_norm ?_
            refine W_cond (o := .tmp 36) (b := v80) (by kernel_rfl) (by kernel_rfl) (fun h82 => ?_) (fun h82 => ?_)
            · replace h := ofT h82 h
              refine W_seq (by kernel_rfl) ?_
              refine W_run 1 [] [4] [] (fr' := [(4, aI (3 : Int))]) (L' := []) (obs := []) (by kernel_rfl) (by kernel_rfl) (by kernel_rfl) allP0 ?_
              refine seqQ_norm ?_
              obtain rfl := Option.some.inj h
              refine W_ret [4] [] (fr' := [(4, aI (3 : Int))]) (L' := []) (by kernel_rfl) (by kernel_rfl) ?_
              refine blockQ_ret ?_
              refine seqQ_ret ?_
              refine round_ret ?_
              refine escQ_ret ?_
              exact exQ_mk (by kernel_rfl) (by kernel_rfl)
            · replace h := ofF h82 h
              refine W_skip [0, 15, 16, 17] [] (fr' := [(0, aI a0), (15, aD (.slice (.pair tI (.pair (.arr 5 tI) (.arr 5 tI)))) a1), (16, aI (List.length a1 : Int)), (17, aI i56)]) (L' := []) (by kernel_rfl) (by kernel_rfl) ?_
              refine blockQ_norm ?_
              refine seqQ_norm ?_
              obtain rfl := Option.some.inj h
              refine W_run 2 [] [0, 15, 16, 17] [] (fr' := [(0, aI a0), (15, aD (.slice (.pair tI (.pair (.arr 5 tI) (.arr 5 tI)))) a1), (16, aI (List.length a1 : Int)), (17, aI (w64 (i56 + (1 : Int))))]) (L' := []) (obs := []) (by kernel_rfl) (by kernel_rfl) (by kernel_rfl) allP0 ?_
              exact round_next' (by kernel_rfl) (by kernel_rfl)
      · obtain rfl := stepL_false h61 h
        refine W_exit (id := 0) [] [] (fr' := []) (L' := []) (by kernel_rfl) (by kernel_rfl) ?_
        refine seqQ_exit ?_
        refine round_exit ?_
        refine escQ_brk ?_
        exact exQ_mk (by kernel_rfl) (by kernel_rfl)
    · intro e fr L hJ
      rcases v84 with v89 | v90
      · obtain ⟨rfl, rfl, rfl⟩ := hJ
        obtain rfl := Option.some.inj h
        refine LT_keep [4] [] (fr' := [(4, aI v89)]) (L' := []) (by kernel_rfl) ?_
        refine blockQ_ret ?_
        refine seqQ_ret ?_
        exact retQ_mk (by kernel_rfl) (by kernel_rfl) (by kernel_rfl)
      · obtain ⟨rfl, rfl, rfl⟩ := hJ
        refine LT_keep [] [] (fr' := []) (L' := []) (by kernel_rfl) ?_
        refine blockQ_hit ?_
        refine seqQ_norm ?_
        refine W_seq (by kernel_rfl) ?_
        refine W_run 1 [] [4] [] (fr' := [(4, aI (0 : Int))]) (L' := []) (obs := []) (by kernel_rfl) (by kernel_rfl) (by kernel_rfl) allP0 ?_
        refine seqQ_norm ?_
        obtain rfl := Option.some.inj h
        refine W_ret [4] [] (fr' := [(4, aI (0 : Int))]) (L' := []) (by kernel_rfl) (by kernel_rfl) ?_
        exact retQ_mk (by kernel_rfl) (by kernel_rfl) (by kernel_rfl)

@[reducible] def ref_Word_s4 (a0 : (List Bool)) (i30 : Int) (v : Int) : Fr × LL := ([(3, aI v), (6, aD (.slice .bool) a0), (7, aI (List.length a0 : Int)), (8, aI i30)], [])
def ref_Word_b5 (i30 : Int) (v33 : Bool) (x31 : Int) : Option (Flow Int Int) :=
(bif v33 then
((ck (0 ≤ IntKind.wrap .u64 (i30))).bind fun _ =>
some (w64 (x31 + (bShl .i64 (1 : Int) (IntKind.wrap .u64 (i30))))))
else
(some x31)).bind fun v42 =>
some (.next v42)
@[reducible] def ref_Word_s6 (a0 : (List Bool)) (v : Int × Int) : Fr × LL := ([(3, aI v.2), (6, aD (.slice .bool) a0), (7, aI (List.length a0 : Int)), (8, aI v.1)], [])
@[reducible] def ref_Word_s7 (v : Int) : Fr × LL := ([(3, aI v)], [])
def ref_Word (a0 : (List Bool)) : Option Int :=
(forL ref_Word_b5 (fun x31 => x31) a0 0 (0 : Int)).bind fun v45 =>
some v45
theorem ref_Word_ok {a0 : (List Bool)} {r : Int} (h : ref_Word a0 = some r) : FnC Try.prog 22 [aD (.slice .bool) a0] [] (aI r) [] := by
  refine fnC_of_W (B := bodyOf Try.f22) (n := 21) Try.func22 (by kernel_rfl) (by kernel_rfl) (by kernel_rfl) (by kernel_rfl) (by kernel_rfl) ?_
  intro K
  refine W_seq (by kernel_rfl) ?_
  refine W_run 1 [] [0] [] (fr' := [(0, aD (.slice .bool) a0)]) (L' := []) (obs := []) (by kernel_rfl) (by kernel_rfl) (by kernel_rfl) allP0 ?_
  refine seqQ_norm ?_
  refine W_seq (by kernel_rfl) ?_
  refine W_run 1 [] [0, 3] [] (fr' := [(0, aD (.slice .bool) a0), (3, aI (0 : Int))]) (L' := []) (obs := []) (by kernel_rfl) (by kernel_rfl) (by kernel_rfl) allP0 ?_
  refine seqQ_norm ?_
  refine W_seq (by kernel_rfl) ?_
  refine W_seq (by kernel_rfl) ?_
  refine W_run 3 [] [3, 6, 7, 8] [] (fr' := [(3, aI (0 : Int)), (6, aD (.slice .bool) a0), (7, aI (List.length a0 : Int)), (8, aI (0 : Int))]) (L' := []) (obs := []) (by kernel_rfl) (by kernel_rfl) (by kernel_rfl) allP0 ?_
  refine seqQ_norm ?_
  refine W_block (id := 0) (by kernel_rfl) ?_
  obtain ⟨v45, h46, h⟩ := bind_of h
  refine W_len (t := 6) (u := .bool) (xs := a0) (by kernel_rfl) (fun h49 => ?_)
  obtain ⟨h47, h48⟩ := forL_iter h49 h46
  refine W_weaken [3, 6, 7, 8] [] (fr' := ((ref_Word_s6 a0) ((0 : Int), (0 : Int))).1) (L' := ((ref_Word_s6 a0) ((0 : Int), (0 : Int))).2) (by kernel_rfl) ?_
  refine W_cutK (W_loop (S := (ref_Word_s6 a0)) (J := (exQ (.exit 0) ref_Word_s7)) (by kernel_rfl) ?_ h47 _ v45 h48) ?_
  · rintro ⟨i30, x31⟩ s h
    refine W_seq (by kernel_rfl) ?_
    refine W_run 1 [] [3, 6, 7, 8, 9] [] (fr' := [(3, aI x31), (6, aD (.slice .bool) a0), (7, aI (List.length a0 : Int)), (8, aI i30), (9, aB (decide (i30 < (List.length a0 : Int))))]) (L' := []) (obs := []) (by kernel_rfl) (by kernel_rfl) (by kernel_rfl) allP0 ?_
    refine seqQ_norm ?_
    refine W_seq (by kernel_rfl) ?_
    refine W_cond (o := .tmp 9) (b := decide (i30 < (List.length a0 : Int))) (by kernel_rfl) (by kernel_rfl) (fun h35 => ?_) (fun h35 => ?_)
    · replace h := stepL_true h35 h
      obtain ⟨v33, _, h34, h, rfl⟩ := h
      refine W_skip [3, 6, 7, 8] [] (fr' := [(3, aI x31), (6, aD (.slice .bool) a0), (7, aI (List.length a0 : Int)), (8, aI i30)]) (L' := []) (by kernel_rfl) (by kernel_rfl) ?_
      refine seqQ_norm ?_
      refine W_seq (by kernel_rfl) ?_
      obtain ⟨v42, h43, h⟩ := bind_of h
      refine W_cutK (Q' := (exQ .normal (ref_Word_s4 a0 i30)) v42) ?_ ?_
      · replace h := h43
        refine W_block (id := 1) (by kernel_rfl) ?_
        refine W_seq (by kernel_rfl) ?_
        refine W_run 5 [(3, .val (.dat .bool v33))] [3, 4, 5, 6, 7, 8] [] (fr' := [(3, aI x31), (4, aI i30), (5, aB v33), (6, aD (.slice .bool) a0), (7, aI (List.length a0 : Int)), (8, aI i30)]) (L' := []) (obs := [Idx a0 i30 v33]) (by kernel_rfl) (by kernel_rfl) (by kernel_rfl) (allP1 (Idx.of h34)) ?_
        refine seqQ_norm ?_
        refine W_seq (by kernel_rfl) ?_
        refine W_run 1 [] [3, 4, 6, 7, 8, 13] [] (fr' := [(3, aI x31), (4, aI i30), (6, aD (.slice .bool) a0), (7, aI (List.length a0 : Int)), (8, aI i30), (13, aB v33)]) (L' := []) (obs := []) (by kernel_rfl) (by kernel_rfl) (by kernel_rfl) allP0 ?_
        refine seqQ_norm ?_
        refine W_cond (o := .tmp 13) (b := v33) (by kernel_rfl) (by kernel_rfl) (fun h40 => ?_) (fun h40 => ?_)
        · replace h := ofT h40 h
          obtain ⟨_, h41, h⟩ := bind_of h
          replace h41 := ck_some h41
          obtain rfl := Option.some.inj h
          refine W_run 6 [] [3, 6, 7, 8] [] (fr' := [(3, aI (w64 (x31 + (bShl .i64 (1 : Int) (IntKind.wrap .u64 (i30)))))), (6, aD (.slice .bool) a0), (7, aI (List.length a0 : Int)), (8, aI i30)]) (L' := []) (obs := [(0 ≤ IntKind.wrap .u64 (i30))]) (by kernel_rfl) (by kernel_rfl) (by kernel_rfl) (allP1 h41) ?_
          refine blockQ_norm ?_
          exact exQ_mk (by kernel_rfl) (by kernel_rfl)
        · replace h := ofF h40 h
          obtain rfl := Option.some.inj h
          refine W_skip [3, 6, 7, 8] [] (fr' := [(3, aI x31), (6, aD (.slice .bool) a0), (7, aI (List.length a0 : Int)), (8, aI i30)]) (L' := []) (by kernel_rfl) (by kernel_rfl) ?_
          refine blockQ_norm ?_
          exact exQ_mk (by kernel_rfl) (by kernel_rfl)
      · intro e fr L hJ
        obtain ⟨rfl, rfl, rfl⟩ := hJ
        refine LT_keep [3, 6, 7, 8] [] (fr' := [(3, aI v42), (6, aD (.slice .bool) a0), (7, aI (List.length a0 : Int)), (8, aI i30)]) (L' := []) (by kernel_rfl) ?_
        refine seqQ_norm ?_
        obtain rfl := Option.some.inj h
        refine W_run 2 [] [3, 6, 7, 8] [] (fr' := [(3, aI v42), (6, aD (.slice .bool) a0), (7, aI (List.length a0 : Int)), (8, aI (w64 (i30 + (1 : Int))))]) (L' := []) (obs := []) (by kernel_rfl) (by kernel_rfl) (by kernel_rfl) allP0 ?_
        exact round_next' (by kernel_rfl) (by kernel_rfl)
    · obtain rfl := stepL_false h35 h
      refine W_exit (id := 0) [3] [] (fr' := [(3, aI x31)]) (L' := []) (by kernel_rfl) (by kernel_rfl) ?_
      refine seqQ_exit ?_
      refine round_exit ?_
      exact exQ_mk (by kernel_rfl) (by kernel_rfl)
  · intro e fr L hJ
    obtain ⟨rfl, rfl, rfl⟩ := hJ
    refine LT_keep [3] [] (fr' := [(3, aI v45)]) (L' := []) (by kernel_rfl) ?_
    refine blockQ_hit ?_
    refine seqQ_norm ?_
    refine W_seq (by kernel_rfl) ?_
    refine W_run 2 [] [2] [] (fr' := [(2, aI v45)]) (L' := []) (obs := []) (by kernel_rfl) (by kernel_rfl) (by kernel_rfl) allP0 ?_
    refine seqQ_norm ?_
    obtain rfl := Option.some.inj h
    refine W_ret [2] [] (fr' := [(2, aI v45)]) (L' := []) (by kernel_rfl) (by kernel_rfl) ?_
    exact retQ_mk (by kernel_rfl) (by kernel_rfl) (by kernel_rfl)

def ref_Bit (a0 : Int) (a1 : Int) : Option Bool :=
bif (decide (a1 ≥ (0 : Int))) && (decide (a1 < (63 : Int))) then
((ck (0 ≤ IntKind.wrap .u64 (a1))).bind fun _ =>
some ((bAnd .i64 a0 (bShl .i64 (1 : Int) (IntKind.wrap .u64 (a1)))) != (0 : Int)))
else
(some false)
theorem ref_Bit_ok {a0 : Int} {a1 : Int} {r : Bool} (h : ref_Bit a0 a1 = some r) : FnC Try.prog 32 [aI a0, aI a1] [] (aB r) [] := by
  refine fnC_of_W (B := bodyOf Try.f32) (n := 19) Try.func32 (by kernel_rfl) (by kernel_rfl) (by kernel_rfl) (by kernel_rfl) (by kernel_rfl) ?_
  intro K
  refine W_seq (by kernel_rfl) ?_
  refine W_run 1 [] [0, 1] [] (fr' := [(0, aI a0), (1, aI a1)]) (L' := []) (obs := []) (by kernel_rfl) (by kernel_rfl) (by kernel_rfl) allP0 ?_
  refine seqQ_norm ?_
  refine W_seq (by kernel_rfl) ?_
  refine W_region (by kernel_rfl) ?_
  refine WO_run (j := 7) (k := 7) (orcs := []) (kF := [0, 1, 11]) (kL := []) (fr' := [(0, aI a0), (1, aI a1), (11, aB ((decide (a1 ≥ (0 : Int))) && (decide (a1 < (63 : Int)))))]) (L' := []) (obs := []) rfl (by kernel_rfl) allP0 ?_
  rcases Bool.eq_false_or_eq_true ((decide (a1 ≥ (0 : Int))) && (decide (a1 < (63 : Int)))) with h1 | h1
  · replace h := ofT h1 h
    obtain ⟨_, h2, h⟩ := bind_of h
    replace h2 := ck_some h2
    refine WO_run (j := 15) (k := 8) (orcs := [(14, .known true), (16, .known true), (18, .known true), (20, .known true), (22, .known true), (24, .known true), (27, .val (.dat .bool true))]) (kF := [4]) (kL := []) (fr' := [(4, aB ((bAnd .i64 a0 (bShl .i64 (1 : Int) (IntKind.wrap .u64 (a1)))) != (0 : Int)))]) (L' := []) (obs := [(((decide (a1 ≥ (0 : Int))) && (decide (a1 < (63 : Int)))) = true), (((decide (a1 ≥ (0 : Int))) && (decide (a1 < (63 : Int)))) = true), (((decide (a1 ≥ (0 : Int))) && (decide (a1 < (63 : Int)))) = true), (((decide (a1 ≥ (0 : Int))) && (decide (a1 < (63 : Int)))) = true), (0 ≤ IntKind.wrap .u64 (a1)), (((decide (a1 ≥ (0 : Int))) && (decide (a1 < (63 : Int)))) = true), (((decide (a1 ≥ (0 : Int))) && (decide (a1 < (63 : Int)))) = true), (((decide (a1 ≥ (0 : Int))) && (decide (a1 < (63 : Int)))) = true)]) rfl (by kernel_rfl) (allP2 h1 (allP2 h1 (allP2 h1 (allP2 h1 (allP2 h2 (allP2 h1 (allP2 h1 (allP1 h1)))))))) ?_
    refine WO_fin [4] [] (fr' := [(4, aB ((bAnd .i64 a0 (bShl .i64 (1 : Int) (IntKind.wrap .u64 (a1)))) != (0 : Int)))]) (L' := []) (by kernel_rfl) (by kernel_rfl) ?_
    refine seqQ_norm ?_
    obtain rfl := Option.some.inj h
    refine W_ret [4] [] (fr' := [(4, aB ((bAnd .i64 a0 (bShl .i64 (1 : Int) (IntKind.wrap .u64 (a1)))) != (0 : Int)))]) (L' := []) (by kernel_rfl) (by kernel_rfl) ?_
    exact retQ_mk (by kernel_rfl) (by kernel_rfl) (by kernel_rfl)
  · replace h := ofF h1 h
    refine WO_run (j := 15) (k := 8) (orcs := [(14, .known false), (16, .known false), (18, .known false), (20, .known false), (22, .known false), (24, .known false), (27, .val (.dat .bool false))]) (kF := [4]) (kL := []) (fr' := [(4, aB false)]) (L' := []) (obs := [(((decide (a1 ≥ (0 : Int))) && (decide (a1 < (63 : Int)))) = false), (((decide (a1 ≥ (0 : Int))) && (decide (a1 < (63 : Int)))) = false), (((decide (a1 ≥ (0 : Int))) && (decide (a1 < (63 : Int)))) = false), (((decide (a1 ≥ (0 : Int))) && (decide (a1 < (63 : Int)))) = false), (((decide (a1 ≥ (0 : Int))) && (decide (a1 < (63 : Int)))) = false), (((decide (a1 ≥ (0 : Int))) && (decide (a1 < (63 : Int)))) = false), (((decide (a1 ≥ (0 : Int))) && (decide (a1 < (63 : Int)))) = false)]) rfl (by kernel_rfl) (allP2 h1 (allP2 h1 (allP2 h1 (allP2 h1 (allP2 h1 (allP2 h1 (allP1 h1))))))) ?_
    refine WO_fin [4] [] (fr' := [(4, aB false)]) (L' := []) (by kernel_rfl) (by kernel_rfl) ?_
    refine seqQ_norm ?_
    obtain rfl := Option.some.inj h
    refine W_ret [4] [] (fr' := [(4, aB false)]) (L' := []) (by kernel_rfl) (by kernel_rfl) ?_
    exact retQ_mk (by kernel_rfl) (by kernel_rfl) (by kernel_rfl)

@[reducible] def ref_Wide_s21 (a0 : (List (Int × ((List Int) × (List Int))))) (a1 : Int) (i202 : Int) (x203 : (List Int)) (i268 : Int) (v : Int) : Fr × LL := ([(0, aD (.slice (.pair tI (.pair (.arr 5 tI) (.arr 5 tI)))) a0), (1, aI a1), (4, .one (.ptr 4 0)), (5, .one (.ptr 5 0)), (6, aI i202), (7, aI v), (15, aD (.slice (.pair tI (.pair (.arr 5 tI) (.arr 5 tI)))) a0), (16, aI (List.length a0 : Int)), (17, aI i268)], [(4, .one (.arr 5 tI) [(0 : Int), (0 : Int), (0 : Int), (0 : Int), (0 : Int)]), (5, .one (.arr 5 tI) x203)])
def ref_Wide_b22 (a1 : Int) (i268 : Int) (v271 : (Int × ((List Int) × (List Int)))) (x269 : Int) : Option (Flow Int Int) :=
((ref_Bit a1 v271.1).bind fun r288 =>
bif r288 then
((idx v271.2.2 x269).bind fun v291 =>
some v291)
else
((idx v271.2.1 x269).bind fun v293 =>
some v293)).bind fun v295 =>
some (.next v295)
@[reducible] def ref_Wide_s23 (a0 : (List (Int × ((List Int) × (List Int))))) (a1 : Int) (i202 : Int) (x203 : (List Int)) (v : Int × Int) : Fr × LL := ([(0, aD (.slice (.pair tI (.pair (.arr 5 tI) (.arr 5 tI)))) a0), (1, aI a1), (4, .one (.ptr 4 0)), (5, .one (.ptr 5 0)), (6, aI i202), (7, aI v.2), (15, aD (.slice (.pair tI (.pair (.arr 5 tI) (.arr 5 tI)))) a0), (16, aI (List.length a0 : Int)), (17, aI v.1)], [(4, .one (.arr 5 tI) [(0 : Int), (0 : Int), (0 : Int), (0 : Int), (0 : Int)]), (5, .one (.arr 5 tI) x203)])
@[reducible] def ref_Wide_s24 (a0 : (List (Int × ((List Int) × (List Int))))) (a1 : Int) (i202 : Int) (x203 : (List Int)) (v : Int) : Fr × LL := ([(0, aD (.slice (.pair tI (.pair (.arr 5 tI) (.arr 5 tI)))) a0), (1, aI a1), (4, .one (.ptr 4 0)), (5, .one (.ptr 5 0)), (6, aI i202), (7, aI v)], [(4, .one (.arr 5 tI) [(0 : Int), (0 : Int), (0 : Int), (0 : Int), (0 : Int)]), (5, .one (.arr 5 tI) x203)])
def ref_Wide_b25 (a0 : (List (Int × ((List Int) × (List Int))))) (a1 : Int) (i202 : Int) (x203 : (List Int)) : Option (Flow (List Int) (List Int)) :=
(forL (ref_Wide_b22 a1) (fun x269 => x269) a0 0 i202).bind fun v298 =>
(ck (0 ≤ i202 ∧ i202 < 5)).bind fun _ =>
(idx x203 i202).bind fun v304 =>
some (.next (List.set x203 (Int.toNat i202) v298))
@[reducible] def ref_Wide_s26 (a0 : (List (Int × ((List Int) × (List Int))))) (a1 : Int) (v : Int × (List Int)) : Fr × LL := ([(0, aD (.slice (.pair tI (.pair (.arr 5 tI) (.arr 5 tI)))) a0), (1, aI a1), (4, .one (.ptr 4 0)), (5, .one (.ptr 5 0)), (6, aI v.1)], [(4, .one (.arr 5 tI) [(0 : Int), (0 : Int), (0 : Int), (0 : Int), (0 : Int)]), (5, .one (.arr 5 tI) v.2)])
@[reducible] def ref_Wide_s27 (v : (List Int)) : Fr × LL := ([(4, .one (.ptr 4 0)), (5, .one (.ptr 5 0))], [(4, .one (.arr 5 tI) [(0 : Int), (0 : Int), (0 : Int), (0 : Int), (0 : Int)]), (5, .one (.arr 5 tI) v)])
def ref_Wide (a0 : (List (Int × ((List Int) × (List Int))))) (a1 : Int) : Option (List Int) :=
(forI (0 : Int) (5 : Int) (ref_Wide_b25 a0 a1) (fun x203 => x203) [(0 : Int), (0 : Int), (0 : Int), (0 : Int), (0 : Int)]).bind fun v307 =>
some v307
theorem ref_Wide_ok {a0 : (List (Int × ((List Int) × (List Int))))} {a1 : Int} {r : (List Int)} (h : ref_Wide a0 a1 = some r) : FnC Try.prog 21 [aD (.slice (.pair tI (.pair (.arr 5 tI) (.arr 5 tI)))) a0, aI a1] [] (aD (.arr 5 tI) r) [] := by
  refine fnC_of_W (B := bodyOf Try.f21) (n := 38) Try.func21 (by kernel_rfl) (by kernel_rfl) (by kernel_rfl) (by kernel_rfl) (by kernel_rfl) ?_
  intro K
  refine W_seq (by kernel_rfl) ?_
  refine W_run 1 [(1, .typed)] [0, 1, 4] [4] (fr' := [(0, aD (.slice (.pair tI (.pair (.arr 5 tI) (.arr 5 tI)))) a0), (1, aI a1), (4, .one (.ptr 4 0))]) (L' := [(4, .one (.arr 5 tI) [(0 : Int), (0 : Int), (0 : Int), (0 : Int), (0 : Int)])]) (obs := []) (by kernel_rfl) (by kernel_rfl) (by kernel_rfl) allP0 ?_
  refine seqQ_norm ?_
  refine W_seq (by kernel_rfl) ?_
  refine W_run 1 [(1, .typed)] [0, 1, 4, 5] [4, 5] (fr' := [(0, aD (.slice (.pair tI (.pair (.arr 5 tI) (.arr 5 tI)))) a0), (1, aI a1), (4, .one (.ptr 4 0)), (5, .one (.ptr 5 0))]) (L' := [(4, .one (.arr 5 tI) [(0 : Int), (0 : Int), (0 : Int), (0 : Int), (0 : Int)]), (5, .one (.arr 5 tI) [(0 : Int), (0 : Int), (0 : Int), (0 : Int), (0 : Int)])]) (obs := []) (by kernel_rfl) (by kernel_rfl) (by kernel_rfl) allP0 ?_
  refine seqQ_norm ?_
  refine W_seq (by kernel_rfl) ?_
  refine W_seq (by kernel_rfl) ?_
  refine W_run 1 [] [0, 1, 4, 5, 6] [4, 5] (fr' := [(0, aD (.slice (.pair tI (.pair (.arr 5 tI) (.arr 5 tI)))) a0), (1, aI a1), (4, .one (.ptr 4 0)), (5, .one (.ptr 5 0)), (6, aI (0 : Int))]) (L' := [(4, .one (.arr 5 tI) [(0 : Int), (0 : Int), (0 : Int), (0 : Int), (0 : Int)]), (5, .one (.arr 5 tI) [(0 : Int), (0 : Int), (0 : Int), (0 : Int), (0 : Int)])]) (obs := []) (by kernel_rfl) (by kernel_rfl) (by kernel_rfl) allP0 ?_
  refine seqQ_norm ?_
  refine W_block (id := 0) (by kernel_rfl) ?_
  obtain ⟨v307, h308, h⟩ := bind_of h
  obtain ⟨h309, h310⟩ := forI_iter h308
  refine W_weaken [0, 1, 4, 5, 6] [4, 5] (fr' := ((ref_Wide_s26 a0 a1) ((0 : Int), [(0 : Int), (0 : Int), (0 : Int), (0 : Int), (0 : Int)])).1) (L' := ((ref_Wide_s26 a0 a1) ((0 : Int), [(0 : Int), (0 : Int), (0 : Int), (0 : Int), (0 : Int)])).2) (by kernel_rfl) ?_
  refine W_cutK (W_loop (S := (ref_Wide_s26 a0 a1)) (J := (exQ (.exit 0) ref_Wide_s27)) (by kernel_rfl) ?_ h309 _ v307 h310) ?_
  · rintro ⟨i202, x203⟩ s h
    refine W_seq (by kernel_rfl) ?_
    refine W_seq (by kernel_rfl) ?_
    refine W_run 2 [] [0, 1, 4, 5, 6, 11] [4, 5] (fr' := [(0, aD (.slice (.pair tI (.pair (.arr 5 tI) (.arr 5 tI)))) a0), (1, aI a1), (4, .one (.ptr 4 0)), (5, .one (.ptr 5 0)), (6, aI i202), (11, aB (decide (i202 < (5 : Int))))]) (L' := [(4, .one (.arr 5 tI) [(0 : Int), (0 : Int), (0 : Int), (0 : Int), (0 : Int)]), (5, .one (.arr 5 tI) x203)]) (obs := []) (by kernel_rfl) (by kernel_rfl) (by kernel_rfl) allP0 ?_
    refine seqQ_norm ?_
    refine W_cond (o := .tmp 11) (b := decide (i202 < (5 : Int))) (by kernel_rfl) (by kernel_rfl) (fun h205 => ?_) (fun h205 => ?_)
    · replace h := stepI_true h205 h
      obtain ⟨_, h, rfl⟩ := h
      refine W_skip [0, 1, 4, 5, 6] [4, 5] (fr' := [(0, aD (.slice (.pair tI (.pair (.arr 5 tI) (.arr 5 tI)))) a0), (1, aI a1), (4, .one (.ptr 4 0)), (5, .one (.ptr 5 0)), (6, aI i202)]) (L' := [(4, .one (.arr 5 tI) [(0 : Int), (0 : Int), (0 : Int), (0 : Int), (0 : Int)]), (5, .one (.arr 5 tI) x203)]) (by kernel_rfl) (by kernel_rfl) ?_
      refine seqQ_norm ?_
      refine W_seq (by kernel_rfl) ?_
      refine W_block (id := 1) (by kernel_rfl) ?_
      refine W_seq (by kernel_rfl) ?_
      refine W_run 2 [] [0, 1, 4, 5, 6, 7] [4, 5] (fr' := [(0, aD (.slice (.pair tI (.pair (.arr 5 tI) (.arr 5 tI)))) a0), (1, aI a1), (4, .one (.ptr 4 0)), (5, .one (.ptr 5 0)), (6, aI i202), (7, aI i202)]) (L' := [(4, .one (.arr 5 tI) [(0 : Int), (0 : Int), (0 : Int), (0 : Int), (0 : Int)]), (5, .one (.arr 5 tI) x203)]) (obs := []) (by kernel_rfl) (by kernel_rfl) (by kernel_rfl) allP0 ?_
      refine seqQ_norm ?_
      refine W_seq (by kernel_rfl) ?_
      refine W_seq (by kernel_rfl) ?_
      refine W_run 3 [] [0, 1, 4, 5, 6, 7, 15, 16, 17] [4, 5] (fr' := [(0, aD (.slice (.pair tI (.pair (.arr 5 tI) (.arr 5 tI)))) a0), (1, aI a1), (4, .one (.ptr 4 0)), (5, .one (.ptr 5 0)), (6, aI i202), (7, aI i202), (15, aD (.slice (.pair tI (.pair (.arr 5 tI) (.arr 5 tI)))) a0), (16, aI (List.length a0 : Int)), (17, aI (0 : Int))]) (L' := [(4, .one (.arr 5 tI) [(0 : Int), (0 : Int), (0 : Int), (0 : Int), (0 : Int)]), (5, .one (.arr 5 tI) x203)]) (obs := []) (by kernel_rfl) (by kernel_rfl) (by kernel_rfl) allP0 ?_
      refine seqQ_norm ?_
      refine W_block (id := 2) (by kernel_rfl) ?_
      obtain ⟨v298, h299, h⟩ := bind_of h
      refine W_len (t := 15) (u := (.pair tI (.pair (.arr 5 tI) (.arr 5 tI)))) (xs := a0) (by kernel_rfl) (fun h302 => ?_)
      obtain ⟨h300, h301⟩ := forL_iter h302 h299
      refine W_weaken [0, 1, 4, 5, 6, 7, 15, 16, 17] [4, 5] (fr' := ((ref_Wide_s23 a0 a1 i202 x203) ((0 : Int), i202)).1) (L' := ((ref_Wide_s23 a0 a1 i202 x203) ((0 : Int), i202)).2) (by kernel_rfl) ?_
      refine W_cutK (W_loop (S := (ref_Wide_s23 a0 a1 i202 x203)) (J := (exQ (.exit 2) (ref_Wide_s24 a0 a1 i202 x203))) (by kernel_rfl) ?_ h300 _ v298 h301) ?_
      · rintro ⟨i268, x269⟩ s h
        refine W_seq (by kernel_rfl) ?_
        refine W_run 1 [] [0, 1, 4, 5, 6, 7, 15, 16, 17, 18] [4, 5] (fr' := [(0, aD (.slice (.pair tI (.pair (.arr 5 tI) (.arr 5 tI)))) a0), (1, aI a1), (4, .one (.ptr 4 0)), (5, .one (.ptr 5 0)), (6, aI i202), (7, aI x269), (15, aD (.slice (.pair tI (.pair (.arr 5 tI) (.arr 5 tI)))) a0), (16, aI (List.length a0 : Int)), (17, aI i268), (18, aB (decide (i268 < (List.length a0 : Int))))]) (L' := [(4, .one (.arr 5 tI) [(0 : Int), (0 : Int), (0 : Int), (0 : Int), (0 : Int)]), (5, .one (.arr 5 tI) x203)]) (obs := []) (by kernel_rfl) (by kernel_rfl) (by kernel_rfl) allP0 ?_
        refine seqQ_norm ?_
        refine W_seq (by kernel_rfl) ?_
        refine W_cond (o := .tmp 18) (b := decide (i268 < (List.length a0 : Int))) (by kernel_rfl) (by kernel_rfl) (fun h273 => ?_) (fun h273 => ?_)
        · replace h := stepL_true h273 h
          obtain ⟨v271, _, h272, h, rfl⟩ := h
          refine W_skip [0, 1, 4, 5, 6, 7, 15, 16, 17] [4, 5] (fr' := [(0, aD (.slice (.pair tI (.pair (.arr 5 tI) (.arr 5 tI)))) a0), (1, aI a1), (4, .one (.ptr 4 0)), (5, .one (.ptr 5 0)), (6, aI i202), (7, aI x269), (15, aD (.slice (.pair tI (.pair (.arr 5 tI) (.arr 5 tI)))) a0), (16, aI (List.length a0 : Int)), (17, aI i268)]) (L' := [(4, .one (.arr 5 tI) [(0 : Int), (0 : Int), (0 : Int), (0 : Int), (0 : Int)]), (5, .one (.arr 5 tI) x203)]) (by kernel_rfl) (by kernel_rfl) ?_
          refine seqQ_norm ?_
          refine W_seq (by kernel_rfl) ?_
          obtain ⟨v295, h296, h⟩ := bind_of h
          refine W_cutK (Q' := (exQ .normal (ref_Wide_s21 a0 a1 i202 x203 i268)) v295) ?_ ?_
          · replace h := h296
            refine W_block (id := 3) (by kernel_rfl) ?_
            refine W_seq (by kernel_rfl) ?_
            refine W_run 4 [(1, .val (.dat (.pair tI (.pair (.arr 5 tI) (.arr 5 tI))) v271)), (5, .typed)] [0, 1, 4, 5, 6, 7, 9, 15, 16, 17] [4, 5, 9] (fr' := [(0, aD (.slice (.pair tI (.pair (.arr 5 tI) (.arr 5 tI)))) a0), (1, aI a1), (4, .one (.ptr 4 0)), (5, .one (.ptr 5 0)), (6, aI i202), (7, aI x269), (9, .one (.ptr 9 0)), (15, aD (.slice (.pair tI (.pair (.arr 5 tI) (.arr 5 tI)))) a0), (16, aI (List.length a0 : Int)), (17, aI i268)]) (L' := [(4, .one (.arr 5 tI) [(0 : Int), (0 : Int), (0 : Int), (0 : Int), (0 : Int)]), (5, .one (.arr 5 tI) x203), (9, .one (.pair tI (.pair (.arr 5 tI) (.arr 5 tI))) v271)]) (obs := [Idx a0 i268 v271, True]) (by kernel_rfl) (by kernel_rfl) (by kernel_rfl) (allP2 (Idx.of h272) (allP1 trivial)) ?_
            refine seqQ_norm ?_
            refine W_seq (by kernel_rfl) ?_
            refine W_region (by kernel_rfl) ?_
            refine WO_run (j := 3) (k := 3) (orcs := []) (kF := [0, 1, 4, 5, 6, 7, 9, 15, 16, 17, 21, 23]) (kL := [4, 5, 9]) (fr' := [(0, aD (.slice (.pair tI (.pair (.arr 5 tI) (.arr 5 tI)))) a0), (1, aI a1), (4, .one (.ptr 4 0)), (5, .one (.ptr 5 0)), (6, aI i202), (7, aI x269), (9, .one (.ptr 9 0)), (15, aD (.slice (.pair tI (.pair (.arr 5 tI) (.arr 5 tI)))) a0), (16, aI (List.length a0 : Int)), (17, aI i268), (21, aI a1), (23, aI v271.1)]) (L' := [(4, .one (.arr 5 tI) [(0 : Int), (0 : Int), (0 : Int), (0 : Int), (0 : Int)]), (5, .one (.arr 5 tI) x203), (9, .one (.pair tI (.pair (.arr 5 tI) (.arr 5 tI))) v271)]) (obs := []) rfl (by kernel_rfl) allP0 ?_
            obtain ⟨r288, h289, h⟩ := bind_of h
            refine WO_call0 (us := [none, none]) (d := 24) (p := True) (j := 4) rfl ⟨by kernel_rfl, by kernel_rfl, by kernel_rfl⟩ trivial (ref_Bit_ok h289) (by kernel_rfl) ?_
            refine WO_fin [0, 1, 4, 5, 6, 7, 9, 15, 16, 17, 24] [4, 5, 9] (fr' := [(0, aD (.slice (.pair tI (.pair (.arr 5 tI) (.arr 5 tI)))) a0), (1, aI a1), (4, .one (.ptr 4 0)), (5, .one (.ptr 5 0)), (6, aI i202), (7, aI x269), (9, .one (.ptr 9 0)), (15, aD (.slice (.pair tI (.pair (.arr 5 tI) (.arr 5 tI)))) a0), (16, aI (List.length a0 : Int)), (17, aI i268), (24, aB r288)]) (L' := [(4, .one (.arr 5 tI) [(0 : Int), (0 : Int), (0 : Int), (0 : Int), (0 : Int)]), (5, .one (.arr 5 tI) x203), (9, .one (.pair tI (.pair (.arr 5 tI) (.arr 5 tI))) v271)]) (by kernel_rfl) (by kernel_rfl) ?_
            refine seqQ_norm ?_
            refine W_cond (o := .tmp 24) (b := r288) (by kernel_rfl) (by kernel_rfl) (fun h290 => ?_) (fun h290 => ?_)
            · replace h := ofT h290 h
              refine W_fz 9 (by kernel_rfl) ?_
              obtain ⟨v291, h292, h⟩ := bind_of h
              obtain rfl := Option.some.inj h
              refine W_run 5 [(5, .val (.dat tI v291))] [0, 1, 4, 5, 6, 7, 15, 16, 17] [4, 5] (fr' := [(0, aD (.slice (.pair tI (.pair (.arr 5 tI) (.arr 5 tI)))) a0), (1, aI a1), (4, .one (.ptr 4 0)), (5, .one (.ptr 5 0)), (6, aI i202), (7, aI v291), (15, aD (.slice (.pair tI (.pair (.arr 5 tI) (.arr 5 tI)))) a0), (16, aI (List.length a0 : Int)), (17, aI i268)]) (L' := [(4, .one (.arr 5 tI) [(0 : Int), (0 : Int), (0 : Int), (0 : Int), (0 : Int)]), (5, .one (.arr 5 tI) x203)]) (obs := [Idx v271.2.2 x269 v291]) (by kernel_rfl) (by kernel_rfl) (by kernel_rfl) (allP1 (Idx.of h292)) ?_
              refine blockQ_norm ?_
              exact exQ_mk (by kernel_rfl) (by kernel_rfl)
            · replace h := ofF h290 h
              refine W_fz 9 (by kernel_rfl) ?_
              obtain ⟨v293, h294, h⟩ := bind_of h
              obtain rfl := Option.some.inj h
              refine W_run 5 [(5, .val (.dat tI v293))] [0, 1, 4, 5, 6, 7, 15, 16, 17] [4, 5] (fr' := [(0, aD (.slice (.pair tI (.pair (.arr 5 tI) (.arr 5 tI)))) a0), (1, aI a1), (4, .one (.ptr 4 0)), (5, .one (.ptr 5 0)), (6, aI i202), (7, aI v293), (15, aD (.slice (.pair tI (.pair (.arr 5 tI) (.arr 5 tI)))) a0), (16, aI (List.length a0 : Int)), (17, aI i268)]) (L' := [(4, .one (.arr 5 tI) [(0 : Int), (0 : Int), (0 : Int), (0 : Int), (0 : Int)]), (5, .one (.arr 5 tI) x203)]) (obs := [Idx v271.2.1 x269 v293]) (by kernel_rfl) (by kernel_rfl) (by kernel_rfl) (allP1 (Idx.of h294)) ?_
              refine blockQ_norm ?_
              exact exQ_mk (by kernel_rfl) (by kernel_rfl)
          · intro e fr L hJ
            obtain ⟨rfl, rfl, rfl⟩ := hJ
            refine LT_keep [0, 1, 4, 5, 6, 7, 15, 16, 17] [4, 5] (fr' := [(0, aD (.slice (.pair tI (.pair (.arr 5 tI) (.arr 5 tI)))) a0), (1, aI a1), (4, .one (.ptr 4 0)), (5, .one (.ptr 5 0)), (6, aI i202), (7, aI v295), (15, aD (.slice (.pair tI (.pair (.arr 5 tI) (.arr 5 tI)))) a0), (16, aI (List.length a0 : Int)), (17, aI i268)]) (L' := [(4, .one (.arr 5 tI) [(0 : Int), (0 : Int), (0 : Int), (0 : Int), (0 : Int)]), (5, .one (.arr 5 tI) x203)]) (by kernel_rfl) ?_
            refine seqQ_norm ?_
            obtain rfl := Option.some.inj h
            refine W_run 2 [] [0, 1, 4, 5, 6, 7, 15, 16, 17] [4, 5] (fr' := [(0, aD (.slice (.pair tI (.pair (.arr 5 tI) (.arr 5 tI)))) a0), (1, aI a1), (4, .one (.ptr 4 0)), (5, .one (.ptr 5 0)), (6, aI i202), (7, aI v295), (15, aD (.slice (.pair tI (.pair (.arr 5 tI) (.arr 5 tI)))) a0), (16, aI (List.length a0 : Int)), (17, aI (w64 (i268 + (1 : Int))))]) (L' := [(4, .one (.arr 5 tI) [(0 : Int), (0 : Int), (0 : Int), (0 : Int), (0 : Int)]), (5, .one (.arr 5 tI) x203)]) (obs := []) (by kernel_rfl) (by kernel_rfl) (by kernel_rfl) allP0 ?_
            exact round_next' (by kernel_rfl) (by kernel_rfl)
        · obtain rfl := stepL_false h273 h
          refine W_exit (id := 2) [0, 1, 4, 5, 6, 7] [4, 5] (fr' := [(0, aD (.slice (.pair tI (.pair (.arr 5 tI) (.arr 5 tI)))) a0), (1, aI a1), (4, .one (.ptr 4 0)), (5, .one (.ptr 5 0)), (6, aI i202), (7, aI x269)]) (L' := [(4, .one (.arr 5 tI) [(0 : Int), (0 : Int), (0 : Int), (0 : Int), (0 : Int)]), (5, .one (.arr 5 tI) x203)]) (by kernel_rfl) (by kernel_rfl) ?_
          refine seqQ_exit ?_
          refine round_exit ?_
          exact exQ_mk (by kernel_rfl) (by kernel_rfl)
      · intro e fr L hJ
        obtain ⟨rfl, rfl, rfl⟩ := hJ
        refine LT_keep [0, 1, 4, 5, 6, 7] [4, 5] (fr' := [(0, aD (.slice (.pair tI (.pair (.arr 5 tI) (.arr 5 tI)))) a0), (1, aI a1), (4, .one (.ptr 4 0)), (5, .one (.ptr 5 0)), (6, aI i202), (7, aI v298)]) (L' := [(4, .one (.arr 5 tI) [(0 : Int), (0 : Int), (0 : Int), (0 : Int), (0 : Int)]), (5, .one (.arr 5 tI) x203)]) (by kernel_rfl) ?_
        refine blockQ_hit ?_
        refine seqQ_norm ?_
        obtain ⟨_, h303, h⟩ := bind_of h
        replace h303 := ck_some h303
        obtain ⟨v304, h305, h⟩ := bind_of h
        refine W_run 4 [] [0, 1, 4, 5, 6] [4, 5] (fr' := [(0, aD (.slice (.pair tI (.pair (.arr 5 tI) (.arr 5 tI)))) a0), (1, aI a1), (4, .one (.ptr 4 0)), (5, .one (.ptr 5 0)), (6, aI i202)]) (L' := [(4, .one (.arr 5 tI) [(0 : Int), (0 : Int), (0 : Int), (0 : Int), (0 : Int)]), (5, .one (.arr 5 tI) (List.set x203 (Int.toNat i202) v298))]) (obs := [InR i202 5, InR i202 (List.length x203)]) (by kernel_rfl) (by kernel_rfl) (by kernel_rfl) (allP2 h303 (allP1 (InR.of h305))) ?_
        refine blockQ_norm ?_
        refine seqQ_norm ?_
        obtain rfl := Option.some.inj h
        refine W_run 3 [] [0, 1, 4, 5, 6] [4, 5] (fr' := [(0, aD (.slice (.pair tI (.pair (.arr 5 tI) (.arr 5 tI)))) a0), (1, aI a1), (4, .one (.ptr 4 0)), (5, .one (.ptr 5 0)), (6, aI (w64 (i202 + (1 : Int))))]) (L' := [(4, .one (.arr 5 tI) [(0 : Int), (0 : Int), (0 : Int), (0 : Int), (0 : Int)]), (5, .one (.arr 5 tI) (List.set x203 (Int.toNat i202) v298))]) (obs := []) (by kernel_rfl) (by kernel_rfl) (by kernel_rfl) allP0 ?_
        exact round_next' (by kernel_rfl) (by kernel_rfl)
    · obtain rfl := stepI_false h205 h
      refine W_exit (id := 0) [4, 5] [4, 5] (fr' := [(4, .one (.ptr 4 0)), (5, .one (.ptr 5 0))]) (L' := [(4, .one (.arr 5 tI) [(0 : Int), (0 : Int), (0 : Int), (0 : Int), (0 : Int)]), (5, .one (.arr 5 tI) x203)]) (by kernel_rfl) (by kernel_rfl) ?_
      refine seqQ_exit ?_
      refine round_exit ?_
      exact exQ_mk (by kernel_rfl) (by kernel_rfl)
  · intro e fr L hJ
    obtain ⟨rfl, rfl, rfl⟩ := hJ
    refine LT_keep [4, 5] [4, 5] (fr' := [(4, .one (.ptr 4 0)), (5, .one (.ptr 5 0))]) (L' := [(4, .one (.arr 5 tI) [(0 : Int), (0 : Int), (0 : Int), (0 : Int), (0 : Int)]), (5, .one (.arr 5 tI) v307)]) (by kernel_rfl) ?_
    refine blockQ_hit ?_
    refine seqQ_norm ?_
    refine W_seq (by kernel_rfl) ?_
    refine W_run 2 [] [4] [4] (fr' := [(4, .one (.ptr 4 0))]) (L' := [(4, .one (.arr 5 tI) v307)]) (obs := [True]) (by kernel_rfl) (by kernel_rfl) (by kernel_rfl) (allP1 trivial) ?_
    refine seqQ_norm ?_
    obtain rfl := Option.some.inj h
    refine W_ret [4] [4] (fr' := [(4, .one (.ptr 4 0))]) (L' := [(4, .one (.arr 5 tI) v307)]) (by kernel_rfl) (by kernel_rfl) ?_
    exact retQ_mk (by kernel_rfl) (by kernel_rfl) (by kernel_rfl)

@[reducible] def law_WideRuns_s1 (v : Bool) : Fr × LL := ([(6, aB v)], [])
@[reducible] def law_WideRuns_s2 (a1 : (List (Int × ((List Int) × (List Int))))) (a2 : (List Bool)) (r1 : ((List Int) × Int)) (v : Int) : Fr × LL := ([(1, aD (.slice (.pair tI (.pair (.arr 5 tI) (.arr 5 tI)))) a1), (2, aD (.slice .bool) a2), (7, .one (.ptr 7 0)), (8, aI r1.2), (9, aI v)], [(7, .one (.arr 5 tI) r1.1)])
def law_WideRuns (a0 : Int) (a1 : (List (Int × ((List Int) × (List Int))))) (a2 : (List Bool)) : Option Bool :=
(wide_Run a0 a1 a2).bind fun r1 =>
(ref_WideCheck a0 a1).bind fun r3 =>
(bif (r3 == (0 : Int)) && ((List.length a2 : Int) != a0) then
(some (2 : Int))
else
(some r3)).bind fun v8 =>
bif v8 != (0 : Int) then
(some ((r1.2 == v8) && (deqT (.arr 5 tI) r1.1 [(0 : Int), (0 : Int), (0 : Int), (0 : Int), (0 : Int)])))
else
((bif r1.2 == (0 : Int) then
((ref_Word a2).bind fun r22 =>
(ref_Wide a1 r22).bind fun r24 =>
some (deqT (.arr 5 tI) r1.1 r24))
else
(some false)).bind fun v26 =>
some v26)
theorem law_WideRuns_ok {a0 : Int} {a1 : (List (Int × ((List Int) × (List Int))))} {a2 : (List Bool)} {r : Bool} (h : law_WideRuns a0 a1 a2 = some r) : FnC Try.prog 6 [aI a0, aD (.slice (.pair tI (.pair (.arr 5 tI) (.arr 5 tI)))) a1, aD (.slice .bool) a2] [] (aB r) [] := by
  refine fnC_of_W (B := bodyOf Try.f6) (n := 48) Try.func6 (by kernel_rfl) (by kernel_rfl) (by kernel_rfl) (by kernel_rfl) (by kernel_rfl) ?_
  intro K
  refine W_seq (by kernel_rfl) ?_
  refine W_run 1 [] [0, 1, 2] [] (fr' := [(0, aI a0), (1, aD (.slice (.pair tI (.pair (.arr 5 tI) (.arr 5 tI)))) a1), (2, aD (.slice .bool) a2)]) (L' := []) (obs := []) (by kernel_rfl) (by kernel_rfl) (by kernel_rfl) allP0 ?_
  refine seqQ_norm ?_
  refine W_seq (by kernel_rfl) ?_
  refine W_region (by kernel_rfl) ?_
  refine WO_run (j := 3) (k := 3) (orcs := []) (kF := [0, 1, 2, 11, 12, 13]) (kL := []) (fr' := [(0, aI a0), (1, aD (.slice (.pair tI (.pair (.arr 5 tI) (.arr 5 tI)))) a1), (2, aD (.slice .bool) a2), (11, aI a0), (12, aD (.slice (.pair tI (.pair (.arr 5 tI) (.arr 5 tI)))) a1), (13, aD (.slice .bool) a2)]) (L' := []) (obs := []) rfl (by kernel_rfl) allP0 ?_
  obtain ⟨r1, h2, h⟩ := bind_of h
  refine WO_call0 (us := [none, none, none]) (d := 14) (p := True) (j := 4) rfl ⟨by kernel_rfl, by kernel_rfl, by kernel_rfl⟩ trivial (wide_Run_ok h2) (by kernel_rfl) ?_
  refine WO_run (j := 10) (k := 6) (orcs := [(15, .typed)]) (kF := [0, 1, 2, 7, 8]) (kL := [7]) (fr' := [(0, aI a0), (1, aD (.slice (.pair tI (.pair (.arr 5 tI) (.arr 5 tI)))) a1), (2, aD (.slice .bool) a2), (7, .one (.ptr 7 0)), (8, aI r1.2)]) (L' := [(7, .one (.arr 5 tI) r1.1)]) (obs := [True]) rfl (by kernel_rfl) (allP1 trivial) ?_
  refine WO_fin [0, 1, 2, 7, 8] [7] (fr' := [(0, aI a0), (1, aD (.slice (.pair tI (.pair (.arr 5 tI) (.arr 5 tI)))) a1), (2, aD (.slice .bool) a2), (7, .one (.ptr 7 0)), (8, aI r1.2)]) (L' := [(7, .one (.arr 5 tI) r1.1)]) (by kernel_rfl) (by kernel_rfl) ?_
  refine seqQ_norm ?_
  refine W_seq (by kernel_rfl) ?_
  refine W_region (by kernel_rfl) ?_
  refine WO_run (j := 2) (k := 2) (orcs := []) (kF := [0, 1, 2, 7, 8, 17, 18]) (kL := [7]) (fr' := [(0, aI a0), (1, aD (.slice (.pair tI (.pair (.arr 5 tI) (.arr 5 tI)))) a1), (2, aD (.slice .bool) a2), (7, .one (.ptr 7 0)), (8, aI r1.2), (17, aI a0), (18, aD (.slice (.pair tI (.pair (.arr 5 tI) (.arr 5 tI)))) a1)]) (L' := [(7, .one (.arr 5 tI) r1.1)]) (obs := []) rfl (by kernel_rfl) allP0 ?_
  obtain ⟨r3, h4, h⟩ := bind_of h
  refine WO_call0 (us := [none, none]) (d := 19) (p := True) (j := 3) rfl ⟨by kernel_rfl, by kernel_rfl, by kernel_rfl⟩ trivial (ref_WideCheck_ok h4) (by kernel_rfl) ?_
  refine WO_run (j := 4) (k := 1) (orcs := []) (kF := [0, 1, 2, 7, 8, 9]) (kL := [7]) (fr' := [(0, aI a0), (1, aD (.slice (.pair tI (.pair (.arr 5 tI) (.arr 5 tI)))) a1), (2, aD (.slice .bool) a2), (7, .one (.ptr 7 0)), (8, aI r1.2), (9, aI r3)]) (L' := [(7, .one (.arr 5 tI) r1.1)]) (obs := []) rfl (by kernel_rfl) allP0 ?_
  refine WO_fin [0, 1, 2, 7, 8, 9] [7] (fr' := [(0, aI a0), (1, aD (.slice (.pair tI (.pair (.arr 5 tI) (.arr 5 tI)))) a1), (2, aD (.slice .bool) a2), (7, .one (.ptr 7 0)), (8, aI r1.2), (9, aI r3)]) (L' := [(7, .one (.arr 5 tI) r1.1)]) (by kernel_rfl) (by kernel_rfl) ?_
  refine seqQ_norm ?_
  refine W_seq (by kernel_rfl) ?_
  obtain ⟨v8, h9, h⟩ := bind_of h
  refine W_cutK (Q' := (exQ .normal (law_WideRuns_s2 a1 a2 r1)) v8) ?_ ?_
  · replace h := h9
    refine W_seq (by kernel_rfl) ?_
    refine W_run 8 [] [1, 2, 7, 8, 9, 27] [7] (fr' := [(1, aD (.slice (.pair tI (.pair (.arr 5 tI) (.arr 5 tI)))) a1), (2, aD (.slice .bool) a2), (7, .one (.ptr 7 0)), (8, aI r1.2), (9, aI r3), (27, aB ((r3 == (0 : Int)) && ((List.length a2 : Int) != a0)))]) (L' := [(7, .one (.arr 5 tI) r1.1)]) (obs := []) (by kernel_rfl) (by kernel_rfl) (by kernel_rfl) allP0 ?_
    refine seqQ_norm ?_
    refine W_cond (o := .tmp 27) (b := (r3 == (0 : Int)) && ((List.length a2 : Int) != a0)) (by kernel_rfl) (by kernel_rfl) (fun h7 => ?_) (fun h7 => ?_)
    · replace h := ofT h7 h
      obtain rfl := Option.some.inj h
      refine W_run 1 [] [1, 2, 7, 8, 9] [7] (fr' := [(1, aD (.slice (.pair tI (.pair (.arr 5 tI) (.arr 5 tI)))) a1), (2, aD (.slice .bool) a2), (7, .one (.ptr 7 0)), (8, aI r1.2), (9, aI (2 : Int))]) (L' := [(7, .one (.arr 5 tI) r1.1)]) (obs := []) (by kernel_rfl) (by kernel_rfl) (by kernel_rfl) allP0 ?_
      exact exQ_mk (by kernel_rfl) (by kernel_rfl)
    · replace h := ofF h7 h
      obtain rfl := Option.some.inj h
      refine W_skip [1, 2, 7, 8, 9] [7] (fr' := [(1, aD (.slice (.pair tI (.pair (.arr 5 tI) (.arr 5 tI)))) a1), (2, aD (.slice .bool) a2), (7, .one (.ptr 7 0)), (8, aI r1.2), (9, aI r3)]) (L' := [(7, .one (.arr 5 tI) r1.1)]) (by kernel_rfl) (by kernel_rfl) ?_
      exact exQ_mk (by kernel_rfl) (by kernel_rfl)
  · intro e fr L hJ
    obtain ⟨rfl, rfl, rfl⟩ := hJ
    refine LT_keep [1, 2, 7, 8, 9] [7] (fr' := [(1, aD (.slice (.pair tI (.pair (.arr 5 tI) (.arr 5 tI)))) a1), (2, aD (.slice .bool) a2), (7, .one (.ptr 7 0)), (8, aI r1.2), (9, aI v8)]) (L' := [(7, .one (.arr 5 tI) r1.1)]) (by kernel_rfl) ?_
    refine seqQ_norm ?_
    refine W_seq (by kernel_rfl) ?_
    refine W_seq (by kernel_rfl) ?_
    refine W_run 2 [] [1, 2, 7, 8, 9, 29] [7] (fr' := [(1, aD (.slice (.pair tI (.pair (.arr 5 tI) (.arr 5 tI)))) a1), (2, aD (.slice .bool) a2), (7, .one (.ptr 7 0)), (8, aI r1.2), (9, aI v8), (29, aB (v8 != (0 : Int)))]) (L' := [(7, .one (.arr 5 tI) r1.1)]) (obs := []) (by kernel_rfl) (by kernel_rfl) (by kernel_rfl) allP0 ?_
    refine seqQ_norm ?_
    refine W_cond (o := .tmp 29) (b := v8 != (0 : Int)) (by kernel_rfl) (by kernel_rfl) (fun h10 => ?_) (fun h10 => ?_)
    · replace h := ofT h10 h
      refine W_seq (by kernel_rfl) ?_
      refine W_run 9 [] [6] [] (fr' := [(6, aB ((r1.2 == v8) && (deqT (.arr 5 tI) r1.1 [(0 : Int), (0 : Int), (0 : Int), (0 : Int), (0 : Int)])))]) (L' := []) (obs := []) (by kernel_rfl) (by kernel_rfl) (by kernel_rfl) allP0 ?_
      refine seqQ_norm ?_
      obtain rfl := Option.some.inj h
      refine W_ret [6] [] (fr' := [(6, aB ((r1.2 == v8) && (deqT (.arr 5 tI) r1.1 [(0 : Int), (0 : Int), (0 : Int), (0 : Int), (0 : Int)])))]) (L' := []) (by kernel_rfl) (by kernel_rfl) ?_
      refine seqQ_ret ?_
      exact retQ_mk (by kernel_rfl) (by kernel_rfl) (by kernel_rfl)
    · replace h := ofF h10 h
      refine W_skip [1, 2, 7, 8] [7] (fr' := [(1, aD (.slice (.pair tI (.pair (.arr 5 tI) (.arr 5 tI)))) a1), (2, aD (.slice .bool) a2), (7, .one (.ptr 7 0)), (8, aI r1.2)]) (L' := [(7, .one (.arr 5 tI) r1.1)]) (by kernel_rfl) (by kernel_rfl) ?_
      refine seqQ_norm ?_
      refine W_seq (by kernel_rfl) ?_
      obtain ⟨v26, h27, h⟩ := bind_of h
      refine W_cutK (Q' := (exQ .normal law_WideRuns_s1) v26) ?_ ?_
      · replace h := h27
        rcases Bool.eq_false_or_eq_true (r1.2 == (0 : Int)) with h21 | h21
        · replace h := ofT h21 h
          obtain ⟨r22, h23, h⟩ := bind_of h
          obtain ⟨r24, h25, h⟩ := bind_of h
          obtain rfl := Option.some.inj h
          refine W_draw2 10 [(6, .known true), (8, .known true), (10, .known true), (16, .known true), (19, .val (.dat .bool true))] [(6, [none], aI r22), (7, [none, none], aD (.arr 5 tI) r24)] [6] [] (fr' := [(6, aB (deqT (.arr 5 tI) r1.1 r24))]) (L' := []) (out := [(38, aI r1.2), (39, aB (r1.2 == (0 : Int))), (40, aB (r1.2 == (0 : Int))), (41, aD (.arr 5 tI) r1.1), (42, aD (.slice (.pair tI (.pair (.arr 5 tI) (.arr 5 tI)))) a1), (43, aD (.slice .bool) a2), (44, aI r22), (45, aD (.arr 5 tI) r24), (46, aB (deqT (.arr 5 tI) r1.1 r24)), (47, aB (deqT (.arr 5 tI) r1.1 r24))]) (obs := [((r1.2 == (0 : Int)) = true), ((r1.2 == (0 : Int)) = true), ((r1.2 == (0 : Int)) = true), ((r1.2 == (0 : Int)) = true), ((r1.2 == (0 : Int)) = true), ((r1.2 == (0 : Int)) = true), ((r1.2 == (0 : Int)) = true)]) (obs2 := []) (calls := [(22, [aD (.slice .bool) a2], aI r22), (21, [aD (.slice (.pair tI (.pair (.arr 5 tI) (.arr 5 tI)))) a1, aI r22], aD (.arr 5 tI) r24)]) (by kernel_rfl) (by kernel_rfl) (by kernel_rfl) (by kernel_rfl) (allP2 h21 (allP2 h21 (allP2 h21 (allP2 h21 (allP2 h21 (allP2 h21 (allP1 h21))))))) (allC1 (by kernel_rfl) (ref_Word_ok h23) (by kernel_rfl) (allC1 (by kernel_rfl) (ref_Wide_ok h25) (by kernel_rfl) allC0)) (by kernel_rfl) allP0 ?_
          exact exQ_mk (by kernel_rfl) (by kernel_rfl)
        · replace h := ofF h21 h
          obtain rfl := Option.some.inj h
          refine W_draw2 10 [(6, .known false), (8, .known false), (10, .known false), (12, .known false), (14, .known false), (16, .known false), (19, .val (.dat .bool false))] [] [6] [] (fr' := [(6, aB false)]) (L' := []) (out := [(38, aI r1.2), (39, aB (r1.2 == (0 : Int))), (40, aB (r1.2 == (0 : Int))), (41, .tup []), (42, .tup []), (43, .tup []), (44, .tup []), (45, .tup []), (46, .tup []), (47, aB false)]) (obs := [((r1.2 == (0 : Int)) = false), ((r1.2 == (0 : Int)) = false), ((r1.2 == (0 : Int)) = false), ((r1.2 == (0 : Int)) = false), ((r1.2 == (0 : Int)) = false), ((r1.2 == (0 : Int)) = false), ((r1.2 == (0 : Int)) = false)]) (obs2 := []) (calls := []) (by kernel_rfl) (by kernel_rfl) (by kernel_rfl) (by kernel_rfl) (allP2 h21 (allP2 h21 (allP2 h21 (allP2 h21 (allP2 h21 (allP2 h21 (allP1 h21))))))) allC0 (by kernel_rfl) allP0 ?_
          exact exQ_mk (by kernel_rfl) (by kernel_rfl)
      · intro e fr L hJ
        obtain ⟨rfl, rfl, rfl⟩ := hJ
        refine LT_keep [6] [] (fr' := [(6, aB v26)]) (L' := []) (by kernel_rfl) ?_
        refine seqQ_norm ?_
        obtain rfl := Option.some.inj h
        refine W_ret [6] [] (fr' := [(6, aB v26)]) (L' := []) (by kernel_rfl) (by kernel_rfl) ?_
        exact retQ_mk (by kernel_rfl) (by kernel_rfl) (by kernel_rfl)
end Go.Proofs.Ythjdegeajfhakaa.wideRuns
