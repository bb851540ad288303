/- What the functions that WideOrders calls compute, as models, and that they compute it: written by a program of mine. -/
import Derived.Test.YtmemlgpcmefpfaaProg
import Derived.Test.YtmemlgpcmefpfaaSl3
set_option linter.all false
set_option maxRecDepth 100000
namespace Go.Proofs.Ytmemlgpcmefpfaa.wideOrders
open Go Go.Sl
def wide_is_g5 (x46 : (List Bool)) (v49 : Int) : Option Bool :=
bif (decide (v49 < (0 : Int))) || (decide (v49 > (4 : Int))) then
(some true)
else
((ck (0 ≤ v49 ∧ v49 < 5)).bind fun _ =>
(idx x46 v49).bind fun v61 =>
some v61)
@[reducible] def wide_is_s6 (a0 : (List Int)) (i45 : Int) (x46 : (List Bool)) (v49 : Int) (v : Bool) : Fr × LL := ([(3, .one (.ptr 3 0)), (5, aI v49), (6, aD (.arr 5 tI) a0), (7, aI i45), (20, aB v)], [(3, .one (.arr 5 .bool) x46)])
def wide_is_b7 (a0 : (List Int)) (i45 : Int) (x46 : (List Bool)) : Option (Flow (List Bool) (Esc Bool Unit)) :=
(idx a0 i45).bind fun v49 =>
(wide_is_g5 x46 v49).bind fun v63 =>
bif v63 then
(some (.done (.ret false)))
else
((ck (0 ≤ v49 ∧ v49 < 5)).bind fun _ =>
(idx x46 v49).bind fun v67 =>
some (.next (List.set x46 (Int.toNat v49) true)))
@[reducible] def wide_is_s8 (a0 : (List Int)) (v : Int × (List Bool)) : Fr × LL := ([(3, .one (.ptr 3 0)), (6, aD (.arr 5 tI) a0), (7, aI v.1)], [(3, .one (.arr 5 .bool) v.2)])
@[reducible] def wide_is_s9 (v : Bool) : Fr × LL := ([(2, aB v)], [])
@[reducible] def wide_is_s10 (v : Unit) : Fr × LL := ([], [])
def wide_is (a0 : (List Int)) : Option Bool :=
(forI (0 : Int) (5 : Int) (wide_is_b7 a0) (fun x46 => (.brk ())) [false, false, false, false, false]).bind fun v70 =>
match v70 with
| .ret v74 =>
(some v74)
| .brk v75 =>
(some true)
theorem wide_is_ok {a0 : (List Int)} {r : Bool} (h : wide_is a0 = some r) : FnC Try.prog 42 [aD (.arr 5 tI) a0] [] (aB r) [] := by
  refine fnC_of_W (B := bodyOf Try.f42) (n := 24) Try.func42 (by kernel_rfl) (by kernel_rfl) (by kernel_rfl) (by kernel_rfl) (by kernel_rfl) ?_
  intro K
  refine W_seq (by kernel_rfl) ?_
  refine W_run 2 [] [1] [1] (fr' := [(1, .one (.ptr 1 0))]) (L' := [(1, .one (.arr 5 tI) a0)]) (obs := []) (by kernel_rfl) (by kernel_rfl) (by kernel_rfl) allP0 ?_
  refine seqQ_norm ?_
  refine W_seq (by kernel_rfl) ?_
  refine W_run 1 [(1, .typed)] [1, 3] [1, 3] (fr' := [(1, .one (.ptr 1 0)), (3, .one (.ptr 3 0))]) (L' := [(1, .one (.arr 5 tI) a0), (3, .one (.arr 5 .bool) [false, false, false, false, false])]) (obs := []) (by kernel_rfl) (by kernel_rfl) (by kernel_rfl) allP0 ?_
  refine seqQ_norm ?_
  refine W_seq (by kernel_rfl) ?_
  refine W_seq (by kernel_rfl) ?_
  refine W_run 2 [] [3, 6, 7] [3] (fr' := [(3, .one (.ptr 3 0)), (6, aD (.arr 5 tI) a0), (7, aI (0 : Int))]) (L' := [(3, .one (.arr 5 .bool) [false, false, false, false, false])]) (obs := []) (by kernel_rfl) (by kernel_rfl) (by kernel_rfl) allP0 ?_
  refine seqQ_norm ?_
  refine W_block (id := 0) (by kernel_rfl) ?_
  obtain ⟨v70, h71, h⟩ := bind_of h
  obtain ⟨h72, h73⟩ := forI_iter h71
  refine W_weaken [3, 6, 7] [3] (fr' := ((wide_is_s8 a0) ((0 : Int), [false, false, false, false, false])).1) (L' := ((wide_is_s8 a0) ((0 : Int), [false, false, false, false, false])).2) (by kernel_rfl) ?_
  refine W_cutK (W_loop (S := (wide_is_s8 a0)) (J := (escQ (exQ .ret wide_is_s9) (exQ (.exit 0) wide_is_s10))) (by kernel_rfl) ?_ h72 _ v70 h73) ?_
  · rintro ⟨i45, x46⟩ s h
    refine W_seq (by kernel_rfl) ?_
    refine W_run 1 [] [3, 6, 7, 8] [3] (fr' := [(3, .one (.ptr 3 0)), (6, aD (.arr 5 tI) a0), (7, aI i45), (8, aB (decide (i45 < (5 : Int))))]) (L' := [(3, .one (.arr 5 .bool) x46)]) (obs := []) (by kernel_rfl) (by kernel_rfl) (by kernel_rfl) allP0 ?_
    refine seqQ_norm ?_
    refine W_seq (by kernel_rfl) ?_
    refine W_cond (o := .tmp 8) (b := decide (i45 < (5 : Int))) (by kernel_rfl) (by kernel_rfl) (fun h48 => ?_) (fun h48 => ?_)
    · replace h := stepI_true h48 h
      obtain ⟨_, h, rfl⟩ := h
      refine W_skip [3, 6, 7] [3] (fr' := [(3, .one (.ptr 3 0)), (6, aD (.arr 5 tI) a0), (7, aI i45)]) (L' := [(3, .one (.arr 5 .bool) x46)]) (by kernel_rfl) (by kernel_rfl) ?_
      refine seqQ_norm ?_
      refine W_seq (by kernel_rfl) ?_
      refine W_block (id := 1) (by kernel_rfl) ?_
      refine W_seq (by kernel_rfl) ?_
      obtain ⟨v49, h50, h⟩ := bind_of h
      refine W_run 2 [(1, .val (.dat tI v49))] [3, 5, 6, 7] [3] (fr' := [(3, .one (.ptr 3 0)), (5, aI v49), (6, aD (.arr 5 tI) a0), (7, aI i45)]) (L' := [(3, .one (.arr 5 .bool) x46)]) (obs := [Idx a0 i45 v49]) (by kernel_rfl) (by kernel_rfl) (by kernel_rfl) (allP1 (Idx.of h50)) ?_
      refine seqQ_norm ?_
      refine W_seq (by kernel_rfl) ?_
      refine W_seq (by kernel_rfl) ?_
      obtain ⟨v63, h64, h⟩ := bind_of h
      refine W_cutK (Q' := (exQ .normal (wide_is_s6 a0 i45 x46 v49)) v63) ?_ ?_
      · replace h := h64
        refine W_region (by kernel_rfl) ?_
        refine WO_run (j := 7) (k := 7) (orcs := []) (kF := [3, 5, 6, 7, 16]) (kL := [3]) (fr' := [(3, .one (.ptr 3 0)), (5, aI v49), (6, aD (.arr 5 tI) a0), (7, aI i45), (16, aB ((decide (v49 < (0 : Int))) || (decide (v49 > (4 : Int)))))]) (L' := [(3, .one (.arr 5 .bool) x46)]) (obs := []) rfl (by kernel_rfl) allP0 ?_
        rcases Bool.eq_false_or_eq_true ((decide (v49 < (0 : Int))) || (decide (v49 > (4 : Int)))) with h59 | h59
        · replace h := ofT h59 h
          refine WO_run (j := 11) (k := 4) (orcs := [(14, .known true), (16, .known true), (18, .known true), (21, .val (.dat .bool true))]) (kF := [3, 5, 6, 7, 20]) (kL := [3]) (fr' := [(3, .one (.ptr 3 0)), (5, aI v49), (6, aD (.arr 5 tI) a0), (7, aI i45), (20, aB true)]) (L' := [(3, .one (.arr 5 .bool) x46)]) (obs := [(((decide (v49 < (0 : Int))) || (decide (v49 > (4 : Int)))) = true), (((decide (v49 < (0 : Int))) || (decide (v49 > (4 : Int)))) = true), (((decide (v49 < (0 : Int))) || (decide (v49 > (4 : Int)))) = true), (((decide (v49 < (0 : Int))) || (decide (v49 > (4 : Int)))) = true)]) rfl (by kernel_rfl) (allP2 h59 (allP2 h59 (allP2 h59 (allP1 h59)))) ?_
          obtain rfl := Option.some.inj h
          refine WO_fin [3, 5, 6, 7, 20] [3] (fr' := [(3, .one (.ptr 3 0)), (5, aI v49), (6, aD (.arr 5 tI) a0), (7, aI i45), (20, aB true)]) (L' := [(3, .one (.arr 5 .bool) x46)]) (by kernel_rfl) (by kernel_rfl) ?_
          exact exQ_mk (by kernel_rfl) (by kernel_rfl)
        · replace h := ofF h59 h
          obtain ⟨_, h60, h⟩ := bind_of h
          replace h60 := ck_some h60
          obtain ⟨v61, h62, h⟩ := bind_of h
          refine WO_run (j := 11) (k := 4) (orcs := [(14, .known false), (16, .known false), (18, .known false), (19, .val (.dat .bool v61)), (21, .val (.dat .bool false))]) (kF := [3, 5, 6, 7, 20]) (kL := [3]) (fr' := [(3, .one (.ptr 3 0)), (5, aI v49), (6, aD (.arr 5 tI) a0), (7, aI i45), (20, aB v61)]) (L' := [(3, .one (.arr 5 .bool) x46)]) (obs := [(((decide (v49 < (0 : Int))) || (decide (v49 > (4 : Int)))) = false), (((decide (v49 < (0 : Int))) || (decide (v49 > (4 : Int)))) = false), InR v49 5, (((decide (v49 < (0 : Int))) || (decide (v49 > (4 : Int)))) = false), Idx x46 v49 v61, (((decide (v49 < (0 : Int))) || (decide (v49 > (4 : Int)))) = false)]) rfl (by kernel_rfl) (allP2 h59 (allP2 h59 (allP2 h60 (allP2 h59 (allP2 (Idx.of h62) (allP1 h59)))))) ?_
          obtain rfl := Option.some.inj h
          refine WO_fin [3, 5, 6, 7, 20] [3] (fr' := [(3, .one (.ptr 3 0)), (5, aI v49), (6, aD (.arr 5 tI) a0), (7, aI i45), (20, aB v61)]) (L' := [(3, .one (.arr 5 .bool) x46)]) (by kernel_rfl) (by kernel_rfl) ?_
          exact exQ_mk (by kernel_rfl) (by kernel_rfl)
      · intro e fr L hJ
        obtain ⟨rfl, rfl, rfl⟩ := hJ
        refine LT_keep [3, 5, 6, 7, 20] [3] (fr' := [(3, .one (.ptr 3 0)), (5, aI v49), (6, aD (.arr 5 tI) a0), (7, aI i45), (20, aB v63)]) (L' := [(3, .one (.arr 5 .bool) x46)]) (by kernel_rfl) ?_
        refine seqQ_norm ?_
        refine W_cond (o := .tmp 20) (b := v63) (by kernel_rfl) (by kernel_rfl) (fun h65 => ?_) (fun h65 => ?_)
        · replace h := ofT h65 h
          refine W_seq (by kernel_rfl) ?_
          refine W_run 1 [] [2] [] (fr' := [(2, aB false)]) (L' := []) (obs := []) (by kernel_rfl) (by kernel_rfl) (by kernel_rfl) allP0 ?_
          refine seqQ_norm ?_
          obtain rfl := Option.some.inj h
          refine W_ret [2] [] (fr' := [(2, aB false)]) (L' := []) (by kernel_rfl) (by kernel_rfl) ?_
          refine seqQ_ret ?_
          refine blockQ_ret ?_
          refine seqQ_ret ?_
          refine round_ret ?_
          refine escQ_ret ?_
          exact exQ_mk (by kernel_rfl) (by kernel_rfl)
        · replace h := ofF h65 h
          refine W_skip [3, 5, 6, 7] [3] (fr' := [(3, .one (.ptr 3 0)), (5, aI v49), (6, aD (.arr 5 tI) a0), (7, aI i45)]) (L' := [(3, .one (.arr 5 .bool) x46)]) (by kernel_rfl) (by kernel_rfl) ?_
          refine seqQ_norm ?_
          obtain ⟨_, h66, h⟩ := bind_of h
          replace h66 := ck_some h66
          obtain ⟨v67, h68, h⟩ := bind_of h
          refine W_run 3 [] [3, 6, 7] [3] (fr' := [(3, .one (.ptr 3 0)), (6, aD (.arr 5 tI) a0), (7, aI i45)]) (L' := [(3, .one (.arr 5 .bool) (List.set x46 (Int.toNat v49) true))]) (obs := [InR v49 5, InR v49 (List.length x46)]) (by kernel_rfl) (by kernel_rfl) (by kernel_rfl) (allP2 h66 (allP1 (InR.of h68))) ?_
          refine blockQ_norm ?_
          refine seqQ_norm ?_
          obtain rfl := Option.some.inj h
          refine W_run 2 [] [3, 6, 7] [3] (fr' := [(3, .one (.ptr 3 0)), (6, aD (.arr 5 tI) a0), (7, aI (w64 (i45 + (1 : Int))))]) (L' := [(3, .one (.arr 5 .bool) (List.set x46 (Int.toNat v49) true))]) (obs := []) (by kernel_rfl) (by kernel_rfl) (by kernel_rfl) allP0 ?_
          exact round_next' (by kernel_rfl) (by kernel_rfl)
    · obtain rfl := stepI_false h48 h
      refine W_exit (id := 0) [] [] (fr' := []) (L' := []) (by kernel_rfl) (by kernel_rfl) ?_
      refine seqQ_exit ?_
      refine round_exit ?_
      refine escQ_brk ?_
      exact exQ_mk (by kernel_rfl) (by kernel_rfl)
  · intro e fr L hJ
    rcases v70 with v74 | v75
    · obtain ⟨rfl, rfl, rfl⟩ := hJ
      obtain rfl := Option.some.inj h
      refine LT_keep [2] [] (fr' := [(2, aB v74)]) (L' := []) (by kernel_rfl) ?_
      refine blockQ_ret ?_
      refine seqQ_ret ?_
      exact retQ_mk (by kernel_rfl) (by kernel_rfl) (by kernel_rfl)
    · obtain ⟨rfl, rfl, rfl⟩ := hJ
      refine LT_keep [] [] (fr' := []) (L' := []) (by kernel_rfl) ?_
      refine blockQ_hit ?_
      refine seqQ_norm ?_
      refine W_seq (by kernel_rfl) ?_
      refine W_run 1 [] [2] [] (fr' := [(2, aB true)]) (L' := []) (obs := []) (by kernel_rfl) (by kernel_rfl) (by kernel_rfl) allP0 ?_
      refine seqQ_norm ?_
      obtain rfl := Option.some.inj h
      refine W_ret [2] [] (fr' := [(2, aB true)]) (L' := []) (by kernel_rfl) (by kernel_rfl) ?_
      exact retQ_mk (by kernel_rfl) (by kernel_rfl) (by kernel_rfl)

def wide_then_b1 (a0 : (List Int)) (a1 : (List Int)) (i18 : Int) (x19 : (List Int)) : Option (Flow (List Int) (List Int)) :=
(idx a0 i18).bind fun v22 =>
(ck (0 ≤ v22 ∧ v22 < 5)).bind fun _ =>
(idx a1 v22).bind fun v25 =>
(ck (0 ≤ i18 ∧ i18 < 5)).bind fun _ =>
(idx x19 i18).bind fun v28 =>
some (.next (List.set x19 (Int.toNat i18) v25))
@[reducible] def wide_then_s2 (a0 : (List Int)) (a1 : (List Int)) (v : Int × (List Int)) : Fr × LL := ([(3, .one (.ptr 3 0)), (4, .one (.ptr 4 0)), (5, .one (.ptr 5 0)), (8, aD (.arr 5 tI) a0), (9, aI v.1)], [(3, .one (.arr 5 tI) a1), (4, .one (.arr 5 tI) [(0 : Int), (0 : Int), (0 : Int), (0 : Int), (0 : Int)]), (5, .one (.arr 5 tI) v.2)])
@[reducible] def wide_then_s3 (v : (List Int)) : Fr × LL := ([(4, .one (.ptr 4 0)), (5, .one (.ptr 5 0))], [(4, .one (.arr 5 tI) [(0 : Int), (0 : Int), (0 : Int), (0 : Int), (0 : Int)]), (5, .one (.arr 5 tI) v)])
def wide_then (a0 : (List Int)) (a1 : (List Int)) : Option (List Int) :=
(forI (0 : Int) (5 : Int) (wide_then_b1 a0 a1) (fun x19 => x19) [(0 : Int), (0 : Int), (0 : Int), (0 : Int), (0 : Int)]).bind fun v31 =>
some v31
theorem wide_then_ok {a0 : (List Int)} {a1 : (List Int)} {r : (List Int)} (h : wide_then a0 a1 = some r) : FnC Try.prog 43 [aD (.arr 5 tI) a0, aD (.arr 5 tI) a1] [] (aD (.arr 5 tI) r) [] := by
  refine fnC_of_W (B := bodyOf Try.f43) (n := 20) Try.func43 (by kernel_rfl) (by kernel_rfl) (by kernel_rfl) (by kernel_rfl) (by kernel_rfl) ?_
  intro K
  refine W_seq (by kernel_rfl) ?_
  refine W_run 3 [(5, .typed)] [2, 3, 4] [2, 3, 4] (fr' := [(2, .one (.ptr 2 0)), (3, .one (.ptr 3 0)), (4, .one (.ptr 4 0))]) (L' := [(2, .one (.arr 5 tI) a0), (3, .one (.arr 5 tI) a1), (4, .one (.arr 5 tI) [(0 : Int), (0 : Int), (0 : Int), (0 : Int), (0 : Int)])]) (obs := []) (by kernel_rfl) (by kernel_rfl) (by kernel_rfl) allP0 ?_
  refine seqQ_norm ?_
  refine W_seq (by kernel_rfl) ?_
  refine W_run 1 [(1, .typed)] [2, 3, 4, 5] [2, 3, 4, 5] (fr' := [(2, .one (.ptr 2 0)), (3, .one (.ptr 3 0)), (4, .one (.ptr 4 0)), (5, .one (.ptr 5 0))]) (L' := [(2, .one (.arr 5 tI) a0), (3, .one (.arr 5 tI) a1), (4, .one (.arr 5 tI) [(0 : Int), (0 : Int), (0 : Int), (0 : Int), (0 : Int)]), (5, .one (.arr 5 tI) [(0 : Int), (0 : Int), (0 : Int), (0 : Int), (0 : Int)])]) (obs := []) (by kernel_rfl) (by kernel_rfl) (by kernel_rfl) allP0 ?_
  refine seqQ_norm ?_
  refine W_seq (by kernel_rfl) ?_
  refine W_seq (by kernel_rfl) ?_
  refine W_run 2 [] [3, 4, 5, 8, 9] [3, 4, 5] (fr' := [(3, .one (.ptr 3 0)), (4, .one (.ptr 4 0)), (5, .one (.ptr 5 0)), (8, aD (.arr 5 tI) a0), (9, aI (0 : Int))]) (L' := [(3, .one (.arr 5 tI) a1), (4, .one (.arr 5 tI) [(0 : Int), (0 : Int), (0 : Int), (0 : Int), (0 : Int)]), (5, .one (.arr 5 tI) [(0 : Int), (0 : Int), (0 : Int), (0 : Int), (0 : Int)])]) (obs := []) (by kernel_rfl) (by kernel_rfl) (by kernel_rfl) allP0 ?_
  refine seqQ_norm ?_
  refine W_block (id := 0) (by kernel_rfl) ?_
  obtain ⟨v31, h32, h⟩ := bind_of h
  obtain ⟨h33, h34⟩ := forI_iter h32
  refine W_weaken [3, 4, 5, 8, 9] [3, 4, 5] (fr' := ((wide_then_s2 a0 a1) ((0 : Int), [(0 : Int), (0 : Int), (0 : Int), (0 : Int), (0 : Int)])).1) (L' := ((wide_then_s2 a0 a1) ((0 : Int), [(0 : Int), (0 : Int), (0 : Int), (0 : Int), (0 : Int)])).2) (by kernel_rfl) ?_
  refine W_cutK (W_loop (S := (wide_then_s2 a0 a1)) (J := (exQ (.exit 0) wide_then_s3)) (by kernel_rfl) ?_ h33 _ v31 h34) ?_
  · rintro ⟨i18, x19⟩ s h
    refine W_seq (by kernel_rfl) ?_
    refine W_run 1 [] [3, 4, 5, 8, 9, 10] [3, 4, 5] (fr' := [(3, .one (.ptr 3 0)), (4, .one (.ptr 4 0)), (5, .one (.ptr 5 0)), (8, aD (.arr 5 tI) a0), (9, aI i18), (10, aB (decide (i18 < (5 : Int))))]) (L' := [(3, .one (.arr 5 tI) a1), (4, .one (.arr 5 tI) [(0 : Int), (0 : Int), (0 : Int), (0 : Int), (0 : Int)]), (5, .one (.arr 5 tI) x19)]) (obs := []) (by kernel_rfl) (by kernel_rfl) (by kernel_rfl) allP0 ?_
    refine seqQ_norm ?_
    refine W_seq (by kernel_rfl) ?_
    refine W_cond (o := .tmp 10) (b := decide (i18 < (5 : Int))) (by kernel_rfl) (by kernel_rfl) (fun h21 => ?_) (fun h21 => ?_)
    · replace h := stepI_true h21 h
      obtain ⟨_, h, rfl⟩ := h
      refine W_skip [3, 4, 5, 8, 9] [3, 4, 5] (fr' := [(3, .one (.ptr 3 0)), (4, .one (.ptr 4 0)), (5, .one (.ptr 5 0)), (8, aD (.arr 5 tI) a0), (9, aI i18)]) (L' := [(3, .one (.arr 5 tI) a1), (4, .one (.arr 5 tI) [(0 : Int), (0 : Int), (0 : Int), (0 : Int), (0 : Int)]), (5, .one (.arr 5 tI) x19)]) (by kernel_rfl) (by kernel_rfl) ?_
      refine seqQ_norm ?_
      refine W_seq (by kernel_rfl) ?_
      refine W_block (id := 1) (by kernel_rfl) ?_
      refine W_seq (by kernel_rfl) ?_
      obtain ⟨v22, h23, h⟩ := bind_of h
      refine W_run 4 [(3, .val (.dat tI v22))] [3, 4, 5, 6, 7, 8, 9] [3, 4, 5] (fr' := [(3, .one (.ptr 3 0)), (4, .one (.ptr 4 0)), (5, .one (.ptr 5 0)), (6, aI i18), (7, aI v22), (8, aD (.arr 5 tI) a0), (9, aI i18)]) (L' := [(3, .one (.arr 5 tI) a1), (4, .one (.arr 5 tI) [(0 : Int), (0 : Int), (0 : Int), (0 : Int), (0 : Int)]), (5, .one (.arr 5 tI) x19)]) (obs := [Idx a0 i18 v22]) (by kernel_rfl) (by kernel_rfl) (by kernel_rfl) (allP1 (Idx.of h23)) ?_
      refine seqQ_norm ?_
      obtain ⟨_, h24, h⟩ := bind_of h
      replace h24 := ck_some h24
      obtain ⟨v25, h26, h⟩ := bind_of h
      obtain ⟨_, h27, h⟩ := bind_of h
      replace h27 := ck_some h27
      obtain ⟨v28, h29, h⟩ := bind_of h
      refine W_run 6 [(7, .val (.dat tI v25))] [3, 4, 5, 8, 9] [3, 4, 5] (fr' := [(3, .one (.ptr 3 0)), (4, .one (.ptr 4 0)), (5, .one (.ptr 5 0)), (8, aD (.arr 5 tI) a0), (9, aI i18)]) (L' := [(3, .one (.arr 5 tI) a1), (4, .one (.arr 5 tI) [(0 : Int), (0 : Int), (0 : Int), (0 : Int), (0 : Int)]), (5, .one (.arr 5 tI) (List.set x19 (Int.toNat i18) v25))]) (obs := [InR v22 5, Idx a1 v22 v25, InR i18 5, InR i18 (List.length x19)]) (by kernel_rfl) (by kernel_rfl) (by kernel_rfl) (allP2 h24 (allP2 (Idx.of h26) (allP2 h27 (allP1 (InR.of h29))))) ?_
      refine blockQ_norm ?_
      refine seqQ_norm ?_
      obtain rfl := Option.some.inj h
      refine W_run 2 [] [3, 4, 5, 8, 9] [3, 4, 5] (fr' := [(3, .one (.ptr 3 0)), (4, .one (.ptr 4 0)), (5, .one (.ptr 5 0)), (8, aD (.arr 5 tI) a0), (9, aI (w64 (i18 + (1 : Int))))]) (L' := [(3, .one (.arr 5 tI) a1), (4, .one (.arr 5 tI) [(0 : Int), (0 : Int), (0 : Int), (0 : Int), (0 : Int)]), (5, .one (.arr 5 tI) (List.set x19 (Int.toNat i18) v25))]) (obs := []) (by kernel_rfl) (by kernel_rfl) (by kernel_rfl) allP0 ?_
      exact round_next' (by kernel_rfl) (by kernel_rfl)
    · obtain rfl := stepI_false h21 h
      refine W_exit (id := 0) [4, 5] [4, 5] (fr' := [(4, .one (.ptr 4 0)), (5, .one (.ptr 5 0))]) (L' := [(4, .one (.arr 5 tI) [(0 : Int), (0 : Int), (0 : Int), (0 : Int), (0 : Int)]), (5, .one (.arr 5 tI) x19)]) (by kernel_rfl) (by kernel_rfl) ?_
      refine seqQ_exit ?_
      refine round_exit ?_
      exact exQ_mk (by kernel_rfl) (by kernel_rfl)
  · intro e fr L hJ
    obtain ⟨rfl, rfl, rfl⟩ := hJ
    refine LT_keep [4, 5] [4, 5] (fr' := [(4, .one (.ptr 4 0)), (5, .one (.ptr 5 0))]) (L' := [(4, .one (.arr 5 tI) [(0 : Int), (0 : Int), (0 : Int), (0 : Int), (0 : Int)]), (5, .one (.arr 5 tI) v31)]) (by kernel_rfl) ?_
    refine blockQ_hit ?_
    refine seqQ_norm ?_
    refine W_seq (by kernel_rfl) ?_
    refine W_run 2 [] [4] [4] (fr' := [(4, .one (.ptr 4 0))]) (L' := [(4, .one (.arr 5 tI) v31)]) (obs := [True]) (by kernel_rfl) (by kernel_rfl) (by kernel_rfl) (allP1 trivial) ?_
    refine seqQ_norm ?_
    obtain rfl := Option.some.inj h
    refine W_ret [4] [4] (fr' := [(4, .one (.ptr 4 0))]) (L' := [(4, .one (.arr 5 tI) v31)]) (by kernel_rfl) (by kernel_rfl) ?_
    exact retQ_mk (by kernel_rfl) (by kernel_rfl) (by kernel_rfl)

def wide_Order_b1 (a0 : (List Int)) (x8 : (Int × (List Int))) : Option (Flow (Int × (List Int)) Int) :=
bif !(deqT (.arr 5 tI) x8.2 [(0 : Int), (1 : Int), (2 : Int), (3 : Int), (4 : Int)]) then
((wide_then x8.2 a0).bind fun r13 =>
some (.next (w64 (x8.1 + (1 : Int)), r13)))
else
(some (.done x8.1))
@[reducible] def wide_Order_s2 (a0 : (List Int)) (v : (Int × (List Int))) : Fr × LL := ([(1, .one (.ptr 1 0)), (4, aI v.1), (5, .one (.ptr 5 0))], [(1, .one (.arr 5 tI) a0), (5, .one (.arr 5 tI) v.2)])
@[reducible] def wide_Order_s3 (v : Int) : Fr × LL := ([(4, aI v)], [])
def wide_Order (fuel : Nat) (a0 : (List Int)) : Option (Int × Int) :=
(wide_is a0).bind fun r1 =>
bif !r1 then
(some ((0 : Int), (3 : Int)))
else
((iter (wide_Order_b1 a0) fuel ((1 : Int), a0)).bind fun v15 =>
some (v15, (0 : Int)))
theorem wide_Order_ok {fuel : Nat} {a0 : (List Int)} {r : (Int × Int)} (h : wide_Order fuel a0 = some r) : FnC Try.prog 27 [aD (.arr 5 tI) a0] [] (.tup [.dat tI r.1, .dat tI r.2]) [] := by
  refine fnC_of_W (B := bodyOf Try.f27) (n := 20) Try.func27 (by kernel_rfl) (by kernel_rfl) (by kernel_rfl) (by kernel_rfl) (by kernel_rfl) ?_
  intro K
  refine W_seq (by kernel_rfl) ?_
  refine W_run 3 [] [1] [1] (fr' := [(1, .one (.ptr 1 0))]) (L' := [(1, .one (.arr 5 tI) a0)]) (obs := []) (by kernel_rfl) (by kernel_rfl) (by kernel_rfl) allP0 ?_
  refine seqQ_norm ?_
  refine W_seq (by kernel_rfl) ?_
  refine W_seq (by kernel_rfl) ?_
  refine W_region (by kernel_rfl) ?_
  refine WO_run (j := 1) (k := 1) (orcs := []) (kF := [1, 6]) (kL := [1]) (fr' := [(1, .one (.ptr 1 0)), (6, aD (.arr 5 tI) a0)]) (L' := [(1, .one (.arr 5 tI) a0)]) (obs := []) rfl (by kernel_rfl) allP0 ?_
  obtain ⟨r1, h2, h⟩ := bind_of h
  refine WO_call0 (us := [none]) (d := 7) (p := True) (j := 2) rfl ⟨by kernel_rfl, by kernel_rfl, by kernel_rfl⟩ trivial (wide_is_ok h2) (by kernel_rfl) ?_
  refine WO_run (j := 3) (k := 1) (orcs := []) (kF := [1, 8]) (kL := [1]) (fr' := [(1, .one (.ptr 1 0)), (8, aB (!r1))]) (L' := [(1, .one (.arr 5 tI) a0)]) (obs := []) rfl (by kernel_rfl) allP0 ?_
  refine WO_fin [1, 8] [1] (fr' := [(1, .one (.ptr 1 0)), (8, aB (!r1))]) (L' := [(1, .one (.arr 5 tI) a0)]) (by kernel_rfl) (by kernel_rfl) ?_
  refine seqQ_norm ?_
  refine W_cond (o := .tmp 8) (b := !r1) (by kernel_rfl) (by kernel_rfl) (fun h3 => ?_) (fun h3 => ?_)
  · replace h := ofT h3 h
    refine W_seq (by kernel_rfl) ?_
    refine W_run 2 [] [2, 3] [] (fr' := [(2, aI (0 : Int)), (3, aI (3 : Int))]) (L' := []) (obs := []) (by kernel_rfl) (by kernel_rfl) (by kernel_rfl) allP0 ?_
    refine seqQ_norm ?_
    obtain rfl := Option.some.inj h
    refine W_ret [2, 3] [] (fr' := [(2, aI (0 : Int)), (3, aI (3 : Int))]) (L' := []) (by kernel_rfl) (by kernel_rfl) ?_
    refine seqQ_ret ?_
    exact retQ_mk (by kernel_rfl) (by kernel_rfl) (by kernel_rfl)
  · replace h := ofF h3 h
    refine W_skip [1] [1] (fr' := [(1, .one (.ptr 1 0))]) (L' := [(1, .one (.arr 5 tI) a0)]) (by kernel_rfl) (by kernel_rfl) ?_
    refine seqQ_norm ?_
    refine W_seq (by kernel_rfl) ?_
    refine W_run 1 [] [1, 4] [1] (fr' := [(1, .one (.ptr 1 0)), (4, aI (1 : Int))]) (L' := [(1, .one (.arr 5 tI) a0)]) (obs := []) (by kernel_rfl) (by kernel_rfl) (by kernel_rfl) allP0 ?_
    refine seqQ_norm ?_
    refine W_seq (by kernel_rfl) ?_
    refine W_seq (by kernel_rfl) ?_
    refine W_run 3 [(3, .typed)] [1, 4, 5] [1, 5] (fr' := [(1, .one (.ptr 1 0)), (4, aI (1 : Int)), (5, .one (.ptr 5 0))]) (L' := [(1, .one (.arr 5 tI) a0), (5, .one (.arr 5 tI) a0)]) (obs := [True]) (by kernel_rfl) (by kernel_rfl) (by kernel_rfl) (allP1 trivial) ?_
    refine seqQ_norm ?_
    refine W_block (id := 0) (by kernel_rfl) ?_
    obtain ⟨v15, h16, h⟩ := bind_of h
    refine W_weaken [1, 4, 5] [1, 5] (fr' := ((wide_Order_s2 a0) ((1 : Int), a0)).1) (L' := ((wide_Order_s2 a0) ((1 : Int), a0)).2) (by kernel_rfl) ?_
    refine W_cutK (W_loop (S := (wide_Order_s2 a0)) (J := (exQ (.exit 0) wide_Order_s3)) (by kernel_rfl) ?_ fuel _ v15 h16) ?_
    · rintro x8 s h
      refine W_seq (by kernel_rfl) ?_
      refine W_seq (by kernel_rfl) ?_
      refine W_run 3 [] [1, 4, 5, 12] [1, 5] (fr' := [(1, .one (.ptr 1 0)), (4, aI x8.1), (5, .one (.ptr 5 0)), (12, aB (!(deqT (.arr 5 tI) x8.2 [(0 : Int), (1 : Int), (2 : Int), (3 : Int), (4 : Int)])))]) (L' := [(1, .one (.arr 5 tI) a0), (5, .one (.arr 5 tI) x8.2)]) (obs := []) (by kernel_rfl) (by kernel_rfl) (by kernel_rfl) allP0 ?_
      refine seqQ_norm ?_
      refine W_cond (o := .tmp 12) (b := !(deqT (.arr 5 tI) x8.2 [(0 : Int), (1 : Int), (2 : Int), (3 : Int), (4 : Int)])) (by kernel_rfl) (by kernel_rfl) (fun h12 => ?_) (fun h12 => ?_)
      · replace h := ofT h12 h
        refine W_skip [1, 4, 5] [1, 5] (fr' := [(1, .one (.ptr 1 0)), (4, aI x8.1), (5, .one (.ptr 5 0))]) (L' := [(1, .one (.arr 5 tI) a0), (5, .one (.arr 5 tI) x8.2)]) (by kernel_rfl) (by kernel_rfl) ?_
        refine seqQ_norm ?_
        refine W_seq (by kernel_rfl) ?_
        refine W_block (id := 1) (by kernel_rfl) ?_
        refine W_run 3 [] [1, 4, 5] [1, 5] (fr' := [(1, .one (.ptr 1 0)), (4, aI (w64 (x8.1 + (1 : Int)))), (5, .one (.ptr 5 0))]) (L' := [(1, .one (.arr 5 tI) a0), (5, .one (.arr 5 tI) x8.2)]) (obs := []) (by kernel_rfl) (by kernel_rfl) (by kernel_rfl) allP0 ?_
        refine blockQ_norm ?_
        refine seqQ_norm ?_
        refine W_seq (by kernel_rfl) ?_
        refine W_seq (by kernel_rfl) ?_
        refine W_run 1 [] [1, 4, 18] [1] (fr' := [(1, .one (.ptr 1 0)), (4, aI (w64 (x8.1 + (1 : Int)))), (18, aD (.arr 5 tI) x8.2)]) (L' := [(1, .one (.arr 5 tI) a0)]) (obs := []) (by kernel_rfl) (by kernel_rfl) (by kernel_rfl) allP0 ?_
        refine seqQ_norm ?_
        refine W_run 2 [(1, .typed)] [1, 4, 5] [1, 5] (fr' := [(1, .one (.ptr 1 0)), (4, aI (w64 (x8.1 + (1 : Int)))), (5, .one (.ptr 5 0))]) (L' := [(1, .one (.arr 5 tI) a0), (5, .one (.arr 5 tI) x8.2)]) (obs := [True]) (by kernel_rfl) (by kernel_rfl) (by kernel_rfl) (allP1 trivial) ?_
        refine seqQ_norm ?_
        refine W_region (by kernel_rfl) ?_
        refine WO_run (j := 2) (k := 2) (orcs := []) (kF := [1, 4, 5, 13, 14]) (kL := [1, 5]) (fr' := [(1, .one (.ptr 1 0)), (4, aI (w64 (x8.1 + (1 : Int)))), (5, .one (.ptr 5 0)), (13, aD (.arr 5 tI) x8.2), (14, aD (.arr 5 tI) a0)]) (L' := [(1, .one (.arr 5 tI) a0), (5, .one (.arr 5 tI) x8.2)]) (obs := []) rfl (by kernel_rfl) allP0 ?_
        obtain ⟨r13, h14, h⟩ := bind_of h
        refine WO_call0 (us := [none, none]) (d := 15) (p := True) (j := 3) rfl ⟨by kernel_rfl, by kernel_rfl, by kernel_rfl⟩ trivial (wide_then_ok h14) (by kernel_rfl) ?_
        refine WO_run (j := 4) (k := 1) (orcs := []) (kF := [1, 4, 5]) (kL := [1, 5]) (fr' := [(1, .one (.ptr 1 0)), (4, aI (w64 (x8.1 + (1 : Int)))), (5, .one (.ptr 5 0))]) (L' := [(1, .one (.arr 5 tI) a0), (5, .one (.arr 5 tI) r13)]) (obs := [True]) rfl (by kernel_rfl) (allP1 trivial) ?_
        obtain rfl := Option.some.inj h
        refine WO_fin [1, 4, 5] [1, 5] (fr' := [(1, .one (.ptr 1 0)), (4, aI (w64 (x8.1 + (1 : Int)))), (5, .one (.ptr 5 0))]) (L' := [(1, .one (.arr 5 tI) a0), (5, .one (.arr 5 tI) r13)]) (by kernel_rfl) (by kernel_rfl) ?_
        exact round_next' (by kernel_rfl) (by kernel_rfl)
      · replace h := ofF h12 h
        obtain rfl := Option.some.inj h
        refine W_exit (id := 0) [4] [] (fr' := [(4, aI x8.1)]) (L' := []) (by kernel_rfl) (by kernel_rfl) ?_
        refine seqQ_exit ?_
        refine round_exit ?_
        exact exQ_mk (by kernel_rfl) (by kernel_rfl)
    · intro e fr L hJ
      obtain ⟨rfl, rfl, rfl⟩ := hJ
      refine LT_keep [4] [] (fr' := [(4, aI v15)]) (L' := []) (by kernel_rfl) ?_
      refine blockQ_hit ?_
      refine seqQ_norm ?_
      refine W_seq (by kernel_rfl) ?_
      refine W_run 3 [] [2, 3] [] (fr' := [(2, aI v15), (3, aI (0 : Int))]) (L' := []) (obs := []) (by kernel_rfl) (by kernel_rfl) (by kernel_rfl) allP0 ?_
      refine seqQ_norm ?_
      obtain rfl := Option.some.inj h
      refine W_ret [2, 3] [] (fr' := [(2, aI v15), (3, aI (0 : Int))]) (L' := []) (by kernel_rfl) (by kernel_rfl) ?_
      exact retQ_mk (by kernel_rfl) (by kernel_rfl) (by kernel_rfl)

@[reducible] def ref_Change_s15 (a0 : (List Int)) (i111 : Int) (i144 : Int) (v : Int) : Fr × LL := ([(1, .one (.ptr 1 0)), (3, aI i111), (4, aI v), (5, aI i144)], [(1, .one (.arr 5 tI) a0)])
def ref_Change_b16 (a0 : (List Int)) (i111 : Int) (i144 : Int) (x145 : Int) : Option (Flow Int Int) :=
((ck (0 ≤ i144 ∧ i144 < 5)).bind fun _ =>
(idx a0 i144).bind fun v157 =>
bif v157 == i111 then
(some (w64 (x145 + (1 : Int))))
else
(some x145)).bind fun v160 =>
some (.next v160)
@[reducible] def ref_Change_s17 (a0 : (List Int)) (i111 : Int) (v : Int × Int) : Fr × LL := ([(1, .one (.ptr 1 0)), (3, aI i111), (4, aI v.2), (5, aI v.1)], [(1, .one (.arr 5 tI) a0)])
@[reducible] def ref_Change_s18 (a0 : (List Int)) (i111 : Int) (v : Int) : Fr × LL := ([(1, .one (.ptr 1 0)), (3, aI i111), (4, aI v)], [(1, .one (.arr 5 tI) a0)])
def ref_Change_b19 (a0 : (List Int)) (i111 : Int) (x112 : Unit) : Option (Flow Unit (Esc Bool Unit)) :=
(forI (0 : Int) (5 : Int) (ref_Change_b16 a0 i111) (fun x145 => x145) (0 : Int)).bind fun v163 =>
bif v163 != (1 : Int) then
(some (.done (.ret false)))
else
(some (.next ()))
@[reducible] def ref_Change_s20 (a0 : (List Int)) (v : Int × Unit) : Fr × LL := ([(1, .one (.ptr 1 0)), (3, aI v.1)], [(1, .one (.arr 5 tI) a0)])
@[reducible] def ref_Change_s21 (v : Bool) : Fr × LL := ([(2, aB v)], [])
@[reducible] def ref_Change_s22 (v : Unit) : Fr × LL := ([], [])
def ref_Change (a0 : (List Int)) : Option Bool :=
(forI (0 : Int) (5 : Int) (ref_Change_b19 a0) (fun x112 => (.brk ())) ()).bind fun v169 =>
match v169 with
| .ret v173 =>
(some v173)
| .brk v174 =>
(some true)
theorem ref_Change_ok {a0 : (List Int)} {r : Bool} (h : ref_Change a0 = some r) : FnC Try.prog 25 [aD (.arr 5 tI) a0] [] (aB r) [] := by
  refine fnC_of_W (B := bodyOf Try.f25) (n := 23) Try.func25 (by kernel_rfl) (by kernel_rfl) (by kernel_rfl) (by kernel_rfl) (by kernel_rfl) ?_
  intro K
  refine W_seq (by kernel_rfl) ?_
  refine W_run 2 [] [1] [1] (fr' := [(1, .one (.ptr 1 0))]) (L' := [(1, .one (.arr 5 tI) a0)]) (obs := []) (by kernel_rfl) (by kernel_rfl) (by kernel_rfl) allP0 ?_
  refine seqQ_norm ?_
  refine W_seq (by kernel_rfl) ?_
  refine W_seq (by kernel_rfl) ?_
  refine W_run 1 [] [1, 3] [1] (fr' := [(1, .one (.ptr 1 0)), (3, aI (0 : Int))]) (L' := [(1, .one (.arr 5 tI) a0)]) (obs := []) (by kernel_rfl) (by kernel_rfl) (by kernel_rfl) allP0 ?_
  refine seqQ_norm ?_
  refine W_block (id := 0) (by kernel_rfl) ?_
  obtain ⟨v169, h170, h⟩ := bind_of h
  obtain ⟨h171, h172⟩ := forI_iter h170
  refine W_weaken [1, 3] [1] (fr' := ((ref_Change_s20 a0) ((0 : Int), ())).1) (L' := ((ref_Change_s20 a0) ((0 : Int), ())).2) (by kernel_rfl) ?_
  refine W_cutK (W_loop (S := (ref_Change_s20 a0)) (J := (escQ (exQ .ret ref_Change_s21) (exQ (.exit 0) ref_Change_s22))) (by kernel_rfl) ?_ h171 _ v169 h172) ?_
  · rintro ⟨i111, x112⟩ s h
    refine W_seq (by kernel_rfl) ?_
    refine W_seq (by kernel_rfl) ?_
    refine W_run 2 [] [1, 3, 7] [1] (fr' := [(1, .one (.ptr 1 0)), (3, aI i111), (7, aB (decide (i111 < (5 : Int))))]) (L' := [(1, .one (.arr 5 tI) a0)]) (obs := []) (by kernel_rfl) (by kernel_rfl) (by kernel_rfl) allP0 ?_
    refine seqQ_norm ?_
    refine W_cond (o := .tmp 7) (b := decide (i111 < (5 : Int))) (by kernel_rfl) (by kernel_rfl) (fun h114 => ?_) (fun h114 => ?_)
    · replace h := stepI_true h114 h
      obtain ⟨_, h, rfl⟩ := h
      refine W_skip [1, 3] [1] (fr' := [(1, .one (.ptr 1 0)), (3, aI i111)]) (L' := [(1, .one (.arr 5 tI) a0)]) (by kernel_rfl) (by kernel_rfl) ?_
      refine seqQ_norm ?_
      refine W_seq (by kernel_rfl) ?_
      refine W_block (id := 1) (by kernel_rfl) ?_
      refine W_seq (by kernel_rfl) ?_
      refine W_run 1 [] [1, 3, 4] [1] (fr' := [(1, .one (.ptr 1 0)), (3, aI i111), (4, aI (0 : Int))]) (L' := [(1, .one (.arr 5 tI) a0)]) (obs := []) (by kernel_rfl) (by kernel_rfl) (by kernel_rfl) allP0 ?_
      refine seqQ_norm ?_
      refine W_seq (by kernel_rfl) ?_
      refine W_seq (by kernel_rfl) ?_
      refine W_run 1 [] [1, 3, 4, 5] [1] (fr' := [(1, .one (.ptr 1 0)), (3, aI i111), (4, aI (0 : Int)), (5, aI (0 : Int))]) (L' := [(1, .one (.arr 5 tI) a0)]) (obs := []) (by kernel_rfl) (by kernel_rfl) (by kernel_rfl) allP0 ?_
      refine seqQ_norm ?_
      refine W_block (id := 2) (by kernel_rfl) ?_
      obtain ⟨v163, h164, h⟩ := bind_of h
      obtain ⟨h165, h166⟩ := forI_iter h164
      refine W_weaken [1, 3, 4, 5] [1] (fr' := ((ref_Change_s17 a0 i111) ((0 : Int), (0 : Int))).1) (L' := ((ref_Change_s17 a0 i111) ((0 : Int), (0 : Int))).2) (by kernel_rfl) ?_
      refine W_cutK (W_loop (S := (ref_Change_s17 a0 i111)) (J := (exQ (.exit 2) (ref_Change_s18 a0 i111))) (by kernel_rfl) ?_ h165 _ v163 h166) ?_
      · rintro ⟨i144, x145⟩ s h
        refine W_seq (by kernel_rfl) ?_
        refine W_seq (by kernel_rfl) ?_
        refine W_run 2 [] [1, 3, 4, 5, 11] [1] (fr' := [(1, .one (.ptr 1 0)), (3, aI i111), (4, aI x145), (5, aI i144), (11, aB (decide (i144 < (5 : Int))))]) (L' := [(1, .one (.arr 5 tI) a0)]) (obs := []) (by kernel_rfl) (by kernel_rfl) (by kernel_rfl) allP0 ?_
        refine seqQ_norm ?_
        refine W_cond (o := .tmp 11) (b := decide (i144 < (5 : Int))) (by kernel_rfl) (by kernel_rfl) (fun h147 => ?_) (fun h147 => ?_)
        · replace h := stepI_true h147 h
          obtain ⟨_, h, rfl⟩ := h
          refine W_skip [1, 3, 4, 5] [1] (fr' := [(1, .one (.ptr 1 0)), (3, aI i111), (4, aI x145), (5, aI i144)]) (L' := [(1, .one (.arr 5 tI) a0)]) (by kernel_rfl) (by kernel_rfl) ?_
          refine seqQ_norm ?_
          refine W_seq (by kernel_rfl) ?_
          obtain ⟨v160, h161, h⟩ := bind_of h
          refine W_cutK (Q' := (exQ .normal (ref_Change_s15 a0 i111 i144)) v160) ?_ ?_
          · replace h := h161
            refine W_block (id := 3) (by kernel_rfl) ?_
            refine W_seq (by kernel_rfl) ?_
            obtain ⟨_, h156, h⟩ := bind_of h
            replace h156 := ck_some h156
            obtain ⟨v157, h158, h⟩ := bind_of h
            refine W_run 5 [(5, .val (.dat tI v157))] [1, 3, 4, 5, 18] [1] (fr' := [(1, .one (.ptr 1 0)), (3, aI i111), (4, aI x145), (5, aI i144), (18, aB (v157 == i111))]) (L' := [(1, .one (.arr 5 tI) a0)]) (obs := [InR i144 5, Idx a0 i144 v157]) (by kernel_rfl) (by kernel_rfl) (by kernel_rfl) (allP2 h156 (allP1 (Idx.of h158))) ?_
            refine seqQ_norm ?_
            refine W_cond (o := .tmp 18) (b := v157 == i111) (by kernel_rfl) (by kernel_rfl) (fun h159 => ?_) (fun h159 => ?_)
            · replace h := ofT h159 h
              obtain rfl := Option.some.inj h
              refine W_run 3 [] [1, 3, 4, 5] [1] (fr' := [(1, .one (.ptr 1 0)), (3, aI i111), (4, aI (w64 (x145 + (1 : Int)))), (5, aI i144)]) (L' := [(1, .one (.arr 5 tI) a0)]) (obs := []) (by kernel_rfl) (by kernel_rfl) (by kernel_rfl) allP0 ?_
              refine blockQ_norm ?_
              exact exQ_mk (by kernel_rfl) (by kernel_rfl)
            · replace h := ofF h159 h
              obtain rfl := Option.some.inj h
              refine W_skip [1, 3, 4, 5] [1] (fr' := [(1, .one (.ptr 1 0)), (3, aI i111), (4, aI x145), (5, aI i144)]) (L' := [(1, .one (.arr 5 tI) a0)]) (by kernel_rfl) (by kernel_rfl) ?_
              refine blockQ_norm ?_
              exact exQ_mk (by kernel_rfl) (by kernel_rfl)
          · intro e fr L hJ
            obtain ⟨rfl, rfl, rfl⟩ := hJ
            refine LT_keep [1, 3, 4, 5] [1] (fr' := [(1, .one (.ptr 1 0)), (3, aI i111), (4, aI v160), (5, aI i144)]) (L' := [(1, .one (.arr 5 tI) a0)]) (by kernel_rfl) ?_
            refine seqQ_norm ?_
            obtain rfl := Option.some.inj h
            refine W_run 3 [] [1, 3, 4, 5] [1] (fr' := [(1, .one (.ptr 1 0)), (3, aI i111), (4, aI v160), (5, aI (w64 (i144 + (1 : Int))))]) (L' := [(1, .one (.arr 5 tI) a0)]) (obs := []) (by kernel_rfl) (by kernel_rfl) (by kernel_rfl) allP0 ?_
            exact round_next' (by kernel_rfl) (by kernel_rfl)
        · obtain rfl := stepI_false h147 h
          refine W_exit (id := 2) [1, 3, 4] [1] (fr' := [(1, .one (.ptr 1 0)), (3, aI i111), (4, aI x145)]) (L' := [(1, .one (.arr 5 tI) a0)]) (by kernel_rfl) (by kernel_rfl) ?_
          refine seqQ_exit ?_
          refine round_exit ?_
          exact exQ_mk (by kernel_rfl) (by kernel_rfl)
      · intro e fr L hJ
        obtain ⟨rfl, rfl, rfl⟩ := hJ
        refine LT_keep [1, 3, 4] [1] (fr' := [(1, .one (.ptr 1 0)), (3, aI i111), (4, aI v163)]) (L' := [(1, .one (.arr 5 tI) a0)]) (by kernel_rfl) ?_
        refine blockQ_hit ?_
        refine seqQ_norm ?_
        refine W_seq (by kernel_rfl) ?_
        refine W_run 2 [] [1, 3, 22] [1] (fr' := [(1, .one (.ptr 1 0)), (3, aI i111), (22, aB (v163 != (1 : Int)))]) (L' := [(1, .one (.arr 5 tI) a0)]) (obs := []) (by kernel_rfl) (by kernel_rfl) (by kernel_rfl) allP0 ?_
        refine seqQ_norm ?_
        refine W_cond (o := .tmp 22) (b := v163 != (1 : Int)) (by kernel_rfl) (by kernel_rfl) (fun h167 => ?_) (fun h167 => ?_)
        · replace h := ofT h167 h
          refine W_seq (by kernel_rfl) ?_
          refine W_run 1 [] [2] [] (fr' := [(2, aB false)]) (L' := []) (obs := []) (by kernel_rfl) (by kernel_rfl) (by kernel_rfl) allP0 ?_
          refine seqQ_norm ?_
          obtain rfl := Option.some.inj h
          refine W_ret [2] [] (fr' := [(2, aB false)]) (L' := []) (by kernel_rfl) (by kernel_rfl) ?_
          refine blockQ_ret ?_
          refine seqQ_ret ?_
          refine round_ret ?_
          refine escQ_ret ?_
          exact exQ_mk (by kernel_rfl) (by kernel_rfl)
        · replace h := ofF h167 h
          refine W_skip [1, 3] [1] (fr' := [(1, .one (.ptr 1 0)), (3, aI i111)]) (L' := [(1, .one (.arr 5 tI) a0)]) (by kernel_rfl) (by kernel_rfl) ?_
          refine blockQ_norm ?_
          refine seqQ_norm ?_
          obtain rfl := Option.some.inj h
          refine W_run 3 [] [1, 3] [1] (fr' := [(1, .one (.ptr 1 0)), (3, aI (w64 (i111 + (1 : Int))))]) (L' := [(1, .one (.arr 5 tI) a0)]) (obs := []) (by kernel_rfl) (by kernel_rfl) (by kernel_rfl) allP0 ?_
          exact round_next' (by kernel_rfl) (by kernel_rfl)
    · obtain rfl := stepI_false h114 h
      refine W_exit (id := 0) [] [] (fr' := []) (L' := []) (by kernel_rfl) (by kernel_rfl) ?_
      refine seqQ_exit ?_
      refine round_exit ?_
      refine escQ_brk ?_
      exact exQ_mk (by kernel_rfl) (by kernel_rfl)
  · intro e fr L hJ
    rcases v169 with v173 | v174
    · obtain ⟨rfl, rfl, rfl⟩ := hJ
      obtain rfl := Option.some.inj h
      refine LT_keep [2] [] (fr' := [(2, aB v173)]) (L' := []) (by kernel_rfl) ?_
      refine blockQ_ret ?_
      refine seqQ_ret ?_
      exact retQ_mk (by kernel_rfl) (by kernel_rfl) (by kernel_rfl)
    · obtain ⟨rfl, rfl, rfl⟩ := hJ
      refine LT_keep [] [] (fr' := []) (L' := []) (by kernel_rfl) ?_
      refine blockQ_hit ?_
      refine seqQ_norm ?_
      refine W_seq (by kernel_rfl) ?_
      refine W_run 1 [] [2] [] (fr' := [(2, aB true)]) (L' := []) (obs := []) (by kernel_rfl) (by kernel_rfl) (by kernel_rfl) allP0 ?_
      refine seqQ_norm ?_
      obtain rfl := Option.some.inj h
      refine W_ret [2] [] (fr' := [(2, aB true)]) (L' := []) (by kernel_rfl) (by kernel_rfl) ?_
      exact retQ_mk (by kernel_rfl) (by kernel_rfl) (by kernel_rfl)

def ref_Same : Option (List Int) :=
some [(0 : Int), (1 : Int), (2 : Int), (3 : Int), (4 : Int)]
theorem ref_Same_ok {r : (List Int)} (h : ref_Same = some r) : FnC Try.prog 28 [] [] (aD (.arr 5 tI) r) [] := by
  refine fnC_of_W (B := bodyOf Try.f28) (n := 2) Try.func28 (by kernel_rfl) (by kernel_rfl) (by kernel_rfl) (by kernel_rfl) (by kernel_rfl) ?_
  intro K
  refine W_seq (by kernel_rfl) ?_
  refine W_run 1 [(1, .typed)] [0] [0] (fr' := [(0, .one (.ptr 0 0))]) (L' := [(0, .one (.arr 5 tI) [(0 : Int), (0 : Int), (0 : Int), (0 : Int), (0 : Int)])]) (obs := []) (by kernel_rfl) (by kernel_rfl) (by kernel_rfl) allP0 ?_
  refine seqQ_norm ?_
  refine W_seq (by kernel_rfl) ?_
  refine W_run 2 [] [0] [0] (fr' := [(0, .one (.ptr 0 0))]) (L' := [(0, .one (.arr 5 tI) [(0 : Int), (1 : Int), (2 : Int), (3 : Int), (4 : Int)])]) (obs := [True]) (by kernel_rfl) (by kernel_rfl) (by kernel_rfl) (allP1 trivial) ?_
  refine seqQ_norm ?_
  obtain rfl := Option.some.inj h
  refine W_ret [0] [0] (fr' := [(0, .one (.ptr 0 0))]) (L' := [(0, .one (.arr 5 tI) [(0 : Int), (1 : Int), (2 : Int), (3 : Int), (4 : Int)])]) (by kernel_rfl) (by kernel_rfl) ?_
  exact retQ_mk (by kernel_rfl) (by kernel_rfl) (by kernel_rfl)

def ref_Then_b1 (a0 : (List Int)) (a1 : (List Int)) (i18 : Int) (x19 : (List Int)) : Option (Flow (List Int) (List Int)) :=
(ck (0 ≤ i18 ∧ i18 < 5)).bind fun _ =>
(idx a0 i18).bind fun v23 =>
(ck (0 ≤ v23 ∧ v23 < 5)).bind fun _ =>
(idx a1 v23).bind fun v26 =>
(idx x19 i18).bind fun v28 =>
some (.next (List.set x19 (Int.toNat i18) v26))
@[reducible] def ref_Then_s2 (a0 : (List Int)) (a1 : (List Int)) (v : Int × (List Int)) : Fr × LL := ([(2, .one (.ptr 2 0)), (3, .one (.ptr 3 0)), (4, .one (.ptr 4 0)), (5, .one (.ptr 5 0)), (6, aI v.1)], [(2, .one (.arr 5 tI) a0), (3, .one (.arr 5 tI) a1), (4, .one (.arr 5 tI) [(0 : Int), (0 : Int), (0 : Int), (0 : Int), (0 : Int)]), (5, .one (.arr 5 tI) v.2)])
@[reducible] def ref_Then_s3 (v : (List Int)) : Fr × LL := ([(4, .one (.ptr 4 0)), (5, .one (.ptr 5 0))], [(4, .one (.arr 5 tI) [(0 : Int), (0 : Int), (0 : Int), (0 : Int), (0 : Int)]), (5, .one (.arr 5 tI) v)])
def ref_Then (a0 : (List Int)) (a1 : (List Int)) : Option (List Int) :=
(forI (0 : Int) (5 : Int) (ref_Then_b1 a0 a1) (fun x19 => x19) [(0 : Int), (0 : Int), (0 : Int), (0 : Int), (0 : Int)]).bind fun v31 =>
some v31
theorem ref_Then_ok {a0 : (List Int)} {a1 : (List Int)} {r : (List Int)} (h : ref_Then a0 a1 = some r) : FnC Try.prog 26 [aD (.arr 5 tI) a0, aD (.arr 5 tI) a1] [] (aD (.arr 5 tI) r) [] := by
  refine fnC_of_W (B := bodyOf Try.f26) (n := 19) Try.func26 (by kernel_rfl) (by kernel_rfl) (by kernel_rfl) (by kernel_rfl) (by kernel_rfl) ?_
  intro K
  refine W_seq (by kernel_rfl) ?_
  refine W_run 3 [(5, .typed)] [2, 3, 4] [2, 3, 4] (fr' := [(2, .one (.ptr 2 0)), (3, .one (.ptr 3 0)), (4, .one (.ptr 4 0))]) (L' := [(2, .one (.arr 5 tI) a0), (3, .one (.arr 5 tI) a1), (4, .one (.arr 5 tI) [(0 : Int), (0 : Int), (0 : Int), (0 : Int), (0 : Int)])]) (obs := []) (by kernel_rfl) (by kernel_rfl) (by kernel_rfl) allP0 ?_
  refine seqQ_norm ?_
  refine W_seq (by kernel_rfl) ?_
  refine W_run 1 [(1, .typed)] [2, 3, 4, 5] [2, 3, 4, 5] (fr' := [(2, .one (.ptr 2 0)), (3, .one (.ptr 3 0)), (4, .one (.ptr 4 0)), (5, .one (.ptr 5 0))]) (L' := [(2, .one (.arr 5 tI) a0), (3, .one (.arr 5 tI) a1), (4, .one (.arr 5 tI) [(0 : Int), (0 : Int), (0 : Int), (0 : Int), (0 : Int)]), (5, .one (.arr 5 tI) [(0 : Int), (0 : Int), (0 : Int), (0 : Int), (0 : Int)])]) (obs := []) (by kernel_rfl) (by kernel_rfl) (by kernel_rfl) allP0 ?_
  refine seqQ_norm ?_
  refine W_seq (by kernel_rfl) ?_
  refine W_seq (by kernel_rfl) ?_
  refine W_run 1 [] [2, 3, 4, 5, 6] [2, 3, 4, 5] (fr' := [(2, .one (.ptr 2 0)), (3, .one (.ptr 3 0)), (4, .one (.ptr 4 0)), (5, .one (.ptr 5 0)), (6, aI (0 : Int))]) (L' := [(2, .one (.arr 5 tI) a0), (3, .one (.arr 5 tI) a1), (4, .one (.arr 5 tI) [(0 : Int), (0 : Int), (0 : Int), (0 : Int), (0 : Int)]), (5, .one (.arr 5 tI) [(0 : Int), (0 : Int), (0 : Int), (0 : Int), (0 : Int)])]) (obs := []) (by kernel_rfl) (by kernel_rfl) (by kernel_rfl) allP0 ?_
  refine seqQ_norm ?_
  refine W_block (id := 0) (by kernel_rfl) ?_
  obtain ⟨v31, h32, h⟩ := bind_of h
  obtain ⟨h33, h34⟩ := forI_iter h32
  refine W_weaken [2, 3, 4, 5, 6] [2, 3, 4, 5] (fr' := ((ref_Then_s2 a0 a1) ((0 : Int), [(0 : Int), (0 : Int), (0 : Int), (0 : Int), (0 : Int)])).1) (L' := ((ref_Then_s2 a0 a1) ((0 : Int), [(0 : Int), (0 : Int), (0 : Int), (0 : Int), (0 : Int)])).2) (by kernel_rfl) ?_
  refine W_cutK (W_loop (S := (ref_Then_s2 a0 a1)) (J := (exQ (.exit 0) ref_Then_s3)) (by kernel_rfl) ?_ h33 _ v31 h34) ?_
  · rintro ⟨i18, x19⟩ s h
    refine W_seq (by kernel_rfl) ?_
    refine W_seq (by kernel_rfl) ?_
    refine W_run 2 [] [2, 3, 4, 5, 6, 8] [2, 3, 4, 5] (fr' := [(2, .one (.ptr 2 0)), (3, .one (.ptr 3 0)), (4, .one (.ptr 4 0)), (5, .one (.ptr 5 0)), (6, aI i18), (8, aB (decide (i18 < (5 : Int))))]) (L' := [(2, .one (.arr 5 tI) a0), (3, .one (.arr 5 tI) a1), (4, .one (.arr 5 tI) [(0 : Int), (0 : Int), (0 : Int), (0 : Int), (0 : Int)]), (5, .one (.arr 5 tI) x19)]) (obs := []) (by kernel_rfl) (by kernel_rfl) (by kernel_rfl) allP0 ?_
    refine seqQ_norm ?_
    refine W_cond (o := .tmp 8) (b := decide (i18 < (5 : Int))) (by kernel_rfl) (by kernel_rfl) (fun h21 => ?_) (fun h21 => ?_)
    · replace h := stepI_true h21 h
      obtain ⟨_, h, rfl⟩ := h
      refine W_skip [2, 3, 4, 5, 6] [2, 3, 4, 5] (fr' := [(2, .one (.ptr 2 0)), (3, .one (.ptr 3 0)), (4, .one (.ptr 4 0)), (5, .one (.ptr 5 0)), (6, aI i18)]) (L' := [(2, .one (.arr 5 tI) a0), (3, .one (.arr 5 tI) a1), (4, .one (.arr 5 tI) [(0 : Int), (0 : Int), (0 : Int), (0 : Int), (0 : Int)]), (5, .one (.arr 5 tI) x19)]) (by kernel_rfl) (by kernel_rfl) ?_
      refine seqQ_norm ?_
      refine W_seq (by kernel_rfl) ?_
      refine W_block (id := 1) (by kernel_rfl) ?_
      obtain ⟨_, h22, h⟩ := bind_of h
      replace h22 := ck_some h22
      obtain ⟨v23, h24, h⟩ := bind_of h
      obtain ⟨_, h25, h⟩ := bind_of h
      replace h25 := ck_some h25
      obtain ⟨v26, h27, h⟩ := bind_of h
      obtain ⟨v28, h29, h⟩ := bind_of h
      refine W_run 8 [(7, .val (.dat tI v23)), (11, .val (.dat tI v26))] [2, 3, 4, 5, 6] [2, 3, 4, 5] (fr' := [(2, .one (.ptr 2 0)), (3, .one (.ptr 3 0)), (4, .one (.ptr 4 0)), (5, .one (.ptr 5 0)), (6, aI i18)]) (L' := [(2, .one (.arr 5 tI) a0), (3, .one (.arr 5 tI) a1), (4, .one (.arr 5 tI) [(0 : Int), (0 : Int), (0 : Int), (0 : Int), (0 : Int)]), (5, .one (.arr 5 tI) (List.set x19 (Int.toNat i18) v26))]) (obs := [InR i18 5, Idx a0 i18 v23, InR v23 5, Idx a1 v23 v26, InR i18 5, InR i18 (List.length x19)]) (by kernel_rfl) (by kernel_rfl) (by kernel_rfl) (allP2 h22 (allP2 (Idx.of h24) (allP2 h25 (allP2 (Idx.of h27) (allP2 h22 (allP1 (InR.of h29))))))) ?_
      refine blockQ_norm ?_
      refine seqQ_norm ?_
      obtain rfl := Option.some.inj h
      refine W_run 3 [] [2, 3, 4, 5, 6] [2, 3, 4, 5] (fr' := [(2, .one (.ptr 2 0)), (3, .one (.ptr 3 0)), (4, .one (.ptr 4 0)), (5, .one (.ptr 5 0)), (6, aI (w64 (i18 + (1 : Int))))]) (L' := [(2, .one (.arr 5 tI) a0), (3, .one (.arr 5 tI) a1), (4, .one (.arr 5 tI) [(0 : Int), (0 : Int), (0 : Int), (0 : Int), (0 : Int)]), (5, .one (.arr 5 tI) (List.set x19 (Int.toNat i18) v26))]) (obs := []) (by kernel_rfl) (by kernel_rfl) (by kernel_rfl) allP0 ?_
      exact round_next' (by kernel_rfl) (by kernel_rfl)
    · obtain rfl := stepI_false h21 h
      refine W_exit (id := 0) [4, 5] [4, 5] (fr' := [(4, .one (.ptr 4 0)), (5, .one (.ptr 5 0))]) (L' := [(4, .one (.arr 5 tI) [(0 : Int), (0 : Int), (0 : Int), (0 : Int), (0 : Int)]), (5, .one (.arr 5 tI) x19)]) (by kernel_rfl) (by kernel_rfl) ?_
      refine seqQ_exit ?_
      refine round_exit ?_
      exact exQ_mk (by kernel_rfl) (by kernel_rfl)
  · intro e fr L hJ
    obtain ⟨rfl, rfl, rfl⟩ := hJ
    refine LT_keep [4, 5] [4, 5] (fr' := [(4, .one (.ptr 4 0)), (5, .one (.ptr 5 0))]) (L' := [(4, .one (.arr 5 tI) [(0 : Int), (0 : Int), (0 : Int), (0 : Int), (0 : Int)]), (5, .one (.arr 5 tI) v31)]) (by kernel_rfl) ?_
    refine blockQ_hit ?_
    refine seqQ_norm ?_
    refine W_seq (by kernel_rfl) ?_
    refine W_run 2 [] [4] [4] (fr' := [(4, .one (.ptr 4 0))]) (L' := [(4, .one (.arr 5 tI) v31)]) (obs := [True]) (by kernel_rfl) (by kernel_rfl) (by kernel_rfl) (allP1 trivial) ?_
    refine seqQ_norm ?_
    obtain rfl := Option.some.inj h
    refine W_ret [4] [4] (fr' := [(4, .one (.ptr 4 0))]) (L' := [(4, .one (.arr 5 tI) v31)]) (by kernel_rfl) (by kernel_rfl) ?_
    exact retQ_mk (by kernel_rfl) (by kernel_rfl) (by kernel_rfl)

def law_WideOrders_b1 (a0 : (List Int)) (x12 : (Int × (List Int))) : Option (Flow (Int × (List Int)) Int) :=
(ref_Same).bind fun r18 =>
bif !(deqT (.arr 5 tI) x12.2 r18) then
((ref_Then x12.2 a0).bind fun r21 =>
some (.next (w64 (x12.1 + (1 : Int)), r21)))
else
(some (.done x12.1))
@[reducible] def law_WideOrders_s2 (a0 : (List Int)) (r1 : (Int × Int)) (v : (Int × (List Int))) : Fr × LL := ([(1, .one (.ptr 1 0)), (3, aI r1.1), (4, aI r1.2), (5, .one (.ptr 5 0)), (6, aI v.1)], [(1, .one (.arr 5 tI) a0), (5, .one (.arr 5 tI) v.2)])
@[reducible] def law_WideOrders_s3 (r1 : (Int × Int)) (v : Int) : Fr × LL := ([(3, aI r1.1), (4, aI r1.2), (6, aI v)], [])
def law_WideOrders (fuel : Nat) (a0 : (List Int)) : Option Bool :=
(wide_Order fuel a0).bind fun r1 =>
(ref_Change a0).bind fun r3 =>
bif !r3 then
(some ((r1.2 == (3 : Int)) && (r1.1 == (0 : Int))))
else
((iter (law_WideOrders_b1 a0) fuel ((1 : Int), a0)).bind fun v23 =>
some ((r1.2 == (0 : Int)) && (r1.1 == v23)))
theorem law_WideOrders_ok {fuel : Nat} {a0 : (List Int)} {r : Bool} (h : law_WideOrders fuel a0 = some r) : FnC Try.prog 9 [aD (.arr 5 tI) a0] [] (aB r) [] := by
  refine fnC_of_W (B := bodyOf Try.f9) (n := 37) Try.func9 (by kernel_rfl) (by kernel_rfl) (by kernel_rfl) (by kernel_rfl) (by kernel_rfl) ?_
  intro K
  refine W_seq (by kernel_rfl) ?_
  refine W_run 2 [] [1] [1] (fr' := [(1, .one (.ptr 1 0))]) (L' := [(1, .one (.arr 5 tI) a0)]) (obs := []) (by kernel_rfl) (by kernel_rfl) (by kernel_rfl) allP0 ?_
  refine seqQ_norm ?_
  refine W_seq (by kernel_rfl) ?_
  refine W_region (by kernel_rfl) ?_
  refine WO_run (j := 1) (k := 1) (orcs := []) (kF := [1, 8]) (kL := [1]) (fr' := [(1, .one (.ptr 1 0)), (8, aD (.arr 5 tI) a0)]) (L' := [(1, .one (.arr 5 tI) a0)]) (obs := []) rfl (by kernel_rfl) allP0 ?_
  obtain ⟨r1, h2, h⟩ := bind_of h
  refine WO_call0 (us := [none]) (d := 9) (p := True) (j := 2) rfl ⟨by kernel_rfl, by kernel_rfl, by kernel_rfl⟩ trivial (wide_Order_ok h2) (by kernel_rfl) ?_
  refine WO_run (j := 7) (k := 5) (orcs := []) (kF := [1, 3, 4]) (kL := [1]) (fr' := [(1, .one (.ptr 1 0)), (3, aI r1.1), (4, aI r1.2)]) (L' := [(1, .one (.arr 5 tI) a0)]) (obs := []) rfl (by kernel_rfl) allP0 ?_
  refine WO_fin [1, 3, 4] [1] (fr' := [(1, .one (.ptr 1 0)), (3, aI r1.1), (4, aI r1.2)]) (L' := [(1, .one (.arr 5 tI) a0)]) (by kernel_rfl) (by kernel_rfl) ?_
  refine seqQ_norm ?_
  refine W_seq (by kernel_rfl) ?_
  refine W_seq (by kernel_rfl) ?_
  refine W_region (by kernel_rfl) ?_
  refine WO_run (j := 1) (k := 1) (orcs := []) (kF := [1, 3, 4, 12]) (kL := [1]) (fr' := [(1, .one (.ptr 1 0)), (3, aI r1.1), (4, aI r1.2), (12, aD (.arr 5 tI) a0)]) (L' := [(1, .one (.arr 5 tI) a0)]) (obs := []) rfl (by kernel_rfl) allP0 ?_
  obtain ⟨r3, h4, h⟩ := bind_of h
  refine WO_call0 (us := [none]) (d := 13) (p := True) (j := 2) rfl ⟨by kernel_rfl, by kernel_rfl, by kernel_rfl⟩ trivial (ref_Change_ok h4) (by kernel_rfl) ?_
  refine WO_run (j := 3) (k := 1) (orcs := []) (kF := [1, 3, 4, 14]) (kL := [1]) (fr' := [(1, .one (.ptr 1 0)), (3, aI r1.1), (4, aI r1.2), (14, aB (!r3))]) (L' := [(1, .one (.arr 5 tI) a0)]) (obs := []) rfl (by kernel_rfl) allP0 ?_
  refine WO_fin [1, 3, 4, 14] [1] (fr' := [(1, .one (.ptr 1 0)), (3, aI r1.1), (4, aI r1.2), (14, aB (!r3))]) (L' := [(1, .one (.arr 5 tI) a0)]) (by kernel_rfl) (by kernel_rfl) ?_
  refine seqQ_norm ?_
  refine W_cond (o := .tmp 14) (b := !r3) (by kernel_rfl) (by kernel_rfl) (fun h5 => ?_) (fun h5 => ?_)
  · replace h := ofT h5 h
    refine W_seq (by kernel_rfl) ?_
    refine W_run 7 [] [2] [] (fr' := [(2, aB ((r1.2 == (3 : Int)) && (r1.1 == (0 : Int))))]) (L' := []) (obs := []) (by kernel_rfl) (by kernel_rfl) (by kernel_rfl) allP0 ?_
    refine seqQ_norm ?_
    obtain rfl := Option.some.inj h
    refine W_ret [2] [] (fr' := [(2, aB ((r1.2 == (3 : Int)) && (r1.1 == (0 : Int))))]) (L' := []) (by kernel_rfl) (by kernel_rfl) ?_
    refine seqQ_ret ?_
    exact retQ_mk (by kernel_rfl) (by kernel_rfl) (by kernel_rfl)
  · replace h := ofF h5 h
    refine W_skip [1, 3, 4] [1] (fr' := [(1, .one (.ptr 1 0)), (3, aI r1.1), (4, aI r1.2)]) (L' := [(1, .one (.arr 5 tI) a0)]) (by kernel_rfl) (by kernel_rfl) ?_
    refine seqQ_norm ?_
    refine W_seq (by kernel_rfl) ?_
    refine W_run 3 [(3, .typed)] [1, 3, 4, 5] [1, 5] (fr' := [(1, .one (.ptr 1 0)), (3, aI r1.1), (4, aI r1.2), (5, .one (.ptr 5 0))]) (L' := [(1, .one (.arr 5 tI) a0), (5, .one (.arr 5 tI) a0)]) (obs := [True]) (by kernel_rfl) (by kernel_rfl) (by kernel_rfl) (allP1 trivial) ?_
    refine seqQ_norm ?_
    refine W_seq (by kernel_rfl) ?_
    refine W_run 1 [] [1, 3, 4, 5, 6] [1, 5] (fr' := [(1, .one (.ptr 1 0)), (3, aI r1.1), (4, aI r1.2), (5, .one (.ptr 5 0)), (6, aI (1 : Int))]) (L' := [(1, .one (.arr 5 tI) a0), (5, .one (.arr 5 tI) a0)]) (obs := []) (by kernel_rfl) (by kernel_rfl) (by kernel_rfl) allP0 ?_
    refine seqQ_norm ?_
    refine W_seq (by kernel_rfl) ?_
    refine W_block (id := 0) (by kernel_rfl) ?_
    obtain ⟨v23, h24, h⟩ := bind_of h
    refine W_weaken [1, 3, 4, 5, 6] [1, 5] (fr' := ((law_WideOrders_s2 a0 r1) ((1 : Int), a0)).1) (L' := ((law_WideOrders_s2 a0 r1) ((1 : Int), a0)).2) (by kernel_rfl) ?_
    refine W_cutK (W_loop (S := (law_WideOrders_s2 a0 r1)) (J := (exQ (.exit 0) (law_WideOrders_s3 r1))) (by kernel_rfl) ?_ fuel _ v23 h24) ?_
    · rintro x12 s h
      refine W_seq (by kernel_rfl) ?_
      refine W_seq (by kernel_rfl) ?_
      obtain ⟨r18, h19, h⟩ := bind_of h
      refine W_draw2 2 [] [(1, [], aD (.arr 5 tI) r18)] [1, 3, 4, 5, 6, 24] [1, 5] (fr' := [(1, .one (.ptr 1 0)), (3, aI r1.1), (4, aI r1.2), (5, .one (.ptr 5 0)), (6, aI x12.1), (24, aB (!(deqT (.arr 5 tI) x12.2 r18)))]) (L' := [(1, .one (.arr 5 tI) a0), (5, .one (.arr 5 tI) x12.2)]) (out := [(22, aD (.arr 5 tI) x12.2), (23, aD (.arr 5 tI) r18)]) (obs := [True]) (obs2 := []) (calls := [(28, [], aD (.arr 5 tI) r18)]) (by kernel_rfl) (by kernel_rfl) (by kernel_rfl) (by kernel_rfl) (allP1 trivial) (allC1 (by kernel_rfl) (ref_Same_ok h19) (by kernel_rfl) allC0) (by kernel_rfl) allP0 ?_
      refine seqQ_norm ?_
      refine W_cond (o := .tmp 24) (b := !(deqT (.arr 5 tI) x12.2 r18)) (by kernel_rfl) (by kernel_rfl) (fun h20 => ?_) (fun h20 => ?_)
      · replace h := ofT h20 h
        refine W_skip [1, 3, 4, 5, 6] [1, 5] (fr' := [(1, .one (.ptr 1 0)), (3, aI r1.1), (4, aI r1.2), (5, .one (.ptr 5 0)), (6, aI x12.1)]) (L' := [(1, .one (.arr 5 tI) a0), (5, .one (.arr 5 tI) x12.2)]) (by kernel_rfl) (by kernel_rfl) ?_
        refine seqQ_norm ?_
        refine W_block (id := 1) (by kernel_rfl) ?_
        refine W_seq (by kernel_rfl) ?_
        refine W_region (by kernel_rfl) ?_
        refine WO_run (j := 2) (k := 2) (orcs := []) (kF := [1, 3, 4, 5, 6, 25, 26]) (kL := [1, 5]) (fr' := [(1, .one (.ptr 1 0)), (3, aI r1.1), (4, aI r1.2), (5, .one (.ptr 5 0)), (6, aI x12.1), (25, aD (.arr 5 tI) x12.2), (26, aD (.arr 5 tI) a0)]) (L' := [(1, .one (.arr 5 tI) a0), (5, .one (.arr 5 tI) x12.2)]) (obs := []) rfl (by kernel_rfl) allP0 ?_
        obtain ⟨r21, h22, h⟩ := bind_of h
        refine WO_call0 (us := [none, none]) (d := 27) (p := True) (j := 3) rfl ⟨by kernel_rfl, by kernel_rfl, by kernel_rfl⟩ trivial (ref_Then_ok h22) (by kernel_rfl) ?_
        refine WO_run (j := 4) (k := 1) (orcs := []) (kF := [1, 3, 4, 5, 6]) (kL := [1, 5]) (fr' := [(1, .one (.ptr 1 0)), (3, aI r1.1), (4, aI r1.2), (5, .one (.ptr 5 0)), (6, aI x12.1)]) (L' := [(1, .one (.arr 5 tI) a0), (5, .one (.arr 5 tI) r21)]) (obs := [True]) rfl (by kernel_rfl) (allP1 trivial) ?_
        refine WO_fin [1, 3, 4, 5, 6] [1, 5] (fr' := [(1, .one (.ptr 1 0)), (3, aI r1.1), (4, aI r1.2), (5, .one (.ptr 5 0)), (6, aI x12.1)]) (L' := [(1, .one (.arr 5 tI) a0), (5, .one (.arr 5 tI) r21)]) (by kernel_rfl) (by kernel_rfl) ?_
        refine seqQ_norm ?_
        obtain rfl := Option.some.inj h
        refine W_run 3 [] [1, 3, 4, 5, 6] [1, 5] (fr' := [(1, .one (.ptr 1 0)), (3, aI r1.1), (4, aI r1.2), (5, .one (.ptr 5 0)), (6, aI (w64 (x12.1 + (1 : Int))))]) (L' := [(1, .one (.arr 5 tI) a0), (5, .one (.arr 5 tI) r21)]) (obs := []) (by kernel_rfl) (by kernel_rfl) (by kernel_rfl) allP0 ?_
        refine blockQ_norm ?_
        exact round_next' (by kernel_rfl) (by kernel_rfl)
      · replace h := ofF h20 h
        obtain rfl := Option.some.inj h
        refine W_exit (id := 0) [3, 4, 6] [] (fr' := [(3, aI r1.1), (4, aI r1.2), (6, aI x12.1)]) (L' := []) (by kernel_rfl) (by kernel_rfl) ?_
        refine seqQ_exit ?_
        refine round_exit ?_
        exact exQ_mk (by kernel_rfl) (by kernel_rfl)
    · intro e fr L hJ
      obtain ⟨rfl, rfl, rfl⟩ := hJ
      refine LT_keep [3, 4, 6] [] (fr' := [(3, aI r1.1), (4, aI r1.2), (6, aI v23)]) (L' := []) (by kernel_rfl) ?_
      refine blockQ_hit ?_
      refine seqQ_norm ?_
      refine W_seq (by kernel_rfl) ?_
      refine W_run 8 [] [2] [] (fr' := [(2, aB ((r1.2 == (0 : Int)) && (r1.1 == v23)))]) (L' := []) (obs := []) (by kernel_rfl) (by kernel_rfl) (by kernel_rfl) allP0 ?_
      refine seqQ_norm ?_
      obtain rfl := Option.some.inj h
      refine W_ret [2] [] (fr' := [(2, aB ((r1.2 == (0 : Int)) && (r1.1 == v23)))]) (L' := []) (by kernel_rfl) (by kernel_rfl) ?_
      exact retQ_mk (by kernel_rfl) (by kernel_rfl) (by kernel_rfl)
end Go.Proofs.Ytmemlgpcmefpfaa.wideOrders
