/- What the functions that TopFive calls compute, as models, and that they compute it: written by a program of mine. -/
import Derived.Test.YthjdegeajfhakaaProg
import Derived.Test.YthjdegeajfhakaaSl5
set_option linter.all false
set_option maxRecDepth 100000
namespace Go.Proofs.Ythjdegeajfhakaa.topFive
open Go Go.Sl
def slices_Index_Lboolbool_b1 (a1 : Bool) (i11 : Int) (v14 : Bool) (x12 : Unit) : Option (Flow Unit (Esc Int Unit)) :=
bif a1 == v14 then
(some (.done (.ret i11)))
else
(some (.next ()))
@[reducible] def slices_Index_Lboolbool_s2 (a0 : (List Bool)) (a1 : Bool) (v : Int × Unit) : Fr × LL := ([(0, aD (.slice .bool) a0), (1, aB a1), (7, aI (List.length a0 : Int)), (8, aI v.1)], [])
@[reducible] def slices_Index_Lboolbool_s3 (v : Int) : Fr × LL := ([(4, aI v)], [])
@[reducible] def slices_Index_Lboolbool_s4 (v : Unit) : Fr × LL := ([], [])
def slices_Index_Lboolbool (a0 : (List Bool)) (a1 : Bool) : Option Int :=
(forL (slices_Index_Lboolbool_b1 a1) (fun x12 => (.brk ())) a0 0 ()).bind fun v19 =>
match v19 with
| .ret v24 =>
(some v24)
| .brk v25 =>
(some (-1 : Int))
theorem slices_Index_Lboolbool_ok {a0 : (List Bool)} {a1 : Bool} {r : Int} (h : slices_Index_Lboolbool a0 a1 = some r) : FnC Try.prog 47 [aD (.slice .bool) a0, aB a1] [] (aI r) [] := by
  refine fnC_of_W (B := bodyOf Try.f47) (n := 19) Try.func47 (by kernel_rfl) (by kernel_rfl) (by kernel_rfl) (by kernel_rfl) (by kernel_rfl) ?_
  intro K
  refine W_seq (by kernel_rfl) ?_
  refine W_run 1 [] [0, 1] [] (fr' := [(0, aD (.slice .bool) a0), (1, aB a1)]) (L' := []) (obs := []) (by kernel_rfl) (by kernel_rfl) (by kernel_rfl) allP0 ?_
  refine seqQ_norm ?_
  refine W_seq (by kernel_rfl) ?_
  refine W_seq (by kernel_rfl) ?_
  refine W_run 3 [] [0, 1, 7, 8] [] (fr' := [(0, aD (.slice .bool) a0), (1, aB a1), (7, aI (List.length a0 : Int)), (8, aI (0 : Int))]) (L' := []) (obs := []) (by kernel_rfl) (by kernel_rfl) (by kernel_rfl) allP0 ?_
  refine seqQ_norm ?_
  refine W_block (id := 0) (by kernel_rfl) ?_
  obtain ⟨v19, h20, h⟩ := bind_of h
  refine W_len (t := 0) (u := .bool) (xs := a0) (by kernel_rfl) (fun h23 => ?_)
  obtain ⟨h21, h22⟩ := forL_iter h23 h20
  refine W_weaken [0, 1, 7, 8] [] (fr' := ((slices_Index_Lboolbool_s2 a0 a1) ((0 : Int), ())).1) (L' := ((slices_Index_Lboolbool_s2 a0 a1) ((0 : Int), ())).2) (by kernel_rfl) ?_
  refine W_cutK (W_loop (S := (slices_Index_Lboolbool_s2 a0 a1)) (J := (escQ (exQ .ret slices_Index_Lboolbool_s3) (exQ (.exit 0) slices_Index_Lboolbool_s4))) (by kernel_rfl) ?_ h21 _ v19 h22) ?_
  · rintro ⟨i11, x12⟩ s h
    refine W_seq (by kernel_rfl) ?_
    refine W_run 1 [] [0, 1, 7, 8, 9] [] (fr' := [(0, aD (.slice .bool) a0), (1, aB a1), (7, aI (List.length a0 : Int)), (8, aI i11), (9, aB (decide (i11 < (List.length a0 : Int))))]) (L' := []) (obs := []) (by kernel_rfl) (by kernel_rfl) (by kernel_rfl) allP0 ?_
    refine seqQ_norm ?_
    refine W_seq (by kernel_rfl) ?_
    refine W_cond (o := .tmp 9) (b := decide (i11 < (List.length a0 : Int))) (by kernel_rfl) (by kernel_rfl) (fun h16 => ?_) (fun h16 => ?_)
    · replace h := stepL_true h16 h
      obtain ⟨v14, _, h15, h, rfl⟩ := h
      refine W_skip [0, 1, 7, 8] [] (fr' := [(0, aD (.slice .bool) a0), (1, aB a1), (7, aI (List.length a0 : Int)), (8, aI i11)]) (L' := []) (by kernel_rfl) (by kernel_rfl) ?_
      refine seqQ_norm ?_
      refine W_seq (by kernel_rfl) ?_
      refine W_block (id := 1) (by kernel_rfl) ?_
      refine W_seq (by kernel_rfl) ?_
      refine W_run 2 [] [0, 1, 5, 7, 8] [] (fr' := [(0, aD (.slice .bool) a0), (1, aB a1), (5, aI i11), (7, aI (List.length a0 : Int)), (8, aI i11)]) (L' := []) (obs := []) (by kernel_rfl) (by kernel_rfl) (by kernel_rfl) allP0 ?_
      refine seqQ_norm ?_
      refine W_seq (by kernel_rfl) ?_
      refine W_run 6 [(7, .val (.dat .bool v14))] [0, 1, 5, 7, 8, 16] [] (fr' := [(0, aD (.slice .bool) a0), (1, aB a1), (5, aI i11), (7, aI (List.length a0 : Int)), (8, aI i11), (16, aB (a1 == v14))]) (L' := []) (obs := [Idx a0 i11 v14]) (by kernel_rfl) (by kernel_rfl) (by kernel_rfl) (allP1 (Idx.of h15)) ?_
      refine seqQ_norm ?_
      refine W_cond (o := .tmp 16) (b := a1 == v14) (by kernel_rfl) (by kernel_rfl) (fun h17 => ?_) (fun h17 => ?_)
      · replace h := ofT h17 h
        refine W_seq (by kernel_rfl) ?_
        refine W_run 2 [] [4] [] (fr' := [(4, aI i11)]) (L' := []) (obs := []) (by kernel_rfl) (by kernel_rfl) (by kernel_rfl) allP0 ?_
        refine seqQ_norm ?_
        obtain rfl := Option.some.inj h
        refine W_ret [4] [] (fr' := [(4, aI i11)]) (L' := []) (by kernel_rfl) (by kernel_rfl) ?_
        refine blockQ_ret ?_
        refine seqQ_ret ?_
        refine round_ret ?_
        refine escQ_ret ?_
        exact exQ_mk (by kernel_rfl) (by kernel_rfl)
      · replace h := ofF h17 h
        refine W_skip [0, 1, 7, 8] [] (fr' := [(0, aD (.slice .bool) a0), (1, aB a1), (7, aI (List.length a0 : Int)), (8, aI i11)]) (L' := []) (by kernel_rfl) (by kernel_rfl) ?_
        refine blockQ_norm ?_
        refine seqQ_norm ?_
        obtain rfl := Option.some.inj h
        refine W_run 2 [] [0, 1, 7, 8] [] (fr' := [(0, aD (.slice .bool) a0), (1, aB a1), (7, aI (List.length a0 : Int)), (8, aI (w64 (i11 + (1 : Int))))]) (L' := []) (obs := []) (by kernel_rfl) (by kernel_rfl) (by kernel_rfl) allP0 ?_
        exact round_next' (by kernel_rfl) (by kernel_rfl)
    · obtain rfl := stepL_false h16 h
      refine W_exit (id := 0) [] [] (fr' := []) (L' := []) (by kernel_rfl) (by kernel_rfl) ?_
      refine seqQ_exit ?_
      refine round_exit ?_
      refine escQ_brk ?_
      exact exQ_mk (by kernel_rfl) (by kernel_rfl)
  · intro e fr L hJ
    rcases v19 with v24 | v25
    · obtain ⟨rfl, rfl, rfl⟩ := hJ
      obtain rfl := Option.some.inj h
      refine LT_keep [4] [] (fr' := [(4, aI v24)]) (L' := []) (by kernel_rfl) ?_
      refine blockQ_ret ?_
      refine seqQ_ret ?_
      exact retQ_mk (by kernel_rfl) (by kernel_rfl) (by kernel_rfl)
    · obtain ⟨rfl, rfl, rfl⟩ := hJ
      refine LT_keep [] [] (fr' := []) (L' := []) (by kernel_rfl) ?_
      refine blockQ_hit ?_
      refine seqQ_norm ?_
      refine W_seq (by kernel_rfl) ?_
      refine W_run 1 [] [4] [] (fr' := [(4, aI (-1 : Int))]) (L' := []) (obs := []) (by kernel_rfl) (by kernel_rfl) (by kernel_rfl) allP0 ?_
      refine seqQ_norm ?_
      obtain rfl := Option.some.inj h
      refine W_ret [4] [] (fr' := [(4, aI (-1 : Int))]) (L' := []) (by kernel_rfl) (by kernel_rfl) ?_
      exact retQ_mk (by kernel_rfl) (by kernel_rfl) (by kernel_rfl)

def slices_Contains_Lboolbool (a0 : (List Bool)) (a1 : Bool) : Option Bool :=
(slices_Index_Lboolbool a0 a1).bind fun r1 =>
some (decide (r1 ≥ (0 : Int)))
theorem slices_Contains_Lboolbool_ok {a0 : (List Bool)} {a1 : Bool} {r : Bool} (h : slices_Contains_Lboolbool a0 a1 = some r) : FnC Try.prog 40 [aD (.slice .bool) a0, aB a1] [] (aB r) [] := by
  refine fnC_of_W (B := bodyOf Try.f40) (n := 9) Try.func40 (by kernel_rfl) (by kernel_rfl) (by kernel_rfl) (by kernel_rfl) (by kernel_rfl) ?_
  intro K
  refine W_seq (by kernel_rfl) ?_
  refine W_run 1 [] [0, 1] [] (fr' := [(0, aD (.slice .bool) a0), (1, aB a1)]) (L' := []) (obs := []) (by kernel_rfl) (by kernel_rfl) (by kernel_rfl) allP0 ?_
  refine seqQ_norm ?_
  refine W_seq (by kernel_rfl) ?_
  refine W_region (by kernel_rfl) ?_
  refine WO_run (j := 2) (k := 2) (orcs := []) (kF := [5, 6]) (kL := []) (fr' := [(5, aD (.slice .bool) a0), (6, aB a1)]) (L' := []) (obs := []) rfl (by kernel_rfl) allP0 ?_
  obtain ⟨r1, h2, h⟩ := bind_of h
  refine WO_call0 (us := [none, none]) (d := 7) (p := True) (j := 3) rfl ⟨by kernel_rfl, by kernel_rfl, by kernel_rfl⟩ trivial (slices_Index_Lboolbool_ok h2) (by kernel_rfl) ?_
  refine WO_run (j := 5) (k := 2) (orcs := []) (kF := [4]) (kL := []) (fr' := [(4, aB (decide (r1 ≥ (0 : Int))))]) (L' := []) (obs := []) rfl (by kernel_rfl) allP0 ?_
  refine WO_fin [4] [] (fr' := [(4, aB (decide (r1 ≥ (0 : Int))))]) (L' := []) (by kernel_rfl) (by kernel_rfl) ?_
  refine seqQ_norm ?_
  obtain rfl := Option.some.inj h
  refine W_ret [4] [] (fr' := [(4, aB (decide (r1 ≥ (0 : Int))))]) (L' := []) (by kernel_rfl) (by kernel_rfl) ?_
  exact retQ_mk (by kernel_rfl) (by kernel_rfl) (by kernel_rfl)

def gate_Maker_Put_i2_g1 (a1 : Int) (a2 : Int) (a3 : Int) (c0 : (List (Int × (Int × Int)))) (v4 : (Option (List ((Int × (Int × Int)) × Int)))) : Option (Int × (List (Int × (Int × Int))) × (Option (List ((Int × (Int × Int)) × Int)))) :=
bif !(Option.isSome (mGet (deqT (.pair tI (.pair tI tI))) (Option.getD v4 []) (a1, a2, a3))) then
((ck ((List.length c0 : Int) + 1 ≤ 4294967296)).bind fun _ =>
(ck (Option.isSome v4 = true)).bind fun _ =>
some ((List.length c0 : Int), c0 ++ [(a1, a2, a3)], Option.map (fun l => mPut (deqT (.pair tI (.pair tI tI))) l (a1, a2, a3) (List.length c0 : Int)) v4))
else
(some (Option.getD (mGet (deqT (.pair tI (.pair tI tI))) (Option.getD v4 []) (a1, a2, a3)) (0 : Int), c0, v4))
@[reducible] def gate_Maker_Put_i2_s2 (v : (Int × (List (Int × (Int × Int))) × (Option (List ((Int × (Int × Int)) × Int))))) : Fr × LL := ([(10, aI v.1)], [(1000, .cells [.slc 2001, .slc 2002]), (2001, .seq (.pair tI (.pair tI tI)) v.2.1), (2002, .map (.pair tI (.pair tI tI)) tI v.2.2)])
@[reducible] def gate_Maker_Put_i2_s3 (a1 : Int) (a2 : Int) (a3 : Int) (c0 : (List (Int × (Int × Int)))) (v : (Option (List ((Int × (Int × Int)) × Int)))) : Fr × LL := ([(0, .one (.ptr 1000 0)), (9, .one (.ptr 9 0))], [(1000, .cells [.slc 2001, .slc 2002]), (9, .one (.pair tI (.pair tI tI)) (a1, a2, a3)), (2001, .seq (.pair tI (.pair tI tI)) c0), (2002, .map (.pair tI (.pair tI tI)) tI v)])
def gate_Maker_Put_i2 (a1 : Int) (a2 : Int) (a3 : Int) (c0 : (List (Int × (Int × Int)))) (c1 : (Option (List ((Int × (Int × Int)) × Int)))) : Option (Int × (List (Int × (Int × Int))) × (Option (List ((Int × (Int × Int)) × Int)))) :=
(bif Option.isNone c1 then
(some (some [] : Option (List ((Int × (Int × Int)) × Int))))
else
(some c1)).bind fun v4 =>
(gate_Maker_Put_i2_g1 a1 a2 a3 c0 v4).bind fun v15 =>
some (v15.1, v15.2.1, v15.2.2)
theorem gate_Maker_Put_i2_ok {a1 : Int} {a2 : Int} {a3 : Int} {c0 : (List (Int × (Int × Int)))} {c1 : (Option (List ((Int × (Int × Int)) × Int)))} {r : (Int × (List (Int × (Int × Int))) × (Option (List ((Int × (Int × Int)) × Int))))} (h : gate_Maker_Put_i2 a1 a2 a3 c0 c1 = some r) : FnC Try.prog 30 [.one (.ptr 1000 0), aI a1, aI a2, aI a3] [(1000, .cells [.slc 2001, .slc 2002]), (2001, .seq (.pair tI (.pair tI tI)) c0), (2002, .map (.pair tI (.pair tI tI)) tI c1)] (aI r.1) [(1000, .cells [.slc 2001, .slc 2002]), (2001, .seq (.pair tI (.pair tI tI)) r.2.1), (2002, .map (.pair tI (.pair tI tI)) tI r.2.2)] := by
  refine fnC_of_W (B := bodyOf Try.f30) (n := 58) Try.func30 (by kernel_rfl) (by kernel_rfl) (by kernel_rfl) (by kernel_rfl) (by kernel_rfl) ?_
  intro K
  refine W_seq (by kernel_rfl) ?_
  refine W_run 1 [] [0, 1, 2, 3] [1000, 2001, 2002] (fr' := [(0, .one (.ptr 1000 0)), (1, aI a1), (2, aI a2), (3, aI a3)]) (L' := [(1000, .cells [.slc 2001, .slc 2002]), (2001, .seq (.pair tI (.pair tI tI)) c0), (2002, .map (.pair tI (.pair tI tI)) tI c1)]) (obs := []) (by kernel_rfl) (by kernel_rfl) (by kernel_rfl) allP0 ?_
  refine seqQ_norm ?_
  refine W_seq (by kernel_rfl) ?_
  refine W_run 6 [(9, .typed)] [0, 9] [1000, 9, 2001, 2002] (fr' := [(0, .one (.ptr 1000 0)), (9, .one (.ptr 9 0))]) (L' := [(1000, .cells [.slc 2001, .slc 2002]), (9, .one (.pair tI (.pair tI tI)) (a1, a2, a3)), (2001, .seq (.pair tI (.pair tI tI)) c0), (2002, .map (.pair tI (.pair tI tI)) tI c1)]) (obs := [True]) (by kernel_rfl) (by kernel_rfl) (by kernel_rfl) (allP1 trivial) ?_
  refine seqQ_norm ?_
  refine W_seq (by kernel_rfl) ?_
  obtain ⟨v4, h5, h⟩ := bind_of h
  refine W_cutK (Q' := (exQ .normal (gate_Maker_Put_i2_s3 a1 a2 a3 c0)) v4) ?_ ?_
  · replace h := h5
    refine W_seq (by kernel_rfl) ?_
    refine W_run 5 [] [0, 9, 20] [1000, 9, 2001, 2002] (fr' := [(0, .one (.ptr 1000 0)), (9, .one (.ptr 9 0)), (20, aB (Option.isNone c1))]) (L' := [(1000, .cells [.slc 2001, .slc 2002]), (9, .one (.pair tI (.pair tI tI)) (a1, a2, a3)), (2001, .seq (.pair tI (.pair tI tI)) c0), (2002, .map (.pair tI (.pair tI tI)) tI c1)]) (obs := []) (by kernel_rfl) (by kernel_rfl) (by kernel_rfl) allP0 ?_
    refine seqQ_norm ?_
    refine W_cond (o := .tmp 20) (b := Option.isNone c1) (by kernel_rfl) (by kernel_rfl) (fun h3 => ?_) (fun h3 => ?_)
    · replace h := ofT h3 h
      refine W_region (by kernel_rfl) ?_
      refine WO_run (j := 5) (k := 5) (orcs := []) (kF := [0, 9]) (kL := [9, 22, 1000, 2001, 2002]) (fr' := [(0, .one (.ptr 1000 0)), (9, .one (.ptr 9 0))]) (L' := [(9, .one (.pair tI (.pair tI tI)) (a1, a2, a3)), (22, .map (.pair tI (.pair tI tI)) tI (some [] : Option (List ((Int × (Int × Int)) × Int)))), (1000, .cells [.slc 2001, .slc 22]), (2001, .seq (.pair tI (.pair tI tI)) c0), (2002, .map (.pair tI (.pair tI tI)) tI c1)]) (obs := [True]) rfl (by kernel_rfl) (allP1 trivial) ?_
      obtain rfl := Option.some.inj h
      refine WO_ren 22 2002 (by kernel_rfl) ?_
      refine WO_fin [0, 9] [1000, 9, 2001, 2002] (fr' := [(0, .one (.ptr 1000 0)), (9, .one (.ptr 9 0))]) (L' := [(1000, .cells [.slc 2001, .slc 2002]), (9, .one (.pair tI (.pair tI tI)) (a1, a2, a3)), (2001, .seq (.pair tI (.pair tI tI)) c0), (2002, .map (.pair tI (.pair tI tI)) tI (some [] : Option (List ((Int × (Int × Int)) × Int))))]) (by kernel_rfl) (by kernel_rfl) ?_
      exact exQ_mk (by kernel_rfl) (by kernel_rfl)
    · replace h := ofF h3 h
      obtain rfl := Option.some.inj h
      refine W_skip [0, 9] [1000, 9, 2001, 2002] (fr' := [(0, .one (.ptr 1000 0)), (9, .one (.ptr 9 0))]) (L' := [(1000, .cells [.slc 2001, .slc 2002]), (9, .one (.pair tI (.pair tI tI)) (a1, a2, a3)), (2001, .seq (.pair tI (.pair tI tI)) c0), (2002, .map (.pair tI (.pair tI tI)) tI c1)]) (by kernel_rfl) (by kernel_rfl) ?_
      exact exQ_mk (by kernel_rfl) (by kernel_rfl)
  · intro e fr L hJ
    obtain ⟨rfl, rfl, rfl⟩ := hJ
    refine LT_keep [0, 9] [1000, 9, 2001, 2002] (fr' := [(0, .one (.ptr 1000 0)), (9, .one (.ptr 9 0))]) (L' := [(1000, .cells [.slc 2001, .slc 2002]), (9, .one (.pair tI (.pair tI tI)) (a1, a2, a3)), (2001, .seq (.pair tI (.pair tI tI)) c0), (2002, .map (.pair tI (.pair tI tI)) tI v4)]) (by kernel_rfl) ?_
    refine seqQ_norm ?_
    refine W_seq (by kernel_rfl) ?_
    refine W_draw2 10 [] [] [0, 9, 10, 11] [1000, 9, 2001, 2002] (fr' := [(0, .one (.ptr 1000 0)), (9, .one (.ptr 9 0)), (10, aI (Option.getD (mGet (deqT (.pair tI (.pair tI tI))) (Option.getD v4 []) (a1, a2, a3)) (0 : Int))), (11, aB (Option.isSome (mGet (deqT (.pair tI (.pair tI tI))) (Option.getD v4 []) (a1, a2, a3))))]) (L' := [(1000, .cells [.slc 2001, .slc 2002]), (9, .one (.pair tI (.pair tI tI)) (a1, a2, a3)), (2001, .seq (.pair tI (.pair tI tI)) c0), (2002, .map (.pair tI (.pair tI tI)) tI v4)]) (out := [(26, .one (.ptr 1000 0)), (27, .one (.ptr 1000 0)), (28, .one (.ptr 1000 1)), (29, .one (.slc 2002)), (30, aD (.pair tI (.pair tI tI)) (a1, a2, a3)), (31, .tup [.dat tI (Option.getD (mGet (deqT (.pair tI (.pair tI tI))) (Option.getD v4 []) (a1, a2, a3)) (0 : Int)), .dat .bool (Option.isSome (mGet (deqT (.pair tI (.pair tI tI))) (Option.getD v4 []) (a1, a2, a3)))]), (25, .tup [.dat tI (Option.getD (mGet (deqT (.pair tI (.pair tI tI))) (Option.getD v4 []) (a1, a2, a3)) (0 : Int)), .dat .bool (Option.isSome (mGet (deqT (.pair tI (.pair tI tI))) (Option.getD v4 []) (a1, a2, a3)))]), (32, aI (Option.getD (mGet (deqT (.pair tI (.pair tI tI))) (Option.getD v4 []) (a1, a2, a3)) (0 : Int))), (33, aB (Option.isSome (mGet (deqT (.pair tI (.pair tI tI))) (Option.getD v4 []) (a1, a2, a3)))), (10, aI (Option.getD (mGet (deqT (.pair tI (.pair tI tI))) (Option.getD v4 []) (a1, a2, a3)) (0 : Int)))]) (obs := []) (obs2 := []) (calls := []) (by kernel_rfl) (by kernel_rfl) (by kernel_rfl) (by kernel_rfl) allP0 allC0 (by kernel_rfl) allP0 ?_
    refine seqQ_norm ?_
    refine W_seq (by kernel_rfl) ?_
    obtain ⟨v15, h16, h⟩ := bind_of h
    refine W_cutK (Q' := (exQ .normal gate_Maker_Put_i2_s2) v15) ?_ ?_
    · replace h := h16
      refine W_seq (by kernel_rfl) ?_
      refine W_run 2 [] [0, 9, 10, 35] [1000, 9, 2001, 2002] (fr' := [(0, .one (.ptr 1000 0)), (9, .one (.ptr 9 0)), (10, aI (Option.getD (mGet (deqT (.pair tI (.pair tI tI))) (Option.getD v4 []) (a1, a2, a3)) (0 : Int))), (35, aB (!(Option.isSome (mGet (deqT (.pair tI (.pair tI tI))) (Option.getD v4 []) (a1, a2, a3)))))]) (L' := [(1000, .cells [.slc 2001, .slc 2002]), (9, .one (.pair tI (.pair tI tI)) (a1, a2, a3)), (2001, .seq (.pair tI (.pair tI tI)) c0), (2002, .map (.pair tI (.pair tI tI)) tI v4)]) (obs := []) (by kernel_rfl) (by kernel_rfl) (by kernel_rfl) allP0 ?_
      refine seqQ_norm ?_
      refine W_cond (o := .tmp 35) (b := !(Option.isSome (mGet (deqT (.pair tI (.pair tI tI))) (Option.getD v4 []) (a1, a2, a3)))) (by kernel_rfl) (by kernel_rfl) (fun h12 => ?_) (fun h12 => ?_)
      · replace h := ofT h12 h
        refine W_seq (by kernel_rfl) ?_
        refine W_run 6 [] [0, 9, 10] [1000, 9, 2001, 2002] (fr' := [(0, .one (.ptr 1000 0)), (9, .one (.ptr 9 0)), (10, aI (List.length c0 : Int))]) (L' := [(1000, .cells [.slc 2001, .slc 2002]), (9, .one (.pair tI (.pair tI tI)) (a1, a2, a3)), (2001, .seq (.pair tI (.pair tI tI)) c0), (2002, .map (.pair tI (.pair tI tI)) tI v4)]) (obs := []) (by kernel_rfl) (by kernel_rfl) (by kernel_rfl) allP0 ?_
        refine seqQ_norm ?_
        refine W_seq (by kernel_rfl) ?_
        obtain ⟨_, h13, h⟩ := bind_of h
        replace h13 := ck_some h13
        refine W_draw5 7 [0] [] [] [0, 9, 10] [1000, 9, 2001, 2002] (fr' := [(0, .one (.ptr 1000 0)), (9, .one (.ptr 9 0)), (10, aI (List.length c0 : Int))]) (L' := [(1000, .cells [.slc 2001, .slc 2002]), (9, .one (.pair tI (.pair tI tI)) (a1, a2, a3)), (2001, .seq (.pair tI (.pair tI tI)) (c0 ++ [(a1, a2, a3)])), (2002, .map (.pair tI (.pair tI tI)) tI v4)]) (out := [(41, .one (.ptr 1000 0)), (42, .one (.ptr 1000 0)), (43, .one (.ptr 1000 0)), (44, .one (.ptr 1000 0)), (45, .one (.slc 2001)), (46, aD (.pair tI (.pair tI tI)) (a1, a2, a3)), (47, aD (.slice (.pair tI (.pair tI tI))) [(a1, a2, a3)])]) (obs := [True]) (obs2 := [SmallLen (List.length c0 + List.length [(a1, a2, a3)]), True]) (calls := []) (by kernel_rfl) (by kernel_rfl) (by kernel_rfl) (by kernel_rfl) (allP1 trivial) allD0 (by kernel_rfl) (allP2 h13 (allP1 trivial)) ?_
        refine seqQ_norm ?_
        obtain ⟨_, h14, h⟩ := bind_of h
        replace h14 := ck_some h14
        obtain rfl := Option.some.inj h
        refine W_draw2 6 [] [] [10] [1000, 2001, 2002] (fr' := [(10, aI (List.length c0 : Int))]) (L' := [(1000, .cells [.slc 2001, .slc 2002]), (2001, .seq (.pair tI (.pair tI tI)) (c0 ++ [(a1, a2, a3)])), (2002, .map (.pair tI (.pair tI tI)) tI (Option.map (fun l => mPut (deqT (.pair tI (.pair tI tI))) l (a1, a2, a3) (List.length c0 : Int)) v4))]) (out := [(51, .one (.ptr 1000 0)), (52, .one (.ptr 1000 0)), (53, .one (.ptr 1000 1)), (54, .one (.slc 2002)), (55, aD (.pair tI (.pair tI tI)) (a1, a2, a3)), (56, aI (List.length c0 : Int))]) (obs := []) (obs2 := [Option.isSome v4 = true]) (calls := []) (by kernel_rfl) (by kernel_rfl) (by kernel_rfl) (by kernel_rfl) allP0 allC0 (by kernel_rfl) (allP1 h14) ?_
        exact exQ_mk (by kernel_rfl) (by kernel_rfl)
      · replace h := ofF h12 h
        obtain rfl := Option.some.inj h
        refine W_skip [10] [1000, 2001, 2002] (fr' := [(10, aI (Option.getD (mGet (deqT (.pair tI (.pair tI tI))) (Option.getD v4 []) (a1, a2, a3)) (0 : Int)))]) (L' := [(1000, .cells [.slc 2001, .slc 2002]), (2001, .seq (.pair tI (.pair tI tI)) c0), (2002, .map (.pair tI (.pair tI tI)) tI v4)]) (by kernel_rfl) (by kernel_rfl) ?_
        exact exQ_mk (by kernel_rfl) (by kernel_rfl)
    · intro e fr L hJ
      obtain ⟨rfl, rfl, rfl⟩ := hJ
      refine LT_keep [10] [1000, 2001, 2002] (fr' := [(10, aI v15.1)]) (L' := [(1000, .cells [.slc 2001, .slc 2002]), (2001, .seq (.pair tI (.pair tI tI)) v15.2.1), (2002, .map (.pair tI (.pair tI tI)) tI v15.2.2)]) (by kernel_rfl) ?_
      refine seqQ_norm ?_
      refine W_seq (by kernel_rfl) ?_
      refine W_run 2 [] [8] [1000, 2001, 2002] (fr' := [(8, aI v15.1)]) (L' := [(1000, .cells [.slc 2001, .slc 2002]), (2001, .seq (.pair tI (.pair tI tI)) v15.2.1), (2002, .map (.pair tI (.pair tI tI)) tI v15.2.2)]) (obs := []) (by kernel_rfl) (by kernel_rfl) (by kernel_rfl) allP0 ?_
      refine seqQ_norm ?_
      obtain rfl := Option.some.inj h
      refine W_ret [8] [1000, 2001, 2002] (fr' := [(8, aI v15.1)]) (L' := [(1000, .cells [.slc 2001, .slc 2002]), (2001, .seq (.pair tI (.pair tI tI)) v15.2.1), (2002, .map (.pair tI (.pair tI tI)) tI v15.2.2)]) (by kernel_rfl) (by kernel_rfl) ?_
      exact retQ_mk (by kernel_rfl) (by kernel_rfl) (by kernel_rfl)

def gate_Maker_constant_i2 (a1 : Bool) (c0 : (List (Int × (Int × Int)))) (c1 : (Option (List ((Int × (Int × Int)) × Int)))) : Option (Int × (List (Int × (Int × Int))) × (Option (List ((Int × (Int × Int)) × Int)))) :=
(gate_Maker_Put_i2 (1 : Int) (0 : Int) (0 : Int) c0 c1).bind fun r1 =>
(gate_Maker_Put_i2 (2 : Int) r1.1 (0 : Int) r1.2.1 r1.2.2).bind fun r3 =>
bif a1 then
((gate_Maker_Put_i2 (4 : Int) r1.1 r3.1 r3.2.1 r3.2.2).bind fun r6 =>
some (r6.1, r6.2.1, r6.2.2))
else
((gate_Maker_Put_i2 (3 : Int) r1.1 r3.1 r3.2.1 r3.2.2).bind fun r8 =>
some (r8.1, r8.2.1, r8.2.2))
theorem gate_Maker_constant_i2_ok {a1 : Bool} {c0 : (List (Int × (Int × Int)))} {c1 : (Option (List ((Int × (Int × Int)) × Int)))} {r : (Int × (List (Int × (Int × Int))) × (Option (List ((Int × (Int × Int)) × Int))))} (h : gate_Maker_constant_i2 a1 c0 c1 = some r) : FnC Try.prog 41 [.one (.ptr 1000 0), aB a1] [(1000, .cells [.slc 2001, .slc 2002]), (2001, .seq (.pair tI (.pair tI tI)) c0), (2002, .map (.pair tI (.pair tI tI)) tI c1)] (aI r.1) [(1000, .cells [.slc 2001, .slc 2002]), (2001, .seq (.pair tI (.pair tI tI)) r.2.1), (2002, .map (.pair tI (.pair tI tI)) tI r.2.2)] := by
  refine fnC_of_W (B := bodyOf Try.f41) (n := 21) Try.func41 (by kernel_rfl) (by kernel_rfl) (by kernel_rfl) (by kernel_rfl) (by kernel_rfl) ?_
  intro K
  refine W_seq (by kernel_rfl) ?_
  refine W_run 1 [] [0, 1] [1000, 2001, 2002] (fr' := [(0, .one (.ptr 1000 0)), (1, aB a1)]) (L' := [(1000, .cells [.slc 2001, .slc 2002]), (2001, .seq (.pair tI (.pair tI tI)) c0), (2002, .map (.pair tI (.pair tI tI)) tI c1)]) (obs := []) (by kernel_rfl) (by kernel_rfl) (by kernel_rfl) allP0 ?_
  refine seqQ_norm ?_
  refine W_seq (by kernel_rfl) ?_
  refine W_region (by kernel_rfl) ?_
  refine WO_run (j := 1) (k := 1) (orcs := []) (kF := [0, 1, 7]) (kL := [1000, 2001, 2002]) (fr' := [(0, .one (.ptr 1000 0)), (1, aB a1), (7, .one (.ptr 1000 0))]) (L' := [(1000, .cells [.slc 2001, .slc 2002]), (2001, .seq (.pair tI (.pair tI tI)) c0), (2002, .map (.pair tI (.pair tI tI)) tI c1)]) (obs := []) rfl (by kernel_rfl) allP0 ?_
  obtain ⟨r1, h2, h⟩ := bind_of h
  refine WO_lend2 [(1000, 1000), (2001, 2001), (2002, 2002)] (us := [none, none, none, none]) (d := 8) (p := True) (j := 2) rfl ⟨by kernel_rfl, by kernel_rfl, by kernel_rfl⟩ trivial (gate_Maker_Put_i2_ok h2) (by kernel_rfl) (by kernel_rfl) ?_
  refine WO_run (j := 3) (k := 1) (orcs := []) (kF := [0, 1, 5]) (kL := [1000, 2001, 2002]) (fr' := [(0, .one (.ptr 1000 0)), (1, aB a1), (5, aI r1.1)]) (L' := [(1000, .cells [.slc 2001, .slc 2002]), (2001, .seq (.pair tI (.pair tI tI)) r1.2.1), (2002, .map (.pair tI (.pair tI tI)) tI r1.2.2)]) (obs := []) rfl (by kernel_rfl) allP0 ?_
  refine WO_fin [0, 1, 5] [1000, 2001, 2002] (fr' := [(0, .one (.ptr 1000 0)), (1, aB a1), (5, aI r1.1)]) (L' := [(1000, .cells [.slc 2001, .slc 2002]), (2001, .seq (.pair tI (.pair tI tI)) r1.2.1), (2002, .map (.pair tI (.pair tI tI)) tI r1.2.2)]) (by kernel_rfl) (by kernel_rfl) ?_
  refine seqQ_norm ?_
  refine W_seq (by kernel_rfl) ?_
  refine W_region (by kernel_rfl) ?_
  refine WO_run (j := 2) (k := 2) (orcs := []) (kF := [0, 1, 5, 9, 10]) (kL := [1000, 2001, 2002]) (fr' := [(0, .one (.ptr 1000 0)), (1, aB a1), (5, aI r1.1), (9, .one (.ptr 1000 0)), (10, aI r1.1)]) (L' := [(1000, .cells [.slc 2001, .slc 2002]), (2001, .seq (.pair tI (.pair tI tI)) r1.2.1), (2002, .map (.pair tI (.pair tI tI)) tI r1.2.2)]) (obs := []) rfl (by kernel_rfl) allP0 ?_
  obtain ⟨r3, h4, h⟩ := bind_of h
  refine WO_lend2 [(1000, 1000), (2001, 2001), (2002, 2002)] (us := [none, none, none, none]) (d := 11) (p := True) (j := 3) rfl ⟨by kernel_rfl, by kernel_rfl, by kernel_rfl⟩ trivial (gate_Maker_Put_i2_ok h4) (by kernel_rfl) (by kernel_rfl) ?_
  refine WO_run (j := 4) (k := 1) (orcs := []) (kF := [0, 1, 5, 6]) (kL := [1000, 2001, 2002]) (fr' := [(0, .one (.ptr 1000 0)), (1, aB a1), (5, aI r1.1), (6, aI r3.1)]) (L' := [(1000, .cells [.slc 2001, .slc 2002]), (2001, .seq (.pair tI (.pair tI tI)) r3.2.1), (2002, .map (.pair tI (.pair tI tI)) tI r3.2.2)]) (obs := []) rfl (by kernel_rfl) allP0 ?_
  refine WO_fin [0, 1, 5, 6] [1000, 2001, 2002] (fr' := [(0, .one (.ptr 1000 0)), (1, aB a1), (5, aI r1.1), (6, aI r3.1)]) (L' := [(1000, .cells [.slc 2001, .slc 2002]), (2001, .seq (.pair tI (.pair tI tI)) r3.2.1), (2002, .map (.pair tI (.pair tI tI)) tI r3.2.2)]) (by kernel_rfl) (by kernel_rfl) ?_
  refine seqQ_norm ?_
  refine W_seq (by kernel_rfl) ?_
  refine W_seq (by kernel_rfl) ?_
  refine W_run 1 [] [0, 5, 6, 12] [1000, 2001, 2002] (fr' := [(0, .one (.ptr 1000 0)), (5, aI r1.1), (6, aI r3.1), (12, aB a1)]) (L' := [(1000, .cells [.slc 2001, .slc 2002]), (2001, .seq (.pair tI (.pair tI tI)) r3.2.1), (2002, .map (.pair tI (.pair tI tI)) tI r3.2.2)]) (obs := []) (by kernel_rfl) (by kernel_rfl) (by kernel_rfl) allP0 ?_
  refine seqQ_norm ?_
  refine W_cond (o := .tmp 12) (b := a1) (by kernel_rfl) (by kernel_rfl) (fun h5 => ?_) (fun h5 => ?_)
  · replace h := ofT h5 h
    refine W_seq (by kernel_rfl) ?_
    refine W_region (by kernel_rfl) ?_
    refine WO_run (j := 3) (k := 3) (orcs := []) (kF := [13, 14, 15]) (kL := [1000, 2001, 2002]) (fr' := [(13, .one (.ptr 1000 0)), (14, aI r1.1), (15, aI r3.1)]) (L' := [(1000, .cells [.slc 2001, .slc 2002]), (2001, .seq (.pair tI (.pair tI tI)) r3.2.1), (2002, .map (.pair tI (.pair tI tI)) tI r3.2.2)]) (obs := []) rfl (by kernel_rfl) allP0 ?_
    obtain ⟨r6, h7, h⟩ := bind_of h
    refine WO_lend2 [(1000, 1000), (2001, 2001), (2002, 2002)] (us := [none, none, none, none]) (d := 16) (p := True) (j := 4) rfl ⟨by kernel_rfl, by kernel_rfl, by kernel_rfl⟩ trivial (gate_Maker_Put_i2_ok h7) (by kernel_rfl) (by kernel_rfl) ?_
    refine WO_run (j := 5) (k := 1) (orcs := []) (kF := [4]) (kL := [1000, 2001, 2002]) (fr' := [(4, aI r6.1)]) (L' := [(1000, .cells [.slc 2001, .slc 2002]), (2001, .seq (.pair tI (.pair tI tI)) r6.2.1), (2002, .map (.pair tI (.pair tI tI)) tI r6.2.2)]) (obs := []) rfl (by kernel_rfl) allP0 ?_
    refine WO_fin [4] [1000, 2001, 2002] (fr' := [(4, aI r6.1)]) (L' := [(1000, .cells [.slc 2001, .slc 2002]), (2001, .seq (.pair tI (.pair tI tI)) r6.2.1), (2002, .map (.pair tI (.pair tI tI)) tI r6.2.2)]) (by kernel_rfl) (by kernel_rfl) ?_
    refine seqQ_norm ?_
    obtain rfl := Option.some.inj h
    refine W_ret [4] [1000, 2001, 2002] (fr' := [(4, aI r6.1)]) (L' := [(1000, .cells [.slc 2001, .slc 2002]), (2001, .seq (.pair tI (.pair tI tI)) r6.2.1), (2002, .map (.pair tI (.pair tI tI)) tI r6.2.2)]) (by kernel_rfl) (by kernel_rfl) ?_
    refine seqQ_ret ?_
    exact retQ_mk (by kernel_rfl) (by kernel_rfl) (by kernel_rfl)
  · replace h := ofF h5 h
    refine W_skip [0, 5, 6] [1000, 2001, 2002] (fr' := [(0, .one (.ptr 1000 0)), (5, aI r1.1), (6, aI r3.1)]) (L' := [(1000, .cells [.slc 2001, .slc 2002]), (2001, .seq (.pair tI (.pair tI tI)) r3.2.1), (2002, .map (.pair tI (.pair tI tI)) tI r3.2.2)]) (by kernel_rfl) (by kernel_rfl) ?_
    refine seqQ_norm ?_
    refine W_seq (by kernel_rfl) ?_
    refine W_region (by kernel_rfl) ?_
    refine WO_run (j := 3) (k := 3) (orcs := []) (kF := [17, 18, 19]) (kL := [1000, 2001, 2002]) (fr' := [(17, .one (.ptr 1000 0)), (18, aI r1.1), (19, aI r3.1)]) (L' := [(1000, .cells [.slc 2001, .slc 2002]), (2001, .seq (.pair tI (.pair tI tI)) r3.2.1), (2002, .map (.pair tI (.pair tI tI)) tI r3.2.2)]) (obs := []) rfl (by kernel_rfl) allP0 ?_
    obtain ⟨r8, h9, h⟩ := bind_of h
    refine WO_lend2 [(1000, 1000), (2001, 2001), (2002, 2002)] (us := [none, none, none, none]) (d := 20) (p := True) (j := 4) rfl ⟨by kernel_rfl, by kernel_rfl, by kernel_rfl⟩ trivial (gate_Maker_Put_i2_ok h9) (by kernel_rfl) (by kernel_rfl) ?_
    refine WO_run (j := 5) (k := 1) (orcs := []) (kF := [4]) (kL := [1000, 2001, 2002]) (fr' := [(4, aI r8.1)]) (L' := [(1000, .cells [.slc 2001, .slc 2002]), (2001, .seq (.pair tI (.pair tI tI)) r8.2.1), (2002, .map (.pair tI (.pair tI tI)) tI r8.2.2)]) (obs := []) rfl (by kernel_rfl) allP0 ?_
    refine WO_fin [4] [1000, 2001, 2002] (fr' := [(4, aI r8.1)]) (L' := [(1000, .cells [.slc 2001, .slc 2002]), (2001, .seq (.pair tI (.pair tI tI)) r8.2.1), (2002, .map (.pair tI (.pair tI tI)) tI r8.2.2)]) (by kernel_rfl) (by kernel_rfl) ?_
    refine seqQ_norm ?_
    obtain rfl := Option.some.inj h
    refine W_ret [4] [1000, 2001, 2002] (fr' := [(4, aI r8.1)]) (L' := [(1000, .cells [.slc 2001, .slc 2002]), (2001, .seq (.pair tI (.pair tI tI)) r8.2.1), (2002, .map (.pair tI (.pair tI tI)) tI r8.2.2)]) (by kernel_rfl) (by kernel_rfl) ?_
    exact retQ_mk (by kernel_rfl) (by kernel_rfl) (by kernel_rfl)

def slices_Equal_Lboolbool_b1 (a1 : (List Bool)) (i16 : Int) (v19 : Bool) (x17 : Unit) : Option (Flow Unit (Esc Bool Unit)) :=
(idx a1 i16).bind fun v22 =>
bif !(v19 == v22) then
(some (.done (.ret false)))
else
(some (.next ()))
@[reducible] def slices_Equal_Lboolbool_s2 (a0 : (List Bool)) (a1 : (List Bool)) (v : Int × Unit) : Fr × LL := ([(0, aD (.slice .bool) a0), (1, aD (.slice .bool) a1), (12, aI (List.length a0 : Int)), (13, aI v.1)], [])
@[reducible] def slices_Equal_Lboolbool_s3 (v : Bool) : Fr × LL := ([(4, aB v)], [])
@[reducible] def slices_Equal_Lboolbool_s4 (v : Unit) : Fr × LL := ([], [])
def slices_Equal_Lboolbool (a0 : (List Bool)) (a1 : (List Bool)) : Option Bool :=
bif (List.length a0 : Int) != (List.length a1 : Int) then
(some false)
else
((forL (slices_Equal_Lboolbool_b1 a1) (fun x17 => (.brk ())) a0 0 ()).bind fun v26 =>
match v26 with
| .ret v31 =>
(some v31)
| .brk v32 =>
(some true))
theorem slices_Equal_Lboolbool_ok {a0 : (List Bool)} {a1 : (List Bool)} {r : Bool} (h : slices_Equal_Lboolbool a0 a1 = some r) : FnC Try.prog 42 [aD (.slice .bool) a0, aD (.slice .bool) a1] [] (aB r) [] := by
  refine fnC_of_W (B := bodyOf Try.f42) (n := 26) Try.func42 (by kernel_rfl) (by kernel_rfl) (by kernel_rfl) (by kernel_rfl) (by kernel_rfl) ?_
  intro K
  refine W_seq (by kernel_rfl) ?_
  refine W_run 1 [] [0, 1] [] (fr' := [(0, aD (.slice .bool) a0), (1, aD (.slice .bool) a1)]) (L' := []) (obs := []) (by kernel_rfl) (by kernel_rfl) (by kernel_rfl) allP0 ?_
  refine seqQ_norm ?_
  refine W_seq (by kernel_rfl) ?_
  refine W_seq (by kernel_rfl) ?_
  refine W_run 5 [] [0, 1, 10] [] (fr' := [(0, aD (.slice .bool) a0), (1, aD (.slice .bool) a1), (10, aB ((List.length a0 : Int) != (List.length a1 : Int)))]) (L' := []) (obs := []) (by kernel_rfl) (by kernel_rfl) (by kernel_rfl) allP0 ?_
  refine seqQ_norm ?_
  refine W_cond (o := .tmp 10) (b := (List.length a0 : Int) != (List.length a1 : Int)) (by kernel_rfl) (by kernel_rfl) (fun h1 => ?_) (fun h1 => ?_)
  · replace h := ofT h1 h
    refine W_seq (by kernel_rfl) ?_
    refine W_run 1 [] [4] [] (fr' := [(4, aB false)]) (L' := []) (obs := []) (by kernel_rfl) (by kernel_rfl) (by kernel_rfl) allP0 ?_
    refine seqQ_norm ?_
    obtain rfl := Option.some.inj h
    refine W_ret [4] [] (fr' := [(4, aB false)]) (L' := []) (by kernel_rfl) (by kernel_rfl) ?_
    refine seqQ_ret ?_
    exact retQ_mk (by kernel_rfl) (by kernel_rfl) (by kernel_rfl)
  · replace h := ofF h1 h
    refine W_skip [0, 1] [] (fr' := [(0, aD (.slice .bool) a0), (1, aD (.slice .bool) a1)]) (L' := []) (by kernel_rfl) (by kernel_rfl) ?_
    refine seqQ_norm ?_
    refine W_seq (by kernel_rfl) ?_
    refine W_seq (by kernel_rfl) ?_
    refine W_run 3 [] [0, 1, 12, 13] [] (fr' := [(0, aD (.slice .bool) a0), (1, aD (.slice .bool) a1), (12, aI (List.length a0 : Int)), (13, aI (0 : Int))]) (L' := []) (obs := []) (by kernel_rfl) (by kernel_rfl) (by kernel_rfl) allP0 ?_
    refine seqQ_norm ?_
    refine W_block (id := 0) (by kernel_rfl) ?_
    obtain ⟨v26, h27, h⟩ := bind_of h
    refine W_len (t := 0) (u := .bool) (xs := a0) (by kernel_rfl) (fun h30 => ?_)
    obtain ⟨h28, h29⟩ := forL_iter h30 h27
    refine W_weaken [0, 1, 12, 13] [] (fr' := ((slices_Equal_Lboolbool_s2 a0 a1) ((0 : Int), ())).1) (L' := ((slices_Equal_Lboolbool_s2 a0 a1) ((0 : Int), ())).2) (by kernel_rfl) ?_
    refine W_cutK (W_loop (S := (slices_Equal_Lboolbool_s2 a0 a1)) (J := (escQ (exQ .ret slices_Equal_Lboolbool_s3) (exQ (.exit 0) slices_Equal_Lboolbool_s4))) (by kernel_rfl) ?_ h28 _ v26 h29) ?_
    · rintro ⟨i16, x17⟩ s h
      refine W_seq (by kernel_rfl) ?_
      refine W_run 1 [] [0, 1, 12, 13, 14] [] (fr' := [(0, aD (.slice .bool) a0), (1, aD (.slice .bool) a1), (12, aI (List.length a0 : Int)), (13, aI i16), (14, aB (decide (i16 < (List.length a0 : Int))))]) (L' := []) (obs := []) (by kernel_rfl) (by kernel_rfl) (by kernel_rfl) allP0 ?_
      refine seqQ_norm ?_
      refine W_seq (by kernel_rfl) ?_
      refine W_cond (o := .tmp 14) (b := decide (i16 < (List.length a0 : Int))) (by kernel_rfl) (by kernel_rfl) (fun h21 => ?_) (fun h21 => ?_)
      · replace h := stepL_true h21 h
        obtain ⟨v19, _, h20, h, rfl⟩ := h
        refine W_skip [0, 1, 12, 13] [] (fr' := [(0, aD (.slice .bool) a0), (1, aD (.slice .bool) a1), (12, aI (List.length a0 : Int)), (13, aI i16)]) (L' := []) (by kernel_rfl) (by kernel_rfl) ?_
        refine seqQ_norm ?_
        refine W_seq (by kernel_rfl) ?_
        refine W_block (id := 1) (by kernel_rfl) ?_
        refine W_seq (by kernel_rfl) ?_
        refine W_run 2 [] [0, 1, 5, 12, 13] [] (fr' := [(0, aD (.slice .bool) a0), (1, aD (.slice .bool) a1), (5, aI i16), (12, aI (List.length a0 : Int)), (13, aI i16)]) (L' := []) (obs := []) (by kernel_rfl) (by kernel_rfl) (by kernel_rfl) allP0 ?_
        refine seqQ_norm ?_
        refine W_seq (by kernel_rfl) ?_
        obtain ⟨v22, h23, h⟩ := bind_of h
        refine W_draw2 9 [(5, .val (.dat .bool v19)), (13, .val (.dat .bool v22))] [] [0, 1, 12, 13, 24] [] (fr' := [(0, aD (.slice .bool) a0), (1, aD (.slice .bool) a1), (12, aI (List.length a0 : Int)), (13, aI i16), (24, aB (!(v19 == v22)))]) (L' := []) (out := [(16, aD (.slice .bool) a0), (17, aI i16), (18, .one (.dptr .bool v19)), (19, aB v19), (20, aD (.slice .bool) a1), (21, aI i16), (22, .one (.dptr .bool v22)), (23, aB v22), (24, aB (!(v19 == v22)))]) (obs := [Idx a0 i16 v19, Idx a1 i16 v22]) (obs2 := []) (calls := []) (by kernel_rfl) (by kernel_rfl) (by kernel_rfl) (by kernel_rfl) (allP2 (Idx.of h20) (allP1 (Idx.of h23))) allC0 (by kernel_rfl) allP0 ?_
        refine seqQ_norm ?_
        refine W_cond (o := .tmp 24) (b := !(v19 == v22)) (by kernel_rfl) (by kernel_rfl) (fun h24 => ?_) (fun h24 => ?_)
        · replace h := ofT h24 h
          refine W_seq (by kernel_rfl) ?_
          refine W_run 1 [] [4] [] (fr' := [(4, aB false)]) (L' := []) (obs := []) (by kernel_rfl) (by kernel_rfl) (by kernel_rfl) allP0 ?_
          refine seqQ_norm ?_
          obtain rfl := Option.some.inj h
          refine W_ret [4] [] (fr' := [(4, aB false)]) (L' := []) (by kernel_rfl) (by kernel_rfl) ?_
          refine blockQ_ret ?_
          refine seqQ_ret ?_
          refine round_ret ?_
          refine escQ_ret ?_
          exact exQ_mk (by kernel_rfl) (by kernel_rfl)
        · replace h := ofF h24 h
          refine W_skip [0, 1, 12, 13] [] (fr' := [(0, aD (.slice .bool) a0), (1, aD (.slice .bool) a1), (12, aI (List.length a0 : Int)), (13, aI i16)]) (L' := []) (by kernel_rfl) (by kernel_rfl) ?_
          refine blockQ_norm ?_
          refine seqQ_norm ?_
          obtain rfl := Option.some.inj h
          refine W_run 2 [] [0, 1, 12, 13] [] (fr' := [(0, aD (.slice .bool) a0), (1, aD (.slice .bool) a1), (12, aI (List.length a0 : Int)), (13, aI (w64 (i16 + (1 : Int))))]) (L' := []) (obs := []) (by kernel_rfl) (by kernel_rfl) (by kernel_rfl) allP0 ?_
          exact round_next' (by kernel_rfl) (by kernel_rfl)
      · obtain rfl := stepL_false h21 h
        refine W_exit (id := 0) [] [] (fr' := []) (L' := []) (by kernel_rfl) (by kernel_rfl) ?_
        refine seqQ_exit ?_
        refine round_exit ?_
        refine escQ_brk ?_
        exact exQ_mk (by kernel_rfl) (by kernel_rfl)
    · intro e fr L hJ
      rcases v26 with v31 | v32
      · obtain ⟨rfl, rfl, rfl⟩ := hJ
        obtain rfl := Option.some.inj h
        refine LT_keep [4] [] (fr' := [(4, aB v31)]) (L' := []) (by kernel_rfl) ?_
        refine blockQ_ret ?_
        refine seqQ_ret ?_
        exact retQ_mk (by kernel_rfl) (by kernel_rfl) (by kernel_rfl)
      · obtain ⟨rfl, rfl, rfl⟩ := hJ
        refine LT_keep [] [] (fr' := []) (L' := []) (by kernel_rfl) ?_
        refine blockQ_hit ?_
        refine seqQ_norm ?_
        refine W_seq (by kernel_rfl) ?_
        refine W_run 1 [] [4] [] (fr' := [(4, aB true)]) (L' := []) (obs := []) (by kernel_rfl) (by kernel_rfl) (by kernel_rfl) allP0 ?_
        refine seqQ_norm ?_
        obtain rfl := Option.some.inj h
        refine W_ret [4] [] (fr' := [(4, aB true)]) (L' := []) (by kernel_rfl) (by kernel_rfl) ?_
        exact retQ_mk (by kernel_rfl) (by kernel_rfl) (by kernel_rfl)

def gate_Maker_table_i2_step (rf_gate_Maker_table_i2 : Int → (List Bool) → (List (Int × (Int × Int))) → (Option (List ((Int × (Int × Int)) × Int))) → Option (Int × (List (Int × (Int × Int))) × (Option (List ((Int × (Int × Int)) × Int))))) (fuel : Nat) (a1 : Int) (a2 : (List Bool)) (c0 : (List (Int × (Int × Int)))) (c1 : (Option (List ((Int × (Int × Int)) × Int)))) : Option (Int × (List (Int × (Int × Int))) × (Option (List ((Int × (Int × Int)) × Int)))) :=
(idx a2 (0 : Int)).bind fun v1 =>
(slices_Contains_Lboolbool a2 (!v1)).bind fun r3 =>
bif !r3 then
((gate_Maker_constant_i2 v1 c0 c1).bind fun r6 =>
some (r6.1, r6.2.1, r6.2.2))
else
((ck (0 ≤ (0 : Int) ∧ (0 : Int) ≤ w64 (Int.tdiv (List.length a2 : Int) (2 : Int)) ∧ w64 (Int.tdiv (List.length a2 : Int) (2 : Int)) ≤ (List.length a2 : Int))).bind fun _ =>
(ck (0 ≤ w64 (Int.tdiv (List.length a2 : Int) (2 : Int)) ∧ w64 (Int.tdiv (List.length a2 : Int) (2 : Int)) ≤ (List.length a2 : Int) ∧ (List.length a2 : Int) ≤ (List.length a2 : Int))).bind fun _ =>
(slices_Equal_Lboolbool (sub a2 (0 : Int) (w64 (Int.tdiv (List.length a2 : Int) (2 : Int)))) (sub a2 (w64 (Int.tdiv (List.length a2 : Int) (2 : Int))) (List.length a2 : Int))).bind fun r10 =>
bif r10 then
((rf_gate_Maker_table_i2 (w64 (a1 - (1 : Int))) (sub a2 (0 : Int) (w64 (Int.tdiv (List.length a2 : Int) (2 : Int)))) c0 c1).bind fun r13 =>
some (r13.1, r13.2.1, r13.2.2))
else
((gate_Maker_Put_i2 (1 : Int) (w64 (a1 - (1 : Int))) (0 : Int) c0 c1).bind fun r15 =>
bif a1 == (1 : Int) then
((idx (sub a2 (0 : Int) (w64 (Int.tdiv (List.length a2 : Int) (2 : Int)))) (0 : Int)).bind fun v18 =>
bif v18 then
((gate_Maker_Put_i2 (2 : Int) r15.1 (0 : Int) r15.2.1 r15.2.2).bind fun r21 =>
some (r21.1, r21.2.1, r21.2.2))
else
(some (r15.1, r15.2.1, r15.2.2)))
else
((gate_Maker_Put_i2 (2 : Int) r15.1 (0 : Int) r15.2.1 r15.2.2).bind fun r23 =>
(rf_gate_Maker_table_i2 (w64 (a1 - (1 : Int))) (sub a2 (0 : Int) (w64 (Int.tdiv (List.length a2 : Int) (2 : Int)))) r23.2.1 r23.2.2).bind fun r25 =>
(rf_gate_Maker_table_i2 (w64 (a1 - (1 : Int))) (sub a2 (w64 (Int.tdiv (List.length a2 : Int) (2 : Int))) (List.length a2 : Int)) r25.2.1 r25.2.2).bind fun r27 =>
(gate_Maker_Put_i2 (3 : Int) r23.1 r25.1 r27.2.1 r27.2.2).bind fun r29 =>
(gate_Maker_Put_i2 (3 : Int) r15.1 r27.1 r29.2.1 r29.2.2).bind fun r31 =>
(gate_Maker_Put_i2 (4 : Int) r29.1 r31.1 r31.2.1 r31.2.2).bind fun r33 =>
some (r33.1, r33.2.1, r33.2.2))))
def gate_Maker_table_i2 : Nat → Int → (List Bool) → (List (Int × (Int × Int))) → (Option (List ((Int × (Int × Int)) × Int))) → Option (Int × (List (Int × (Int × Int))) × (Option (List ((Int × (Int × Int)) × Int))))
  | 0 => fun _ _ _ _ => none
  | fuel + 1 => fun a1 a2 c0 c1 => gate_Maker_table_i2_step (gate_Maker_table_i2 fuel) fuel a1 a2 c0 c1
theorem gate_Maker_table_i2_step_ok {rf_gate_Maker_table_i2 : Int → (List Bool) → (List (Int × (Int × Int))) → (Option (List ((Int × (Int × Int)) × Int))) → Option (Int × (List (Int × (Int × Int))) × (Option (List ((Int × (Int × Int)) × Int))))} (ih_gate_Maker_table_i2 : ∀ {a1 : Int} {a2 : (List Bool)} {c0 : (List (Int × (Int × Int)))} {c1 : (Option (List ((Int × (Int × Int)) × Int)))} {r : (Int × (List (Int × (Int × Int))) × (Option (List ((Int × (Int × Int)) × Int))))}, rf_gate_Maker_table_i2 a1 a2 c0 c1 = some r → FnC Try.prog 33 [.one (.ptr 1000 0), aI a1, aD (.slice .bool) a2] [(1000, .cells [.slc 2001, .slc 2002]), (2001, .seq (.pair tI (.pair tI tI)) c0), (2002, .map (.pair tI (.pair tI tI)) tI c1)] (aI r.1) [(1000, .cells [.slc 2001, .slc 2002]), (2001, .seq (.pair tI (.pair tI tI)) r.2.1), (2002, .map (.pair tI (.pair tI tI)) tI r.2.2)]) {fuel : Nat} {a1 : Int} {a2 : (List Bool)} {c0 : (List (Int × (Int × Int)))} {c1 : (Option (List ((Int × (Int × Int)) × Int)))} {r : (Int × (List (Int × (Int × Int))) × (Option (List ((Int × (Int × Int)) × Int))))} (h : gate_Maker_table_i2_step rf_gate_Maker_table_i2 fuel a1 a2 c0 c1 = some r) : FnC Try.prog 33 [.one (.ptr 1000 0), aI a1, aD (.slice .bool) a2] [(1000, .cells [.slc 2001, .slc 2002]), (2001, .seq (.pair tI (.pair tI tI)) c0), (2002, .map (.pair tI (.pair tI tI)) tI c1)] (aI r.1) [(1000, .cells [.slc 2001, .slc 2002]), (2001, .seq (.pair tI (.pair tI tI)) r.2.1), (2002, .map (.pair tI (.pair tI tI)) tI r.2.2)] := by
  refine fnC_of_W (B := bodyOf Try.f33) (n := 87) Try.func33 (by kernel_rfl) (by kernel_rfl) (by kernel_rfl) (by kernel_rfl) (by kernel_rfl) ?_
  intro K
  refine W_seq (by kernel_rfl) ?_
  refine W_run 1 [] [0, 1, 2] [1000, 2001, 2002] (fr' := [(0, .one (.ptr 1000 0)), (1, aI a1), (2, aD (.slice .bool) a2)]) (L' := [(1000, .cells [.slc 2001, .slc 2002]), (2001, .seq (.pair tI (.pair tI tI)) c0), (2002, .map (.pair tI (.pair tI tI)) tI c1)]) (obs := []) (by kernel_rfl) (by kernel_rfl) (by kernel_rfl) allP0 ?_
  refine seqQ_norm ?_
  refine W_seq (by kernel_rfl) ?_
  refine W_run 4 [] [0, 1, 2, 7] [1000, 2001, 2002] (fr' := [(0, .one (.ptr 1000 0)), (1, aI a1), (2, aD (.slice .bool) a2), (7, aI (w64 (Int.tdiv (List.length a2 : Int) (2 : Int))))]) (L' := [(1000, .cells [.slc 2001, .slc 2002]), (2001, .seq (.pair tI (.pair tI tI)) c0), (2002, .map (.pair tI (.pair tI tI)) tI c1)]) (obs := [((2 : Int) ≠ 0)]) (by kernel_rfl) (by kernel_rfl) (by kernel_rfl) (allP1 (by decide)) ?_
  refine seqQ_norm ?_
  refine W_seq (by kernel_rfl) ?_
  refine W_block (id := 0) (by kernel_rfl) ?_
  refine W_seq (by kernel_rfl) ?_
  obtain ⟨v1, h2, h⟩ := bind_of h
  refine W_region (by kernel_rfl) ?_
  refine WO_run (j := 5) (k := 5) (orcs := [(5, .val (.dat .bool v1))]) (kF := [0, 1, 2, 7, 18, 22]) (kL := [1000, 2001, 2002]) (fr' := [(0, .one (.ptr 1000 0)), (1, aI a1), (2, aD (.slice .bool) a2), (7, aI (w64 (Int.tdiv (List.length a2 : Int) (2 : Int)))), (18, aD (.slice .bool) a2), (22, aB (!v1))]) (L' := [(1000, .cells [.slc 2001, .slc 2002]), (2001, .seq (.pair tI (.pair tI tI)) c0), (2002, .map (.pair tI (.pair tI tI)) tI c1)]) (obs := [Idx a2 (0 : Int) v1]) rfl (by kernel_rfl) (allP1 (Idx.of h2)) ?_
  obtain ⟨r3, h4, h⟩ := bind_of h
  refine WO_call0 (us := [none, none]) (d := 23) (p := True) (j := 6) rfl ⟨by kernel_rfl, by kernel_rfl, by kernel_rfl⟩ trivial (slices_Contains_Lboolbool_ok h4) (by kernel_rfl) ?_
  refine WO_run (j := 8) (k := 2) (orcs := []) (kF := [0, 1, 2, 7, 17]) (kL := [1000, 2001, 2002]) (fr' := [(0, .one (.ptr 1000 0)), (1, aI a1), (2, aD (.slice .bool) a2), (7, aI (w64 (Int.tdiv (List.length a2 : Int) (2 : Int)))), (17, aB (!r3))]) (L' := [(1000, .cells [.slc 2001, .slc 2002]), (2001, .seq (.pair tI (.pair tI tI)) c0), (2002, .map (.pair tI (.pair tI tI)) tI c1)]) (obs := []) rfl (by kernel_rfl) allP0 ?_
  refine WO_fin [0, 1, 2, 7, 17] [1000, 2001, 2002] (fr' := [(0, .one (.ptr 1000 0)), (1, aI a1), (2, aD (.slice .bool) a2), (7, aI (w64 (Int.tdiv (List.length a2 : Int) (2 : Int)))), (17, aB (!r3))]) (L' := [(1000, .cells [.slc 2001, .slc 2002]), (2001, .seq (.pair tI (.pair tI tI)) c0), (2002, .map (.pair tI (.pair tI tI)) tI c1)]) (by kernel_rfl) (by kernel_rfl) ?_
  refine seqQ_norm ?_
  refine W_cond (o := .tmp 17) (b := !r3) (by kernel_rfl) (by kernel_rfl) (fun h5 => ?_) (fun h5 => ?_)
  · replace h := ofT h5 h
    refine W_seq (by kernel_rfl) ?_
    refine W_region (by kernel_rfl) ?_
    refine WO_run (j := 4) (k := 4) (orcs := [(5, .val (.dat .bool v1))]) (kF := [25, 28]) (kL := [1000, 2001, 2002]) (fr' := [(25, .one (.ptr 1000 0)), (28, aB v1)]) (L' := [(1000, .cells [.slc 2001, .slc 2002]), (2001, .seq (.pair tI (.pair tI tI)) c0), (2002, .map (.pair tI (.pair tI tI)) tI c1)]) (obs := [Idx a2 (0 : Int) v1]) rfl (by kernel_rfl) (allP1 (Idx.of h2)) ?_
    obtain ⟨r6, h7, h⟩ := bind_of h
    refine WO_lend2 [(1000, 1000), (2001, 2001), (2002, 2002)] (us := [none, none]) (d := 29) (p := True) (j := 5) rfl ⟨by kernel_rfl, by kernel_rfl, by kernel_rfl⟩ trivial (gate_Maker_constant_i2_ok h7) (by kernel_rfl) (by kernel_rfl) ?_
    refine WO_run (j := 6) (k := 1) (orcs := []) (kF := [6]) (kL := [1000, 2001, 2002]) (fr' := [(6, aI r6.1)]) (L' := [(1000, .cells [.slc 2001, .slc 2002]), (2001, .seq (.pair tI (.pair tI tI)) r6.2.1), (2002, .map (.pair tI (.pair tI tI)) tI r6.2.2)]) (obs := []) rfl (by kernel_rfl) allP0 ?_
    refine WO_fin [6] [1000, 2001, 2002] (fr' := [(6, aI r6.1)]) (L' := [(1000, .cells [.slc 2001, .slc 2002]), (2001, .seq (.pair tI (.pair tI tI)) r6.2.1), (2002, .map (.pair tI (.pair tI tI)) tI r6.2.2)]) (by kernel_rfl) (by kernel_rfl) ?_
    refine seqQ_norm ?_
    obtain rfl := Option.some.inj h
    refine W_ret [6] [1000, 2001, 2002] (fr' := [(6, aI r6.1)]) (L' := [(1000, .cells [.slc 2001, .slc 2002]), (2001, .seq (.pair tI (.pair tI tI)) r6.2.1), (2002, .map (.pair tI (.pair tI tI)) tI r6.2.2)]) (by kernel_rfl) (by kernel_rfl) ?_
    refine blockQ_ret ?_
    refine seqQ_ret ?_
    exact retQ_mk (by kernel_rfl) (by kernel_rfl) (by kernel_rfl)
  · replace h := ofF h5 h
    refine W_seq (by kernel_rfl) ?_
    obtain ⟨_, h8, h⟩ := bind_of h
    replace h8 := ck_some h8
    obtain ⟨_, h9, h⟩ := bind_of h
    replace h9 := ck_some h9
    obtain ⟨r10, h11, h⟩ := bind_of h
    refine W_draw2 8 [] [(6, [none, none], aB r10)] [0, 1, 2, 7, 30] [1000, 2001, 2002] (fr' := [(0, .one (.ptr 1000 0)), (1, aI a1), (2, aD (.slice .bool) a2), (7, aI (w64 (Int.tdiv (List.length a2 : Int) (2 : Int)))), (30, aB r10)]) (L' := [(1000, .cells [.slc 2001, .slc 2002]), (2001, .seq (.pair tI (.pair tI tI)) c0), (2002, .map (.pair tI (.pair tI tI)) tI c1)]) (out := [(31, aD (.slice .bool) a2), (32, aI (w64 (Int.tdiv (List.length a2 : Int) (2 : Int)))), (33, aD (.slice .bool) (sub a2 (0 : Int) (w64 (Int.tdiv (List.length a2 : Int) (2 : Int))))), (34, aD (.slice .bool) a2), (35, aI (w64 (Int.tdiv (List.length a2 : Int) (2 : Int)))), (36, aD (.slice .bool) (sub a2 (w64 (Int.tdiv (List.length a2 : Int) (2 : Int))) (List.length a2 : Int))), (37, aB r10), (30, aB r10)]) (obs := [Cuts (0 : Int) (w64 (Int.tdiv (List.length a2 : Int) (2 : Int))) (List.length a2), Cuts (w64 (Int.tdiv (List.length a2 : Int) (2 : Int))) (List.length a2 : Int) (List.length a2), True]) (obs2 := []) (calls := [(42, [aD (.slice .bool) (sub a2 (0 : Int) (w64 (Int.tdiv (List.length a2 : Int) (2 : Int)))), aD (.slice .bool) (sub a2 (w64 (Int.tdiv (List.length a2 : Int) (2 : Int))) (List.length a2 : Int))], aB r10)]) (by kernel_rfl) (by kernel_rfl) (by kernel_rfl) (by kernel_rfl) (allP2 h8 (allP2 h9 (allP1 trivial))) (allC1 (by kernel_rfl) (slices_Equal_Lboolbool_ok h11) (by kernel_rfl) allC0) (by kernel_rfl) allP0 ?_
    refine seqQ_norm ?_
    refine W_cond (o := .tmp 30) (b := r10) (by kernel_rfl) (by kernel_rfl) (fun h12 => ?_) (fun h12 => ?_)
    · replace h := ofT h12 h
      refine W_seq (by kernel_rfl) ?_
      refine W_region (by kernel_rfl) ?_
      refine WO_run (j := 6) (k := 6) (orcs := []) (kF := [38, 40, 43]) (kL := [1000, 2001, 2002]) (fr' := [(38, .one (.ptr 1000 0)), (40, aI (w64 (a1 - (1 : Int)))), (43, aD (.slice .bool) (sub a2 (0 : Int) (w64 (Int.tdiv (List.length a2 : Int) (2 : Int)))))]) (L' := [(1000, .cells [.slc 2001, .slc 2002]), (2001, .seq (.pair tI (.pair tI tI)) c0), (2002, .map (.pair tI (.pair tI tI)) tI c1)]) (obs := [Cuts (0 : Int) (w64 (Int.tdiv (List.length a2 : Int) (2 : Int))) (List.length a2)]) rfl (by kernel_rfl) (allP1 h8) ?_
      obtain ⟨r13, h14, h⟩ := bind_of h
      refine WO_lend2 [(1000, 1000), (2001, 2001), (2002, 2002)] (us := [none, none, none]) (d := 44) (p := True) (j := 7) rfl ⟨by kernel_rfl, by kernel_rfl, by kernel_rfl⟩ trivial (ih_gate_Maker_table_i2 h14) (by kernel_rfl) (by kernel_rfl) ?_
      refine WO_run (j := 8) (k := 1) (orcs := []) (kF := [6]) (kL := [1000, 2001, 2002]) (fr' := [(6, aI r13.1)]) (L' := [(1000, .cells [.slc 2001, .slc 2002]), (2001, .seq (.pair tI (.pair tI tI)) r13.2.1), (2002, .map (.pair tI (.pair tI tI)) tI r13.2.2)]) (obs := []) rfl (by kernel_rfl) allP0 ?_
      refine WO_fin [6] [1000, 2001, 2002] (fr' := [(6, aI r13.1)]) (L' := [(1000, .cells [.slc 2001, .slc 2002]), (2001, .seq (.pair tI (.pair tI tI)) r13.2.1), (2002, .map (.pair tI (.pair tI tI)) tI r13.2.2)]) (by kernel_rfl) (by kernel_rfl) ?_
      refine seqQ_norm ?_
      obtain rfl := Option.some.inj h
      refine W_ret [6] [1000, 2001, 2002] (fr' := [(6, aI r13.1)]) (L' := [(1000, .cells [.slc 2001, .slc 2002]), (2001, .seq (.pair tI (.pair tI tI)) r13.2.1), (2002, .map (.pair tI (.pair tI tI)) tI r13.2.2)]) (by kernel_rfl) (by kernel_rfl) ?_
      refine blockQ_ret ?_
      refine seqQ_ret ?_
      exact retQ_mk (by kernel_rfl) (by kernel_rfl) (by kernel_rfl)
    · replace h := ofF h12 h
      refine W_skip [0, 1, 2, 7] [1000, 2001, 2002] (fr' := [(0, .one (.ptr 1000 0)), (1, aI a1), (2, aD (.slice .bool) a2), (7, aI (w64 (Int.tdiv (List.length a2 : Int) (2 : Int))))]) (L' := [(1000, .cells [.slc 2001, .slc 2002]), (2001, .seq (.pair tI (.pair tI tI)) c0), (2002, .map (.pair tI (.pair tI tI)) tI c1)]) (by kernel_rfl) (by kernel_rfl) ?_
      refine blockQ_norm ?_
      refine seqQ_norm ?_
      refine W_seq (by kernel_rfl) ?_
      refine W_region (by kernel_rfl) ?_
      refine WO_run (j := 3) (k := 3) (orcs := []) (kF := [0, 1, 2, 7, 45, 47]) (kL := [1000, 2001, 2002]) (fr' := [(0, .one (.ptr 1000 0)), (1, aI a1), (2, aD (.slice .bool) a2), (7, aI (w64 (Int.tdiv (List.length a2 : Int) (2 : Int)))), (45, .one (.ptr 1000 0)), (47, aI (w64 (a1 - (1 : Int))))]) (L' := [(1000, .cells [.slc 2001, .slc 2002]), (2001, .seq (.pair tI (.pair tI tI)) c0), (2002, .map (.pair tI (.pair tI tI)) tI c1)]) (obs := []) rfl (by kernel_rfl) allP0 ?_
      obtain ⟨r15, h16, h⟩ := bind_of h
      refine WO_lend2 [(1000, 1000), (2001, 2001), (2002, 2002)] (us := [none, none, none, none]) (d := 48) (p := True) (j := 4) rfl ⟨by kernel_rfl, by kernel_rfl, by kernel_rfl⟩ trivial (gate_Maker_Put_i2_ok h16) (by kernel_rfl) (by kernel_rfl) ?_
      refine WO_run (j := 5) (k := 1) (orcs := []) (kF := [0, 1, 2, 7, 8]) (kL := [1000, 2001, 2002]) (fr' := [(0, .one (.ptr 1000 0)), (1, aI a1), (2, aD (.slice .bool) a2), (7, aI (w64 (Int.tdiv (List.length a2 : Int) (2 : Int)))), (8, aI r15.1)]) (L' := [(1000, .cells [.slc 2001, .slc 2002]), (2001, .seq (.pair tI (.pair tI tI)) r15.2.1), (2002, .map (.pair tI (.pair tI tI)) tI r15.2.2)]) (obs := []) rfl (by kernel_rfl) allP0 ?_
      refine WO_fin [0, 1, 2, 7, 8] [1000, 2001, 2002] (fr' := [(0, .one (.ptr 1000 0)), (1, aI a1), (2, aD (.slice .bool) a2), (7, aI (w64 (Int.tdiv (List.length a2 : Int) (2 : Int)))), (8, aI r15.1)]) (L' := [(1000, .cells [.slc 2001, .slc 2002]), (2001, .seq (.pair tI (.pair tI tI)) r15.2.1), (2002, .map (.pair tI (.pair tI tI)) tI r15.2.2)]) (by kernel_rfl) (by kernel_rfl) ?_
      refine seqQ_norm ?_
      refine W_seq (by kernel_rfl) ?_
      refine W_draw2 7 [] [] [0, 1, 8, 9, 10] [1000, 2001, 2002] (fr' := [(0, .one (.ptr 1000 0)), (1, aI a1), (8, aI r15.1), (9, aD (.slice .bool) (sub a2 (0 : Int) (w64 (Int.tdiv (List.length a2 : Int) (2 : Int))))), (10, aD (.slice .bool) (sub a2 (w64 (Int.tdiv (List.length a2 : Int) (2 : Int))) (List.length a2 : Int)))]) (L' := [(1000, .cells [.slc 2001, .slc 2002]), (2001, .seq (.pair tI (.pair tI tI)) r15.2.1), (2002, .map (.pair tI (.pair tI tI)) tI r15.2.2)]) (out := [(49, aD (.slice .bool) a2), (50, aI (w64 (Int.tdiv (List.length a2 : Int) (2 : Int)))), (51, aD (.slice .bool) (sub a2 (0 : Int) (w64 (Int.tdiv (List.length a2 : Int) (2 : Int))))), (52, aD (.slice .bool) a2), (53, aI (w64 (Int.tdiv (List.length a2 : Int) (2 : Int)))), (54, aD (.slice .bool) (sub a2 (w64 (Int.tdiv (List.length a2 : Int) (2 : Int))) (List.length a2 : Int))), (9, aD (.slice .bool) (sub a2 (0 : Int) (w64 (Int.tdiv (List.length a2 : Int) (2 : Int)))))]) (obs := [Cuts (0 : Int) (w64 (Int.tdiv (List.length a2 : Int) (2 : Int))) (List.length a2), Cuts (w64 (Int.tdiv (List.length a2 : Int) (2 : Int))) (List.length a2 : Int) (List.length a2)]) (obs2 := []) (calls := []) (by kernel_rfl) (by kernel_rfl) (by kernel_rfl) (by kernel_rfl) (allP2 h8 (allP1 h9)) allC0 (by kernel_rfl) allP0 ?_
      refine seqQ_norm ?_
      refine W_seq (by kernel_rfl) ?_
      refine W_seq (by kernel_rfl) ?_
      refine W_run 2 [] [0, 1, 8, 9, 10, 56] [1000, 2001, 2002] (fr' := [(0, .one (.ptr 1000 0)), (1, aI a1), (8, aI r15.1), (9, aD (.slice .bool) (sub a2 (0 : Int) (w64 (Int.tdiv (List.length a2 : Int) (2 : Int))))), (10, aD (.slice .bool) (sub a2 (w64 (Int.tdiv (List.length a2 : Int) (2 : Int))) (List.length a2 : Int))), (56, aB (a1 == (1 : Int)))]) (L' := [(1000, .cells [.slc 2001, .slc 2002]), (2001, .seq (.pair tI (.pair tI tI)) r15.2.1), (2002, .map (.pair tI (.pair tI tI)) tI r15.2.2)]) (obs := []) (by kernel_rfl) (by kernel_rfl) (by kernel_rfl) allP0 ?_
      refine seqQ_norm ?_
      refine W_cond (o := .tmp 56) (b := a1 == (1 : Int)) (by kernel_rfl) (by kernel_rfl) (fun h17 => ?_) (fun h17 => ?_)
      · replace h := ofT h17 h
        refine W_seq (by kernel_rfl) ?_
        refine W_seq (by kernel_rfl) ?_
        obtain ⟨v18, h19, h⟩ := bind_of h
        refine W_run 3 [(3, .val (.dat .bool v18))] [0, 8, 59] [1000, 2001, 2002] (fr' := [(0, .one (.ptr 1000 0)), (8, aI r15.1), (59, aB v18)]) (L' := [(1000, .cells [.slc 2001, .slc 2002]), (2001, .seq (.pair tI (.pair tI tI)) r15.2.1), (2002, .map (.pair tI (.pair tI tI)) tI r15.2.2)]) (obs := [Idx (sub a2 (0 : Int) (w64 (Int.tdiv (List.length a2 : Int) (2 : Int)))) (0 : Int) v18]) (by kernel_rfl) (by kernel_rfl) (by kernel_rfl) (allP1 (Idx.of h19)) ?_
        refine seqQ_norm ?_
        refine W_cond (o := .tmp 59) (b := v18) (by kernel_rfl) (by kernel_rfl) (fun h20 => ?_) (fun h20 => ?_)
        · replace h := ofT h20 h
          refine W_seq (by kernel_rfl) ?_
          refine W_region (by kernel_rfl) ?_
          refine WO_run (j := 2) (k := 2) (orcs := []) (kF := [60, 61]) (kL := [1000, 2001, 2002]) (fr' := [(60, .one (.ptr 1000 0)), (61, aI r15.1)]) (L' := [(1000, .cells [.slc 2001, .slc 2002]), (2001, .seq (.pair tI (.pair tI tI)) r15.2.1), (2002, .map (.pair tI (.pair tI tI)) tI r15.2.2)]) (obs := []) rfl (by kernel_rfl) allP0 ?_
          obtain ⟨r21, h22, h⟩ := bind_of h
          refine WO_lend2 [(1000, 1000), (2001, 2001), (2002, 2002)] (us := [none, none, none, none]) (d := 62) (p := True) (j := 3) rfl ⟨by kernel_rfl, by kernel_rfl, by kernel_rfl⟩ trivial (gate_Maker_Put_i2_ok h22) (by kernel_rfl) (by kernel_rfl) ?_
          refine WO_run (j := 4) (k := 1) (orcs := []) (kF := [6]) (kL := [1000, 2001, 2002]) (fr' := [(6, aI r21.1)]) (L' := [(1000, .cells [.slc 2001, .slc 2002]), (2001, .seq (.pair tI (.pair tI tI)) r21.2.1), (2002, .map (.pair tI (.pair tI tI)) tI r21.2.2)]) (obs := []) rfl (by kernel_rfl) allP0 ?_
          refine WO_fin [6] [1000, 2001, 2002] (fr' := [(6, aI r21.1)]) (L' := [(1000, .cells [.slc 2001, .slc 2002]), (2001, .seq (.pair tI (.pair tI tI)) r21.2.1), (2002, .map (.pair tI (.pair tI tI)) tI r21.2.2)]) (by kernel_rfl) (by kernel_rfl) ?_
          refine seqQ_norm ?_
          obtain rfl := Option.some.inj h
          refine W_ret [6] [1000, 2001, 2002] (fr' := [(6, aI r21.1)]) (L' := [(1000, .cells [.slc 2001, .slc 2002]), (2001, .seq (.pair tI (.pair tI tI)) r21.2.1), (2002, .map (.pair tI (.pair tI tI)) tI r21.2.2)]) (by kernel_rfl) (by kernel_rfl) ?_
          refine seqQ_ret ?_
          refine seqQ_ret ?_
          exact retQ_mk (by kernel_rfl) (by kernel_rfl) (by kernel_rfl)
        · replace h := ofF h20 h
          refine W_skip [8] [1000, 2001, 2002] (fr' := [(8, aI r15.1)]) (L' := [(1000, .cells [.slc 2001, .slc 2002]), (2001, .seq (.pair tI (.pair tI tI)) r15.2.1), (2002, .map (.pair tI (.pair tI tI)) tI r15.2.2)]) (by kernel_rfl) (by kernel_rfl) ?_
          refine seqQ_norm ?_
          refine W_seq (by kernel_rfl) ?_
          refine W_run 2 [] [6] [1000, 2001, 2002] (fr' := [(6, aI r15.1)]) (L' := [(1000, .cells [.slc 2001, .slc 2002]), (2001, .seq (.pair tI (.pair tI tI)) r15.2.1), (2002, .map (.pair tI (.pair tI tI)) tI r15.2.2)]) (obs := []) (by kernel_rfl) (by kernel_rfl) (by kernel_rfl) allP0 ?_
          refine seqQ_norm ?_
          obtain rfl := Option.some.inj h
          refine W_ret [6] [1000, 2001, 2002] (fr' := [(6, aI r15.1)]) (L' := [(1000, .cells [.slc 2001, .slc 2002]), (2001, .seq (.pair tI (.pair tI tI)) r15.2.1), (2002, .map (.pair tI (.pair tI tI)) tI r15.2.2)]) (by kernel_rfl) (by kernel_rfl) ?_
          refine seqQ_ret ?_
          exact retQ_mk (by kernel_rfl) (by kernel_rfl) (by kernel_rfl)
      · replace h := ofF h17 h
        refine W_skip [0, 1, 8, 9, 10] [1000, 2001, 2002] (fr' := [(0, .one (.ptr 1000 0)), (1, aI a1), (8, aI r15.1), (9, aD (.slice .bool) (sub a2 (0 : Int) (w64 (Int.tdiv (List.length a2 : Int) (2 : Int))))), (10, aD (.slice .bool) (sub a2 (w64 (Int.tdiv (List.length a2 : Int) (2 : Int))) (List.length a2 : Int)))]) (L' := [(1000, .cells [.slc 2001, .slc 2002]), (2001, .seq (.pair tI (.pair tI tI)) r15.2.1), (2002, .map (.pair tI (.pair tI tI)) tI r15.2.2)]) (by kernel_rfl) (by kernel_rfl) ?_
        refine seqQ_norm ?_
        refine W_seq (by kernel_rfl) ?_
        refine W_region (by kernel_rfl) ?_
        refine WO_run (j := 2) (k := 2) (orcs := []) (kF := [0, 1, 8, 9, 10, 64, 65]) (kL := [1000, 2001, 2002]) (fr' := [(0, .one (.ptr 1000 0)), (1, aI a1), (8, aI r15.1), (9, aD (.slice .bool) (sub a2 (0 : Int) (w64 (Int.tdiv (List.length a2 : Int) (2 : Int))))), (10, aD (.slice .bool) (sub a2 (w64 (Int.tdiv (List.length a2 : Int) (2 : Int))) (List.length a2 : Int))), (64, .one (.ptr 1000 0)), (65, aI r15.1)]) (L' := [(1000, .cells [.slc 2001, .slc 2002]), (2001, .seq (.pair tI (.pair tI tI)) r15.2.1), (2002, .map (.pair tI (.pair tI tI)) tI r15.2.2)]) (obs := []) rfl (by kernel_rfl) allP0 ?_
        obtain ⟨r23, h24, h⟩ := bind_of h
        refine WO_lend2 [(1000, 1000), (2001, 2001), (2002, 2002)] (us := [none, none, none, none]) (d := 66) (p := True) (j := 3) rfl ⟨by kernel_rfl, by kernel_rfl, by kernel_rfl⟩ trivial (gate_Maker_Put_i2_ok h24) (by kernel_rfl) (by kernel_rfl) ?_
        refine WO_run (j := 4) (k := 1) (orcs := []) (kF := [0, 1, 8, 9, 10, 11]) (kL := [1000, 2001, 2002]) (fr' := [(0, .one (.ptr 1000 0)), (1, aI a1), (8, aI r15.1), (9, aD (.slice .bool) (sub a2 (0 : Int) (w64 (Int.tdiv (List.length a2 : Int) (2 : Int))))), (10, aD (.slice .bool) (sub a2 (w64 (Int.tdiv (List.length a2 : Int) (2 : Int))) (List.length a2 : Int))), (11, aI r23.1)]) (L' := [(1000, .cells [.slc 2001, .slc 2002]), (2001, .seq (.pair tI (.pair tI tI)) r23.2.1), (2002, .map (.pair tI (.pair tI tI)) tI r23.2.2)]) (obs := []) rfl (by kernel_rfl) allP0 ?_
        refine WO_fin [0, 1, 8, 9, 10, 11] [1000, 2001, 2002] (fr' := [(0, .one (.ptr 1000 0)), (1, aI a1), (8, aI r15.1), (9, aD (.slice .bool) (sub a2 (0 : Int) (w64 (Int.tdiv (List.length a2 : Int) (2 : Int))))), (10, aD (.slice .bool) (sub a2 (w64 (Int.tdiv (List.length a2 : Int) (2 : Int))) (List.length a2 : Int))), (11, aI r23.1)]) (L' := [(1000, .cells [.slc 2001, .slc 2002]), (2001, .seq (.pair tI (.pair tI tI)) r23.2.1), (2002, .map (.pair tI (.pair tI tI)) tI r23.2.2)]) (by kernel_rfl) (by kernel_rfl) ?_
        refine seqQ_norm ?_
        refine W_seq (by kernel_rfl) ?_
        refine W_region (by kernel_rfl) ?_
        refine WO_run (j := 4) (k := 4) (orcs := []) (kF := [0, 1, 8, 10, 11, 67, 69, 70]) (kL := [1000, 2001, 2002]) (fr' := [(0, .one (.ptr 1000 0)), (1, aI a1), (8, aI r15.1), (10, aD (.slice .bool) (sub a2 (w64 (Int.tdiv (List.length a2 : Int) (2 : Int))) (List.length a2 : Int))), (11, aI r23.1), (67, .one (.ptr 1000 0)), (69, aI (w64 (a1 - (1 : Int)))), (70, aD (.slice .bool) (sub a2 (0 : Int) (w64 (Int.tdiv (List.length a2 : Int) (2 : Int)))))]) (L' := [(1000, .cells [.slc 2001, .slc 2002]), (2001, .seq (.pair tI (.pair tI tI)) r23.2.1), (2002, .map (.pair tI (.pair tI tI)) tI r23.2.2)]) (obs := []) rfl (by kernel_rfl) allP0 ?_
        obtain ⟨r25, h26, h⟩ := bind_of h
        refine WO_lend2 [(1000, 1000), (2001, 2001), (2002, 2002)] (us := [none, none, none]) (d := 71) (p := True) (j := 5) rfl ⟨by kernel_rfl, by kernel_rfl, by kernel_rfl⟩ trivial (ih_gate_Maker_table_i2 h26) (by kernel_rfl) (by kernel_rfl) ?_
        refine WO_run (j := 9) (k := 4) (orcs := []) (kF := [0, 8, 11, 71, 72, 74, 75]) (kL := [1000, 2001, 2002]) (fr' := [(0, .one (.ptr 1000 0)), (8, aI r15.1), (11, aI r23.1), (71, aI r25.1), (72, .one (.ptr 1000 0)), (74, aI (w64 (a1 - (1 : Int)))), (75, aD (.slice .bool) (sub a2 (w64 (Int.tdiv (List.length a2 : Int) (2 : Int))) (List.length a2 : Int)))]) (L' := [(1000, .cells [.slc 2001, .slc 2002]), (2001, .seq (.pair tI (.pair tI tI)) r25.2.1), (2002, .map (.pair tI (.pair tI tI)) tI r25.2.2)]) (obs := []) rfl (by kernel_rfl) allP0 ?_
        obtain ⟨r27, h28, h⟩ := bind_of h
        refine WO_lend2 [(1000, 1000), (2001, 2001), (2002, 2002)] (us := [none, none, none]) (d := 76) (p := True) (j := 10) rfl ⟨by kernel_rfl, by kernel_rfl, by kernel_rfl⟩ trivial (ih_gate_Maker_table_i2 h28) (by kernel_rfl) (by kernel_rfl) ?_
        refine WO_run (j := 12) (k := 2) (orcs := []) (kF := [0, 8, 11, 12, 13]) (kL := [1000, 2001, 2002]) (fr' := [(0, .one (.ptr 1000 0)), (8, aI r15.1), (11, aI r23.1), (12, aI r25.1), (13, aI r27.1)]) (L' := [(1000, .cells [.slc 2001, .slc 2002]), (2001, .seq (.pair tI (.pair tI tI)) r27.2.1), (2002, .map (.pair tI (.pair tI tI)) tI r27.2.2)]) (obs := []) rfl (by kernel_rfl) allP0 ?_
        refine WO_fin [0, 8, 11, 12, 13] [1000, 2001, 2002] (fr' := [(0, .one (.ptr 1000 0)), (8, aI r15.1), (11, aI r23.1), (12, aI r25.1), (13, aI r27.1)]) (L' := [(1000, .cells [.slc 2001, .slc 2002]), (2001, .seq (.pair tI (.pair tI tI)) r27.2.1), (2002, .map (.pair tI (.pair tI tI)) tI r27.2.2)]) (by kernel_rfl) (by kernel_rfl) ?_
        refine seqQ_norm ?_
        refine W_seq (by kernel_rfl) ?_
        refine W_region (by kernel_rfl) ?_
        refine WO_run (j := 4) (k := 4) (orcs := []) (kF := [0, 8, 13, 77, 78, 79, 80]) (kL := [1000, 2001, 2002]) (fr' := [(0, .one (.ptr 1000 0)), (8, aI r15.1), (13, aI r27.1), (77, .one (.ptr 1000 0)), (78, .one (.ptr 1000 0)), (79, aI r23.1), (80, aI r25.1)]) (L' := [(1000, .cells [.slc 2001, .slc 2002]), (2001, .seq (.pair tI (.pair tI tI)) r27.2.1), (2002, .map (.pair tI (.pair tI tI)) tI r27.2.2)]) (obs := []) rfl (by kernel_rfl) allP0 ?_
        obtain ⟨r29, h30, h⟩ := bind_of h
        refine WO_lend2 [(1000, 1000), (2001, 2001), (2002, 2002)] (us := [none, none, none, none]) (d := 81) (p := True) (j := 5) rfl ⟨by kernel_rfl, by kernel_rfl, by kernel_rfl⟩ trivial (gate_Maker_Put_i2_ok h30) (by kernel_rfl) (by kernel_rfl) ?_
        refine WO_run (j := 8) (k := 3) (orcs := []) (kF := [77, 81, 82, 83, 84]) (kL := [1000, 2001, 2002]) (fr' := [(77, .one (.ptr 1000 0)), (81, aI r29.1), (82, .one (.ptr 1000 0)), (83, aI r15.1), (84, aI r27.1)]) (L' := [(1000, .cells [.slc 2001, .slc 2002]), (2001, .seq (.pair tI (.pair tI tI)) r29.2.1), (2002, .map (.pair tI (.pair tI tI)) tI r29.2.2)]) (obs := []) rfl (by kernel_rfl) allP0 ?_
        obtain ⟨r31, h32, h⟩ := bind_of h
        refine WO_lend2 [(1000, 1000), (2001, 2001), (2002, 2002)] (us := [none, none, none, none]) (d := 85) (p := True) (j := 9) rfl ⟨by kernel_rfl, by kernel_rfl, by kernel_rfl⟩ trivial (gate_Maker_Put_i2_ok h32) (by kernel_rfl) (by kernel_rfl) ?_
        obtain ⟨r33, h34, h⟩ := bind_of h
        refine WO_lend2 [(1000, 1000), (2001, 2001), (2002, 2002)] (us := [none, none, none, none]) (d := 86) (p := True) (j := 10) rfl ⟨by kernel_rfl, by kernel_rfl, by kernel_rfl⟩ trivial (gate_Maker_Put_i2_ok h34) (by kernel_rfl) (by kernel_rfl) ?_
        refine WO_run (j := 11) (k := 1) (orcs := []) (kF := [6]) (kL := [1000, 2001, 2002]) (fr' := [(6, aI r33.1)]) (L' := [(1000, .cells [.slc 2001, .slc 2002]), (2001, .seq (.pair tI (.pair tI tI)) r33.2.1), (2002, .map (.pair tI (.pair tI tI)) tI r33.2.2)]) (obs := []) rfl (by kernel_rfl) allP0 ?_
        refine WO_fin [6] [1000, 2001, 2002] (fr' := [(6, aI r33.1)]) (L' := [(1000, .cells [.slc 2001, .slc 2002]), (2001, .seq (.pair tI (.pair tI tI)) r33.2.1), (2002, .map (.pair tI (.pair tI tI)) tI r33.2.2)]) (by kernel_rfl) (by kernel_rfl) ?_
        refine seqQ_norm ?_
        obtain rfl := Option.some.inj h
        refine W_ret [6] [1000, 2001, 2002] (fr' := [(6, aI r33.1)]) (L' := [(1000, .cells [.slc 2001, .slc 2002]), (2001, .seq (.pair tI (.pair tI tI)) r33.2.1), (2002, .map (.pair tI (.pair tI tI)) tI r33.2.2)]) (by kernel_rfl) (by kernel_rfl) ?_
        exact retQ_mk (by kernel_rfl) (by kernel_rfl) (by kernel_rfl)
theorem gate_Maker_table_i2_ok : ∀ {fuel : Nat} {a1 : Int} {a2 : (List Bool)} {c0 : (List (Int × (Int × Int)))} {c1 : (Option (List ((Int × (Int × Int)) × Int)))} {r : (Int × (List (Int × (Int × Int))) × (Option (List ((Int × (Int × Int)) × Int))))}, gate_Maker_table_i2 fuel a1 a2 c0 c1 = some r → FnC Try.prog 33 [.one (.ptr 1000 0), aI a1, aD (.slice .bool) a2] [(1000, .cells [.slc 2001, .slc 2002]), (2001, .seq (.pair tI (.pair tI tI)) c0), (2002, .map (.pair tI (.pair tI tI)) tI c1)] (aI r.1) [(1000, .cells [.slc 2001, .slc 2002]), (2001, .seq (.pair tI (.pair tI tI)) r.2.1), (2002, .map (.pair tI (.pair tI tI)) tI r.2.2)] := by
  intro fuel
  induction fuel with
  | zero => intros a1 a2 c0 c1 r h; cases h
  | succ fuel ih => intros a1 a2 c0 c1 r h; exact gate_Maker_table_i2_step_ok (fun h => ih h) (show gate_Maker_table_i2_step (gate_Maker_table_i2 fuel) fuel a1 a2 c0 c1 = some r from h)

def slices_Clone_LapiGateapiGate (a0 : (List (Int × (Int × Int)))) : Option (List (Int × (Int × Int))) :=
(ck ((0 : Int) + (List.length a0 : Int) ≤ 4294967296)).bind fun _ =>
some ([] ++ a0)
theorem slices_Clone_LapiGateapiGate_ok {a0 : (List (Int × (Int × Int)))} {r : (List (Int × (Int × Int)))} (h : slices_Clone_LapiGateapiGate a0 = some r) : FnC Try.prog 31 [aD (.slice (.pair tI (.pair tI tI))) a0] [] (.one (.slc 5)) [(5, .seq (.pair tI (.pair tI tI)) r)] := by
  refine fnC_of_W (B := bodyOf Try.f31) (n := 8) Try.func31 (by kernel_rfl) (by kernel_rfl) (by kernel_rfl) (by kernel_rfl) (by kernel_rfl) ?_
  intro K
  refine W_seq (by kernel_rfl) ?_
  refine W_run 1 [] [0] [] (fr' := [(0, aD (.slice (.pair tI (.pair tI tI))) a0)]) (L' := []) (obs := []) (by kernel_rfl) (by kernel_rfl) (by kernel_rfl) allP0 ?_
  refine seqQ_norm ?_
  refine W_seq (by kernel_rfl) ?_
  refine W_seq (by kernel_rfl) ?_
  refine W_region (by kernel_rfl) ?_
  refine WO_run (j := 1) (k := 1) (orcs := []) (kF := [0, 3]) (kL := []) (fr' := [(0, aD (.slice (.pair tI (.pair tI tI))) a0), (3, aD (.slice (.pair tI (.pair tI tI))) a0)]) (L' := []) (obs := []) rfl (by kernel_rfl) allP0 ?_
  refine WO_nilcmp (u := (.pair tI (.pair tI tI))) (xs := a0) (d := 4) (j := 2) rfl (by kernel_rfl) (by kernel_rfl) (fun h12 h10 => ?_)
  cases h12
  · refine WO_fin [0, 4] [] (fr' := [(0, aD (.slice (.pair tI (.pair tI tI))) a0), (4, aB false)]) (L' := []) (by kernel_rfl) (by kernel_rfl) ?_
    refine seqQ_norm ?_
    refine W_cond (o := .tmp 4) (b := false) (by kernel_rfl) (by kernel_rfl) (fun h7 => by have := (rfl : false = false).symm.trans h7; cases this) (fun h7 => ?_)
    refine W_skip [0] [] (fr' := [(0, aD (.slice (.pair tI (.pair tI tI))) a0)]) (L' := []) (by kernel_rfl) (by kernel_rfl) ?_
    refine seqQ_norm ?_
    refine W_seq (by kernel_rfl) ?_
    obtain ⟨_, h8, h⟩ := bind_of h
    replace h8 := ck_some h8
    refine W_run 4 [] [2] [5] (fr' := [(2, .one (.slc 5))]) (L' := [(5, .seq (.pair tI (.pair tI tI)) ([] ++ a0))]) (obs := [SmallLen (List.length ([] : (List (Int × (Int × Int)))) + List.length a0)]) (by kernel_rfl) (by kernel_rfl) (by kernel_rfl) (allP1 h8) ?_
    refine seqQ_norm ?_
    obtain rfl := Option.some.inj h
    refine W_ret [2] [5] (fr' := [(2, .one (.slc 5))]) (L' := [(5, .seq (.pair tI (.pair tI tI)) ([] ++ a0))]) (by kernel_rfl) (by kernel_rfl) ?_
    exact retQ_mk (by kernel_rfl) (by kernel_rfl) (by kernel_rfl)
  · replace h10 := h10 rfl
    have h11 : (some [] : Option (List (Int × (Int × Int)))) = ((ck ((0 : Int) + (List.length a0 : Int) ≤ 4294967296)).bind fun _ => some ([] ++ a0)) := by rw [h10]; simp [ck]
    replace h := h11.trans h
    refine WO_fin [0, 4] [] (fr' := [(0, aD (.slice (.pair tI (.pair tI tI))) a0), (4, aB true)]) (L' := []) (by kernel_rfl) (by kernel_rfl) ?_
    refine seqQ_norm ?_
    refine W_cond (o := .tmp 4) (b := true) (by kernel_rfl) (by kernel_rfl) (fun h9 => ?_) (fun h9 => by have := (rfl : true = true).symm.trans h9; cases this)
    refine W_seq (by kernel_rfl) ?_
    refine W_run 1 [] [2] [] (fr' := [(2, .one (.nilS))]) (L' := []) (obs := []) (by kernel_rfl) (by kernel_rfl) (by kernel_rfl) allP0 ?_
    refine seqQ_norm ?_
    obtain rfl := Option.some.inj h
    refine W_mine 2 5 (.pair tI (.pair tI tI)) (by kernel_rfl) ?_
    refine W_ret [2] [5] (fr' := [(2, .one (.slc 5))]) (L' := [(5, .seq (.pair tI (.pair tI tI)) [])]) (by kernel_rfl) (by kernel_rfl) ?_
    refine seqQ_ret ?_
    exact retQ_mk (by kernel_rfl) (by kernel_rfl) (by kernel_rfl)

def gate_Build (fuel : Nat) (a0 : Int) (a1 : (List Bool)) : Option ((List (Int × (Int × Int))) × Int) :=
bif (decide (a0 < (1 : Int))) || (decide (a0 > (5 : Int))) then
(some ([], (1 : Int)))
else
((ck (0 ≤ a0)).bind fun _ =>
bif (List.length a1 : Int) != (bShl .i64 (1 : Int) a0) then
(some ([], (3 : Int)))
else
((gate_Maker_table_i2 fuel a0 a1 [] (none : Option (List ((Int × (Int × Int)) × Int)))).bind fun r4 =>
(ck (0 ≤ (0 : Int) ∧ (0 : Int) ≤ w64 (r4.1 + (1 : Int)) ∧ w64 (r4.1 + (1 : Int)) ≤ (List.length r4.2.1 : Int))).bind fun _ =>
(slices_Clone_LapiGateapiGate (sub r4.2.1 (0 : Int) (w64 (r4.1 + (1 : Int))))).bind fun r7 =>
some (r7, (0 : Int))))
theorem gate_Build_ok {fuel : Nat} {a0 : Int} {a1 : (List Bool)} {r : ((List (Int × (Int × Int))) × Int)} (h : gate_Build fuel a0 a1 = some r) : FnC Try.prog 18 [aI a0, aD (.slice .bool) a1] [] (.tup [.dat (.slice (.pair tI (.pair tI tI))) r.1, .dat tI r.2]) [] := by
  refine fnC_of_W (B := bodyOf Try.f18) (n := 33) Try.func18 (by kernel_rfl) (by kernel_rfl) (by kernel_rfl) (by kernel_rfl) (by kernel_rfl) ?_
  intro K
  refine W_seq (by kernel_rfl) ?_
  refine W_run 2 [] [0, 1] [] (fr' := [(0, aI a0), (1, aD (.slice .bool) a1)]) (L' := []) (obs := []) (by kernel_rfl) (by kernel_rfl) (by kernel_rfl) allP0 ?_
  refine seqQ_norm ?_
  refine W_seq (by kernel_rfl) ?_
  refine W_seq (by kernel_rfl) ?_
  refine W_run 6 [] [0, 1, 13] [] (fr' := [(0, aI a0), (1, aD (.slice .bool) a1), (13, aB ((decide (a0 < (1 : Int))) || (decide (a0 > (5 : Int)))))]) (L' := []) (obs := []) (by kernel_rfl) (by kernel_rfl) (by kernel_rfl) allP0 ?_
  refine seqQ_norm ?_
  refine W_cond (o := .tmp 13) (b := (decide (a0 < (1 : Int))) || (decide (a0 > (5 : Int)))) (by kernel_rfl) (by kernel_rfl) (fun h1 => ?_) (fun h1 => ?_)
  · replace h := ofT h1 h
    refine W_seq (by kernel_rfl) ?_
    refine W_run 2 [] [4, 5] [] (fr' := [(4, .one (.nilS)), (5, aI (1 : Int))]) (L' := []) (obs := []) (by kernel_rfl) (by kernel_rfl) (by kernel_rfl) allP0 ?_
    refine seqQ_norm ?_
    obtain rfl := Option.some.inj h
    refine W_cnv 4 (.slice (.pair tI (.pair tI tI))) (by kernel_rfl) ?_
    refine W_ret [4, 5] [] (fr' := [(4, aD (.slice (.pair tI (.pair tI tI))) []), (5, aI (1 : Int))]) (L' := []) (by kernel_rfl) (by kernel_rfl) ?_
    refine seqQ_ret ?_
    exact retQ_mk (by kernel_rfl) (by kernel_rfl) (by kernel_rfl)
  · replace h := ofF h1 h
    refine W_skip [0, 1] [] (fr' := [(0, aI a0), (1, aD (.slice .bool) a1)]) (L' := []) (by kernel_rfl) (by kernel_rfl) ?_
    refine seqQ_norm ?_
    refine W_seq (by kernel_rfl) ?_
    refine W_seq (by kernel_rfl) ?_
    obtain ⟨_, h2, h⟩ := bind_of h
    replace h2 := ck_some h2
    refine W_run 5 [] [0, 1, 18] [] (fr' := [(0, aI a0), (1, aD (.slice .bool) a1), (18, aB ((List.length a1 : Int) != (bShl .i64 (1 : Int) a0)))]) (L' := []) (obs := [(0 ≤ a0)]) (by kernel_rfl) (by kernel_rfl) (by kernel_rfl) (allP1 h2) ?_
    refine seqQ_norm ?_
    refine W_cond (o := .tmp 18) (b := (List.length a1 : Int) != (bShl .i64 (1 : Int) a0)) (by kernel_rfl) (by kernel_rfl) (fun h3 => ?_) (fun h3 => ?_)
    · replace h := ofT h3 h
      refine W_seq (by kernel_rfl) ?_
      refine W_run 2 [] [4, 5] [] (fr' := [(4, .one (.nilS)), (5, aI (3 : Int))]) (L' := []) (obs := []) (by kernel_rfl) (by kernel_rfl) (by kernel_rfl) allP0 ?_
      refine seqQ_norm ?_
      obtain rfl := Option.some.inj h
      refine W_cnv 4 (.slice (.pair tI (.pair tI tI))) (by kernel_rfl) ?_
      refine W_ret [4, 5] [] (fr' := [(4, aD (.slice (.pair tI (.pair tI tI))) []), (5, aI (3 : Int))]) (L' := []) (by kernel_rfl) (by kernel_rfl) ?_
      refine seqQ_ret ?_
      exact retQ_mk (by kernel_rfl) (by kernel_rfl) (by kernel_rfl)
    · replace h := ofF h3 h
      refine W_skip [0, 1] [] (fr' := [(0, aI a0), (1, aD (.slice .bool) a1)]) (L' := []) (by kernel_rfl) (by kernel_rfl) ?_
      refine seqQ_norm ?_
      refine W_seq (by kernel_rfl) ?_
      refine W_run 3 [] [0, 1, 6] [20] (fr' := [(0, aI a0), (1, aD (.slice .bool) a1), (6, .one (.ptr 20 0))]) (L' := [(20, .cells [.nilS, .nilM])]) (obs := []) (by kernel_rfl) (by kernel_rfl) (by kernel_rfl) allP0 ?_
      refine seqQ_norm ?_
      refine W_seq (by kernel_rfl) ?_
      refine W_region (by kernel_rfl) ?_
      refine WO_run (j := 3) (k := 3) (orcs := []) (kF := [6, 21, 22, 23]) (kL := [20]) (fr' := [(6, .one (.ptr 20 0)), (21, .one (.ptr 20 0)), (22, aI a0), (23, aD (.slice .bool) a1)]) (L' := [(20, .cells [.nilS, .nilM])]) (obs := []) rfl (by kernel_rfl) allP0 ?_
      obtain ⟨r4, h5, h⟩ := bind_of h
      refine WO_cellown 20 0 998 (.pair tI (.pair tI tI)) (by kernel_rfl) ?_
      refine WO_cellownM 20 1 997 (.pair tI (.pair tI tI)) tI (by kernel_rfl) ?_
      refine WO_lend2 [(1000, 20), (2001, 998), (2002, 997)] (us := [none, none, none]) (d := 24) (p := True) (j := 4) rfl ⟨by kernel_rfl, by kernel_rfl, by kernel_rfl⟩ trivial (gate_Maker_table_i2_ok h5) (by kernel_rfl) (by kernel_rfl) ?_
      refine WO_run (j := 5) (k := 1) (orcs := []) (kF := [6, 7]) (kL := [20, 997, 998]) (fr' := [(6, .one (.ptr 20 0)), (7, aI r4.1)]) (L' := [(20, .cells [.slc 998, .slc 997]), (997, .map (.pair tI (.pair tI tI)) tI r4.2.2), (998, .seq (.pair tI (.pair tI tI)) r4.2.1)]) (obs := []) rfl (by kernel_rfl) allP0 ?_
      refine WO_fin [6, 7] [20, 997, 998] (fr' := [(6, .one (.ptr 20 0)), (7, aI r4.1)]) (L' := [(20, .cells [.slc 998, .slc 997]), (997, .map (.pair tI (.pair tI tI)) tI r4.2.2), (998, .seq (.pair tI (.pair tI tI)) r4.2.1)]) (by kernel_rfl) (by kernel_rfl) ?_
      refine seqQ_norm ?_
      refine W_seq (by kernel_rfl) ?_
      refine W_region (by kernel_rfl) ?_
      refine WO_run (j := 6) (k := 6) (orcs := []) (kF := [28, 30]) (kL := [20, 997, 998]) (fr' := [(28, .one (.slc 998)), (30, aI (w64 (r4.1 + (1 : Int))))]) (L' := [(20, .cells [.slc 998, .slc 997]), (997, .map (.pair tI (.pair tI tI)) tI r4.2.2), (998, .seq (.pair tI (.pair tI tI)) r4.2.1)]) (obs := []) rfl (by kernel_rfl) allP0 ?_
      refine WO_frz 998 (by kernel_rfl) ?_
      obtain ⟨_, h6, h⟩ := bind_of h
      replace h6 := ck_some h6
      refine WO_run (j := 7) (k := 1) (orcs := []) (kF := [31]) (kL := [20, 997]) (fr' := [(31, aD (.slice (.pair tI (.pair tI tI))) (sub r4.2.1 (0 : Int) (w64 (r4.1 + (1 : Int)))))]) (L' := [(20, .cells [.dat (.slice (.pair tI (.pair tI tI))) r4.2.1, .slc 997]), (997, .map (.pair tI (.pair tI tI)) tI r4.2.2)]) (obs := [Cuts (0 : Int) (w64 (r4.1 + (1 : Int))) (List.length r4.2.1)]) rfl (by kernel_rfl) (allP1 h6) ?_
      obtain ⟨r7, h8, h⟩ := bind_of h
      refine WO_call1 (us := [none]) (d := 32) (t := 32) (p := True) (j := 8) rfl ⟨by kernel_rfl, by kernel_rfl, by kernel_rfl⟩ trivial (slices_Clone_LapiGateapiGate_ok h8) (by kernel_rfl) ?_
      refine WO_run (j := 10) (k := 2) (orcs := []) (kF := [4, 5]) (kL := [20, 32, 997]) (fr' := [(4, .one (.slc 32)), (5, aI (0 : Int))]) (L' := [(20, .cells [.dat (.slice (.pair tI (.pair tI tI))) r4.2.1, .slc 997]), (32, .seq (.pair tI (.pair tI tI)) r7), (997, .map (.pair tI (.pair tI tI)) tI r4.2.2)]) (obs := []) rfl (by kernel_rfl) allP0 ?_
      refine WO_fin [4, 5] [32] (fr' := [(4, .one (.slc 32)), (5, aI (0 : Int))]) (L' := [(32, .seq (.pair tI (.pair tI tI)) r7)]) (by kernel_rfl) (by kernel_rfl) ?_
      refine seqQ_norm ?_
      obtain rfl := Option.some.inj h
      refine W_frz 32 (by kernel_rfl) ?_
      refine W_ret [4, 5] [] (fr' := [(4, aD (.slice (.pair tI (.pair tI tI))) r7), (5, aI (0 : Int))]) (L' := []) (by kernel_rfl) (by kernel_rfl) ?_
      exact retQ_mk (by kernel_rfl) (by kernel_rfl) (by kernel_rfl)

def gate_Wrong_1 (a0 : Int) (c0 : Int) : Option Bool :=
some ((decide (a0 ≥ (0 : Int))) && (decide (a0 < c0)))
theorem gate_Wrong_1_ok {a0 : Int} {c0 : Int} {r : Bool} (h : gate_Wrong_1 a0 c0 = some r) : FnC Try.prog 46 [aI a0, .one (.ptr 1000 0)] [(1000, .cells [.dat tI c0])] (aB r) [(1000, .cells [.dat tI c0])] := by
  refine fnC_of_W (B := bodyOf Try.f46) (n := 11) Try.func46 (by kernel_rfl) (by kernel_rfl) (by kernel_rfl) (by kernel_rfl) (by kernel_rfl) ?_
  intro K
  refine W_seq (by kernel_rfl) ?_
  refine W_run 1 [] [0, 1] [1000] (fr' := [(0, aI a0), (1, .one (.ptr 1000 0))]) (L' := [(1000, .cells [.dat tI c0])]) (obs := []) (by kernel_rfl) (by kernel_rfl) (by kernel_rfl) allP0 ?_
  refine seqQ_norm ?_
  refine W_seq (by kernel_rfl) ?_
  refine W_run 8 [] [3] [1000] (fr' := [(3, aB ((decide (a0 ≥ (0 : Int))) && (decide (a0 < c0))))]) (L' := [(1000, .cells [.dat tI c0])]) (obs := []) (by kernel_rfl) (by kernel_rfl) (by kernel_rfl) allP0 ?_
  refine seqQ_norm ?_
  obtain rfl := Option.some.inj h
  refine W_ret [3] [1000] (fr' := [(3, aB ((decide (a0 ≥ (0 : Int))) && (decide (a0 < c0))))]) (L' := [(1000, .cells [.dat tI c0])]) (by kernel_rfl) (by kernel_rfl) ?_
  exact retQ_mk (by kernel_rfl) (by kernel_rfl) (by kernel_rfl)

@[reducible] def gate_Wrong_s38 (a0 : Int) (a1 : (List (Int × (Int × Int)))) (i265 : Int) (v268 : (Int × (Int × Int))) (v : Bool) : Fr × LL := ([(0, aI a0), (6, .one (.ptr 6 0)), (7, .one (.fn 46 [(5, 0)])), (8, aD (.slice (.pair tI (.pair tI tI))) a1), (9, aI (List.length a1 : Int)), (10, aI i265), (40, aB v)], [(5, .cells [.dat tI i265]), (6, .one (.pair tI (.pair tI tI)) v268)])
def gate_Wrong_g39 (i265 : Int) (v268 : (Int × (Int × Int))) : Option Bool :=
(bif decide (v268.1 > (1 : Int)) then
((gate_Wrong_1 v268.2.1 i265).bind fun r386 =>
some (!r386))
else
(some false)).bind fun v388 =>
bif v388 then
(some v388)
else
(bif decide (v268.1 > (2 : Int)) then
((gate_Wrong_1 v268.2.2 i265).bind fun r392 =>
some (!r392))
else
(some false))
@[reducible] def gate_Wrong_s40 (a0 : Int) (a1 : (List (Int × (Int × Int)))) (i265 : Int) (v : Bool) : Fr × LL := ([(0, aI a0), (8, aD (.slice (.pair tI (.pair tI tI))) a1), (9, aI (List.length a1 : Int)), (10, aI i265), (40, aB v)], [])
@[reducible] def gate_Wrong_s41 (a0 : Int) (a1 : (List (Int × (Int × Int)))) (i265 : Int) (v268 : (Int × (Int × Int))) (v : Bool) : Fr × LL := ([(0, aI a0), (6, .one (.ptr 6 0)), (7, .one (.fn 46 [(5, 0)])), (8, aD (.slice (.pair tI (.pair tI tI))) a1), (9, aI (List.length a1 : Int)), (10, aI i265), (25, aB v)], [(5, .cells [.dat tI i265]), (6, .one (.pair tI (.pair tI tI)) v268)])
@[reducible] def gate_Wrong_s42 (a0 : Int) (a1 : (List (Int × (Int × Int)))) (i265 : Int) (v268 : (Int × (Int × Int))) (v : Bool) : Fr × LL := ([(0, aI a0), (6, .one (.ptr 6 0)), (7, .one (.fn 46 [(5, 0)])), (8, aD (.slice (.pair tI (.pair tI tI))) a1), (9, aI (List.length a1 : Int)), (10, aI i265), (16, aB v)], [(5, .cells [.dat tI i265]), (6, .one (.pair tI (.pair tI tI)) v268)])
def gate_Wrong_b43 (a0 : Int) (i265 : Int) (v268 : (Int × (Int × Int))) (x266 : Unit) : Option (Flow Unit (Esc Int Unit)) :=
(bif decide (v268.1 < (1 : Int)) then
(some true)
else
(some (decide (v268.1 > (4 : Int))))).bind fun v337 =>
bif v337 then
(some (.done (.ret (6 : Int))))
else
((bif v268.1 == (1 : Int) then
(bif decide (v268.2.1 < (0 : Int)) then
(some true)
else
(some (decide (v268.2.1 ≥ a0))))
else
(some false)).bind fun v346 =>
bif v346 then
(some (.done (.ret (4 : Int))))
else
((gate_Wrong_g39 i265 v268).bind fun v394 =>
bif v394 then
(some (.done (.ret (2 : Int))))
else
(some (.next ()))))
@[reducible] def gate_Wrong_s44 (a0 : Int) (a1 : (List (Int × (Int × Int)))) (v : Int × Unit) : Fr × LL := ([(0, aI a0), (8, aD (.slice (.pair tI (.pair tI tI))) a1), (9, aI (List.length a1 : Int)), (10, aI v.1)], [])
@[reducible] def gate_Wrong_s45 (v : Int) : Fr × LL := ([(4, aI v)], [])
@[reducible] def gate_Wrong_s46 (v : Unit) : Fr × LL := ([], [])
def gate_Wrong (a0 : Int) (a1 : (List (Int × (Int × Int)))) : Option Int :=
(forL (gate_Wrong_b43 a0) (fun x266 => (.brk ())) a1 0 ()).bind fun v398 =>
match v398 with
| .ret v403 =>
(some v403)
| .brk v404 =>
(some (0 : Int))
theorem gate_Wrong_ok {a0 : Int} {a1 : (List (Int × (Int × Int)))} {r : Int} (h : gate_Wrong a0 a1 = some r) : FnC Try.prog 39 [aI a0, aD (.slice (.pair tI (.pair tI tI))) a1] [] (aI r) [] := by
  refine fnC_of_W (B := bodyOf Try.f39) (n := 62) Try.func39 (by kernel_rfl) (by kernel_rfl) (by kernel_rfl) (by kernel_rfl) (by kernel_rfl) ?_
  intro K
  refine W_seq (by kernel_rfl) ?_
  refine W_run 1 [] [0, 1] [] (fr' := [(0, aI a0), (1, aD (.slice (.pair tI (.pair tI tI))) a1)]) (L' := []) (obs := []) (by kernel_rfl) (by kernel_rfl) (by kernel_rfl) allP0 ?_
  refine seqQ_norm ?_
  refine W_seq (by kernel_rfl) ?_
  refine W_seq (by kernel_rfl) ?_
  refine W_run 3 [] [0, 8, 9, 10] [] (fr' := [(0, aI a0), (8, aD (.slice (.pair tI (.pair tI tI))) a1), (9, aI (List.length a1 : Int)), (10, aI (0 : Int))]) (L' := []) (obs := []) (by kernel_rfl) (by kernel_rfl) (by kernel_rfl) allP0 ?_
  refine seqQ_norm ?_
  refine W_block (id := 0) (by kernel_rfl) ?_
  obtain ⟨v398, h399, h⟩ := bind_of h
  refine W_len (t := 8) (u := (.pair tI (.pair tI tI))) (xs := a1) (by kernel_rfl) (fun h402 => ?_)
  obtain ⟨h400, h401⟩ := forL_iter h402 h399
  refine W_weaken [0, 8, 9, 10] [] (fr' := ((gate_Wrong_s44 a0 a1) ((0 : Int), ())).1) (L' := ((gate_Wrong_s44 a0 a1) ((0 : Int), ())).2) (by kernel_rfl) ?_
  refine W_cutK (W_loop (S := (gate_Wrong_s44 a0 a1)) (J := (escQ (exQ .ret gate_Wrong_s45) (exQ (.exit 0) gate_Wrong_s46))) (by kernel_rfl) ?_ h400 _ v398 h401) ?_
  · rintro ⟨i265, x266⟩ s h
    refine W_seq (by kernel_rfl) ?_
    refine W_run 1 [] [0, 8, 9, 10, 11] [] (fr' := [(0, aI a0), (8, aD (.slice (.pair tI (.pair tI tI))) a1), (9, aI (List.length a1 : Int)), (10, aI i265), (11, aB (decide (i265 < (List.length a1 : Int))))]) (L' := []) (obs := []) (by kernel_rfl) (by kernel_rfl) (by kernel_rfl) allP0 ?_
    refine seqQ_norm ?_
    refine W_seq (by kernel_rfl) ?_
    refine W_cond (o := .tmp 11) (b := decide (i265 < (List.length a1 : Int))) (by kernel_rfl) (by kernel_rfl) (fun h270 => ?_) (fun h270 => ?_)
    · replace h := stepL_true h270 h
      obtain ⟨v268, _, h269, h, rfl⟩ := h
      refine W_skip [0, 8, 9, 10] [] (fr' := [(0, aI a0), (8, aD (.slice (.pair tI (.pair tI tI))) a1), (9, aI (List.length a1 : Int)), (10, aI i265)]) (L' := []) (by kernel_rfl) (by kernel_rfl) ?_
      refine seqQ_norm ?_
      refine W_seq (by kernel_rfl) ?_
      refine W_block (id := 1) (by kernel_rfl) ?_
      refine W_seq (by kernel_rfl) ?_
      refine W_run 7 [(3, .val (.dat (.pair tI (.pair tI tI)) v268)), (9, .typed)] [0, 5, 6, 8, 9, 10] [5, 6] (fr' := [(0, aI a0), (5, .one (.ptr 5 0)), (6, .one (.ptr 6 0)), (8, aD (.slice (.pair tI (.pair tI tI))) a1), (9, aI (List.length a1 : Int)), (10, aI i265)]) (L' := [(5, .cells [.dat tI i265]), (6, .one (.pair tI (.pair tI tI)) v268)]) (obs := [Idx a1 i265 v268, True, True]) (by kernel_rfl) (by kernel_rfl) (by kernel_rfl) (allP2 (Idx.of h269) (allP2 trivial (allP1 trivial))) ?_
      refine seqQ_norm ?_
      refine W_seq (by kernel_rfl) ?_
      refine W_run 2 [] [0, 6, 7, 8, 9, 10] [6, 5] (fr' := [(0, aI a0), (6, .one (.ptr 6 0)), (7, .one (.fn 46 [(5, 0)])), (8, aD (.slice (.pair tI (.pair tI tI))) a1), (9, aI (List.length a1 : Int)), (10, aI i265)]) (L' := [(6, .one (.pair tI (.pair tI tI)) v268), (5, .cells [.dat tI i265])]) (obs := []) (by kernel_rfl) (by kernel_rfl) (by kernel_rfl) allP0 ?_
      refine seqQ_norm ?_
      refine W_block (id := 2) (by kernel_rfl) ?_
      refine W_seq (by kernel_rfl) ?_
      obtain ⟨v337, h338, h⟩ := bind_of h
      refine W_cutK (Q' := (exQ .normal (gate_Wrong_s42 a0 a1 i265 v268)) v337) ?_ ?_
      · replace h := h338
        refine W_region (by kernel_rfl) ?_
        refine WO_run (j := 4) (k := 4) (orcs := []) (kF := [0, 6, 7, 8, 9, 10, 20]) (kL := [5, 6]) (fr' := [(0, aI a0), (6, .one (.ptr 6 0)), (7, .one (.fn 46 [(5, 0)])), (8, aD (.slice (.pair tI (.pair tI tI))) a1), (9, aI (List.length a1 : Int)), (10, aI i265), (20, aB (decide (v268.1 < (1 : Int))))]) (L' := [(5, .cells [.dat tI i265]), (6, .one (.pair tI (.pair tI tI)) v268)]) (obs := []) rfl (by kernel_rfl) allP0 ?_
        rcases Bool.eq_false_or_eq_true (decide (v268.1 < (1 : Int))) with h336 | h336
        · replace h := ofT h336 h
          refine WO_run (j := 9) (k := 5) (orcs := [(8, .known true), (10, .known true), (12, .known true), (15, .val (.dat .bool true))]) (kF := [0, 6, 7, 8, 9, 10, 16]) (kL := [5, 6]) (fr' := [(0, aI a0), (6, .one (.ptr 6 0)), (7, .one (.fn 46 [(5, 0)])), (8, aD (.slice (.pair tI (.pair tI tI))) a1), (9, aI (List.length a1 : Int)), (10, aI i265), (16, aB true)]) (L' := [(5, .cells [.dat tI i265]), (6, .one (.pair tI (.pair tI tI)) v268)]) (obs := [((decide (v268.1 < (1 : Int))) = true), ((decide (v268.1 < (1 : Int))) = true), ((decide (v268.1 < (1 : Int))) = true), ((decide (v268.1 < (1 : Int))) = true)]) rfl (by kernel_rfl) (allP2 h336 (allP2 h336 (allP2 h336 (allP1 h336)))) ?_
          obtain rfl := Option.some.inj h
          refine WO_fin [0, 6, 7, 8, 9, 10, 16] [5, 6] (fr' := [(0, aI a0), (6, .one (.ptr 6 0)), (7, .one (.fn 46 [(5, 0)])), (8, aD (.slice (.pair tI (.pair tI tI))) a1), (9, aI (List.length a1 : Int)), (10, aI i265), (16, aB true)]) (L' := [(5, .cells [.dat tI i265]), (6, .one (.pair tI (.pair tI tI)) v268)]) (by kernel_rfl) (by kernel_rfl) ?_
          exact exQ_mk (by kernel_rfl) (by kernel_rfl)
        · replace h := ofF h336 h
          refine WO_run (j := 9) (k := 5) (orcs := [(8, .known false), (10, .known false), (12, .known false), (15, .val (.dat .bool false))]) (kF := [0, 6, 7, 8, 9, 10, 16]) (kL := [5, 6]) (fr' := [(0, aI a0), (6, .one (.ptr 6 0)), (7, .one (.fn 46 [(5, 0)])), (8, aD (.slice (.pair tI (.pair tI tI))) a1), (9, aI (List.length a1 : Int)), (10, aI i265), (16, aB (decide (v268.1 > (4 : Int))))]) (L' := [(5, .cells [.dat tI i265]), (6, .one (.pair tI (.pair tI tI)) v268)]) (obs := [((decide (v268.1 < (1 : Int))) = false), ((decide (v268.1 < (1 : Int))) = false), ((decide (v268.1 < (1 : Int))) = false), ((decide (v268.1 < (1 : Int))) = false)]) rfl (by kernel_rfl) (allP2 h336 (allP2 h336 (allP2 h336 (allP1 h336)))) ?_
          obtain rfl := Option.some.inj h
          refine WO_fin [0, 6, 7, 8, 9, 10, 16] [5, 6] (fr' := [(0, aI a0), (6, .one (.ptr 6 0)), (7, .one (.fn 46 [(5, 0)])), (8, aD (.slice (.pair tI (.pair tI tI))) a1), (9, aI (List.length a1 : Int)), (10, aI i265), (16, aB (decide (v268.1 > (4 : Int))))]) (L' := [(5, .cells [.dat tI i265]), (6, .one (.pair tI (.pair tI tI)) v268)]) (by kernel_rfl) (by kernel_rfl) ?_
          exact exQ_mk (by kernel_rfl) (by kernel_rfl)
      · intro e fr L hJ
        obtain ⟨rfl, rfl, rfl⟩ := hJ
        refine LT_keep [0, 6, 7, 8, 9, 10, 16] [6, 5] (fr' := [(0, aI a0), (6, .one (.ptr 6 0)), (7, .one (.fn 46 [(5, 0)])), (8, aD (.slice (.pair tI (.pair tI tI))) a1), (9, aI (List.length a1 : Int)), (10, aI i265), (16, aB v337)]) (L' := [(6, .one (.pair tI (.pair tI tI)) v268), (5, .cells [.dat tI i265])]) (by kernel_rfl) ?_
        refine seqQ_norm ?_
        refine W_cond (o := .tmp 16) (b := v337) (by kernel_rfl) (by kernel_rfl) (fun h339 => ?_) (fun h339 => ?_)
        · replace h := ofT h339 h
          refine W_seq (by kernel_rfl) ?_
          refine W_run 1 [] [4] [] (fr' := [(4, aI (6 : Int))]) (L' := []) (obs := []) (by kernel_rfl) (by kernel_rfl) (by kernel_rfl) allP0 ?_
          refine seqQ_norm ?_
          obtain rfl := Option.some.inj h
          refine W_ret [4] [] (fr' := [(4, aI (6 : Int))]) (L' := []) (by kernel_rfl) (by kernel_rfl) ?_
          refine blockQ_ret ?_
          refine blockQ_ret ?_
          refine seqQ_ret ?_
          refine round_ret ?_
          refine escQ_ret ?_
          exact exQ_mk (by kernel_rfl) (by kernel_rfl)
        · replace h := ofF h339 h
          refine W_seq (by kernel_rfl) ?_
          obtain ⟨v346, h347, h⟩ := bind_of h
          refine W_cutK (Q' := (exQ .normal (gate_Wrong_s41 a0 a1 i265 v268)) v346) ?_ ?_
          · replace h := h347
            refine W_region (by kernel_rfl) ?_
            refine WO_run (j := 4) (k := 4) (orcs := []) (kF := [0, 6, 7, 8, 9, 10, 29]) (kL := [5, 6]) (fr' := [(0, aI a0), (6, .one (.ptr 6 0)), (7, .one (.fn 46 [(5, 0)])), (8, aD (.slice (.pair tI (.pair tI tI))) a1), (9, aI (List.length a1 : Int)), (10, aI i265), (29, aB (v268.1 == (1 : Int)))]) (L' := [(5, .cells [.dat tI i265]), (6, .one (.pair tI (.pair tI tI)) v268)]) (obs := []) rfl (by kernel_rfl) allP0 ?_
            rcases Bool.eq_false_or_eq_true (v268.1 == (1 : Int)) with h344 | h344
            · replace h := ofT h344 h
              refine WO_run (j := 8) (k := 4) (orcs := [(8, .known true), (10, .known true), (12, .known true), (14, .known true)]) (kF := [0, 6, 7, 8, 9, 10, 29, 33]) (kL := [5, 6]) (fr' := [(0, aI a0), (6, .one (.ptr 6 0)), (7, .one (.fn 46 [(5, 0)])), (8, aD (.slice (.pair tI (.pair tI tI))) a1), (9, aI (List.length a1 : Int)), (10, aI i265), (29, aB (v268.1 == (1 : Int))), (33, aB (decide (v268.2.1 < (0 : Int))))]) (L' := [(5, .cells [.dat tI i265]), (6, .one (.pair tI (.pair tI tI)) v268)]) (obs := [((v268.1 == (1 : Int)) = true), ((v268.1 == (1 : Int)) = true), ((v268.1 == (1 : Int)) = true), ((v268.1 == (1 : Int)) = true)]) rfl (by kernel_rfl) (allP2 h344 (allP2 h344 (allP2 h344 (allP1 h344)))) ?_
              rcases Bool.eq_false_or_eq_true (decide (v268.2.1 < (0 : Int))) with h345 | h345
              · replace h := ofT h345 h
                refine WO_run (j := 15) (k := 7) (orcs := [(16, .known true), (18, .known true), (20, .known true), (22, .known true), (24, .known true), (25, .val (.dat .bool true)), (27, .val (.dat .bool true))]) (kF := [0, 6, 7, 8, 9, 10, 25]) (kL := [5, 6]) (fr' := [(0, aI a0), (6, .one (.ptr 6 0)), (7, .one (.fn 46 [(5, 0)])), (8, aD (.slice (.pair tI (.pair tI tI))) a1), (9, aI (List.length a1 : Int)), (10, aI i265), (25, aB true)]) (L' := [(5, .cells [.dat tI i265]), (6, .one (.pair tI (.pair tI tI)) v268)]) (obs := [((decide (v268.2.1 < (0 : Int))) = true), ((decide (v268.2.1 < (0 : Int))) = true), ((decide (v268.2.1 < (0 : Int))) = true), ((decide (v268.2.1 < (0 : Int))) = true), ((v268.1 == (1 : Int)) = true), ((decide (v268.2.1 < (0 : Int))) = true), ((v268.1 == (1 : Int)) = true)]) rfl (by kernel_rfl) (allP2 h345 (allP2 h345 (allP2 h345 (allP2 h345 (allP2 h344 (allP2 h345 (allP1 h344))))))) ?_
                obtain rfl := Option.some.inj h
                refine WO_fin [0, 6, 7, 8, 9, 10, 25] [5, 6] (fr' := [(0, aI a0), (6, .one (.ptr 6 0)), (7, .one (.fn 46 [(5, 0)])), (8, aD (.slice (.pair tI (.pair tI tI))) a1), (9, aI (List.length a1 : Int)), (10, aI i265), (25, aB true)]) (L' := [(5, .cells [.dat tI i265]), (6, .one (.pair tI (.pair tI tI)) v268)]) (by kernel_rfl) (by kernel_rfl) ?_
                exact exQ_mk (by kernel_rfl) (by kernel_rfl)
              · replace h := ofF h345 h
                refine WO_run (j := 15) (k := 7) (orcs := [(16, .known false), (18, .known false), (20, .known false), (22, .known false), (24, .known true), (25, .val (.dat .bool false)), (27, .val (.dat .bool true))]) (kF := [0, 6, 7, 8, 9, 10, 25]) (kL := [5, 6]) (fr' := [(0, aI a0), (6, .one (.ptr 6 0)), (7, .one (.fn 46 [(5, 0)])), (8, aD (.slice (.pair tI (.pair tI tI))) a1), (9, aI (List.length a1 : Int)), (10, aI i265), (25, aB (decide (v268.2.1 ≥ a0)))]) (L' := [(5, .cells [.dat tI i265]), (6, .one (.pair tI (.pair tI tI)) v268)]) (obs := [((decide (v268.2.1 < (0 : Int))) = false), ((decide (v268.2.1 < (0 : Int))) = false), ((decide (v268.2.1 < (0 : Int))) = false), ((decide (v268.2.1 < (0 : Int))) = false), ((v268.1 == (1 : Int)) = true), ((decide (v268.2.1 < (0 : Int))) = false), ((v268.1 == (1 : Int)) = true)]) rfl (by kernel_rfl) (allP2 h345 (allP2 h345 (allP2 h345 (allP2 h345 (allP2 h344 (allP2 h345 (allP1 h344))))))) ?_
                obtain rfl := Option.some.inj h
                refine WO_fin [0, 6, 7, 8, 9, 10, 25] [5, 6] (fr' := [(0, aI a0), (6, .one (.ptr 6 0)), (7, .one (.fn 46 [(5, 0)])), (8, aD (.slice (.pair tI (.pair tI tI))) a1), (9, aI (List.length a1 : Int)), (10, aI i265), (25, aB (decide (v268.2.1 ≥ a0)))]) (L' := [(5, .cells [.dat tI i265]), (6, .one (.pair tI (.pair tI tI)) v268)]) (by kernel_rfl) (by kernel_rfl) ?_
                exact exQ_mk (by kernel_rfl) (by kernel_rfl)
            · replace h := ofF h344 h
              refine WO_run (j := 15) (k := 11) (orcs := [(8, .known false), (10, .known false), (12, .known false), (14, .known false), (16, .known true), (18, .known true), (20, .known true), (22, .known true), (24, .known false), (27, .val (.dat .bool false))]) (kF := [0, 6, 7, 8, 9, 10, 25]) (kL := [5, 6]) (fr' := [(0, aI a0), (6, .one (.ptr 6 0)), (7, .one (.fn 46 [(5, 0)])), (8, aD (.slice (.pair tI (.pair tI tI))) a1), (9, aI (List.length a1 : Int)), (10, aI i265), (25, aB false)]) (L' := [(5, .cells [.dat tI i265]), (6, .one (.pair tI (.pair tI tI)) v268)]) (obs := [((v268.1 == (1 : Int)) = false), ((v268.1 == (1 : Int)) = false), ((v268.1 == (1 : Int)) = false), ((v268.1 == (1 : Int)) = false), ((v268.1 == (1 : Int)) = false), ((v268.1 == (1 : Int)) = false)]) rfl (by kernel_rfl) (allP2 h344 (allP2 h344 (allP2 h344 (allP2 h344 (allP2 h344 (allP1 h344)))))) ?_
              obtain rfl := Option.some.inj h
              refine WO_fin [0, 6, 7, 8, 9, 10, 25] [5, 6] (fr' := [(0, aI a0), (6, .one (.ptr 6 0)), (7, .one (.fn 46 [(5, 0)])), (8, aD (.slice (.pair tI (.pair tI tI))) a1), (9, aI (List.length a1 : Int)), (10, aI i265), (25, aB false)]) (L' := [(5, .cells [.dat tI i265]), (6, .one (.pair tI (.pair tI tI)) v268)]) (by kernel_rfl) (by kernel_rfl) ?_
              exact exQ_mk (by kernel_rfl) (by kernel_rfl)
          · intro e fr L hJ
            obtain ⟨rfl, rfl, rfl⟩ := hJ
            refine LT_keep [0, 6, 7, 8, 9, 10, 25] [6, 5] (fr' := [(0, aI a0), (6, .one (.ptr 6 0)), (7, .one (.fn 46 [(5, 0)])), (8, aD (.slice (.pair tI (.pair tI tI))) a1), (9, aI (List.length a1 : Int)), (10, aI i265), (25, aB v346)]) (L' := [(6, .one (.pair tI (.pair tI tI)) v268), (5, .cells [.dat tI i265])]) (by kernel_rfl) ?_
            refine seqQ_norm ?_
            refine W_cond (o := .tmp 25) (b := v346) (by kernel_rfl) (by kernel_rfl) (fun h348 => ?_) (fun h348 => ?_)
            · replace h := ofT h348 h
              refine W_seq (by kernel_rfl) ?_
              refine W_run 1 [] [4] [] (fr' := [(4, aI (4 : Int))]) (L' := []) (obs := []) (by kernel_rfl) (by kernel_rfl) (by kernel_rfl) allP0 ?_
              refine seqQ_norm ?_
              obtain rfl := Option.some.inj h
              refine W_ret [4] [] (fr' := [(4, aI (4 : Int))]) (L' := []) (by kernel_rfl) (by kernel_rfl) ?_
              refine blockQ_ret ?_
              refine blockQ_ret ?_
              refine seqQ_ret ?_
              refine round_ret ?_
              refine escQ_ret ?_
              exact exQ_mk (by kernel_rfl) (by kernel_rfl)
            · replace h := ofF h348 h
              refine W_seq (by kernel_rfl) ?_
              obtain ⟨v394, h395, h⟩ := bind_of h
              refine W_cutK (Q' := (exQ .normal (gate_Wrong_s40 a0 a1 i265)) v394) ?_ ?_
              · replace h := h395
                refine W_seq (by kernel_rfl) ?_
                obtain ⟨v388, h389, h⟩ := bind_of h
                refine W_cutK (Q' := (exQ .normal (gate_Wrong_s38 a0 a1 i265 v268)) v388) ?_ ?_
                · replace h := h389
                  refine W_region (by kernel_rfl) ?_
                  refine WO_run (j := 4) (k := 4) (orcs := []) (kF := [0, 6, 7, 8, 9, 10, 44]) (kL := [5, 6]) (fr' := [(0, aI a0), (6, .one (.ptr 6 0)), (7, .one (.fn 46 [(5, 0)])), (8, aD (.slice (.pair tI (.pair tI tI))) a1), (9, aI (List.length a1 : Int)), (10, aI i265), (44, aB (decide (v268.1 > (1 : Int))))]) (L' := [(5, .cells [.dat tI i265]), (6, .one (.pair tI (.pair tI tI)) v268)]) (obs := []) rfl (by kernel_rfl) allP0 ?_
                  rcases Bool.eq_false_or_eq_true (decide (v268.1 > (1 : Int))) with h385 | h385
                  · replace h := ofT h385 h
                    refine WO_run (j := 7) (k := 3) (orcs := [(8, .known true), (10, .known true), (12, .known true)]) (kF := [0, 6, 7, 8, 9, 10, 44, 45, 47]) (kL := [5, 6]) (fr' := [(0, aI a0), (6, .one (.ptr 6 0)), (7, .one (.fn 46 [(5, 0)])), (8, aD (.slice (.pair tI (.pair tI tI))) a1), (9, aI (List.length a1 : Int)), (10, aI i265), (44, aB (decide (v268.1 > (1 : Int)))), (45, .one (.fn 46 [(5, 0)])), (47, aI v268.2.1)]) (L' := [(5, .cells [.dat tI i265]), (6, .one (.pair tI (.pair tI tI)) v268)]) (obs := [((decide (v268.1 > (1 : Int))) = true), ((decide (v268.1 > (1 : Int))) = true), ((decide (v268.1 > (1 : Int))) = true)]) rfl (by kernel_rfl) (allP2 h385 (allP2 h385 (allP1 h385))) ?_
                    obtain ⟨r386, h387, h⟩ := bind_of h
                    refine WO_lend [(1000, 5)] (us := [none, none]) (d := 48) (p := ((decide (v268.1 > (1 : Int))) = true)) (j := 8) rfl ⟨by kernel_rfl, by kernel_rfl, by kernel_rfl⟩ h385 (gate_Wrong_1_ok h387) (by kernel_rfl) (by kernel_rfl) ?_
                    refine WO_run (j := 11) (k := 3) (orcs := [(16, .known true), (19, .val (.dat .bool true))]) (kF := [0, 6, 7, 8, 9, 10, 40]) (kL := [5, 6]) (fr' := [(0, aI a0), (6, .one (.ptr 6 0)), (7, .one (.fn 46 [(5, 0)])), (8, aD (.slice (.pair tI (.pair tI tI))) a1), (9, aI (List.length a1 : Int)), (10, aI i265), (40, aB (!r386))]) (L' := [(5, .cells [.dat tI i265]), (6, .one (.pair tI (.pair tI tI)) v268)]) (obs := [((decide (v268.1 > (1 : Int))) = true), ((decide (v268.1 > (1 : Int))) = true)]) rfl (by kernel_rfl) (allP2 h385 (allP1 h385)) ?_
                    obtain rfl := Option.some.inj h
                    refine WO_fin [0, 6, 7, 8, 9, 10, 40] [5, 6] (fr' := [(0, aI a0), (6, .one (.ptr 6 0)), (7, .one (.fn 46 [(5, 0)])), (8, aD (.slice (.pair tI (.pair tI tI))) a1), (9, aI (List.length a1 : Int)), (10, aI i265), (40, aB (!r386))]) (L' := [(5, .cells [.dat tI i265]), (6, .one (.pair tI (.pair tI tI)) v268)]) (by kernel_rfl) (by kernel_rfl) ?_
                    exact exQ_mk (by kernel_rfl) (by kernel_rfl)
                  · replace h := ofF h385 h
                    refine WO_run (j := 11) (k := 7) (orcs := [(8, .known false), (10, .known false), (12, .known false), (14, .known false), (16, .known false), (19, .val (.dat .bool false))]) (kF := [0, 6, 7, 8, 9, 10, 40]) (kL := [5, 6]) (fr' := [(0, aI a0), (6, .one (.ptr 6 0)), (7, .one (.fn 46 [(5, 0)])), (8, aD (.slice (.pair tI (.pair tI tI))) a1), (9, aI (List.length a1 : Int)), (10, aI i265), (40, aB false)]) (L' := [(5, .cells [.dat tI i265]), (6, .one (.pair tI (.pair tI tI)) v268)]) (obs := [((decide (v268.1 > (1 : Int))) = false), ((decide (v268.1 > (1 : Int))) = false), ((decide (v268.1 > (1 : Int))) = false), ((decide (v268.1 > (1 : Int))) = false), ((decide (v268.1 > (1 : Int))) = false), ((decide (v268.1 > (1 : Int))) = false)]) rfl (by kernel_rfl) (allP2 h385 (allP2 h385 (allP2 h385 (allP2 h385 (allP2 h385 (allP1 h385)))))) ?_
                    obtain rfl := Option.some.inj h
                    refine WO_fin [0, 6, 7, 8, 9, 10, 40] [5, 6] (fr' := [(0, aI a0), (6, .one (.ptr 6 0)), (7, .one (.fn 46 [(5, 0)])), (8, aD (.slice (.pair tI (.pair tI tI))) a1), (9, aI (List.length a1 : Int)), (10, aI i265), (40, aB false)]) (L' := [(5, .cells [.dat tI i265]), (6, .one (.pair tI (.pair tI tI)) v268)]) (by kernel_rfl) (by kernel_rfl) ?_
                    exact exQ_mk (by kernel_rfl) (by kernel_rfl)
                · intro e fr L hJ
                  obtain ⟨rfl, rfl, rfl⟩ := hJ
                  refine LT_keep [0, 6, 7, 8, 9, 10, 40] [6, 5] (fr' := [(0, aI a0), (6, .one (.ptr 6 0)), (7, .one (.fn 46 [(5, 0)])), (8, aD (.slice (.pair tI (.pair tI tI))) a1), (9, aI (List.length a1 : Int)), (10, aI i265), (40, aB v388)]) (L' := [(6, .one (.pair tI (.pair tI tI)) v268), (5, .cells [.dat tI i265])]) (by kernel_rfl) ?_
                  refine seqQ_norm ?_
                  refine W_cond (o := .tmp 40) (b := v388) (by kernel_rfl) (by kernel_rfl) (fun h390 => ?_) (fun h390 => ?_)
                  · replace h := ofT h390 h
                    obtain rfl := Option.some.inj h
                    refine W_skip [0, 8, 9, 10, 40] [] (fr' := [(0, aI a0), (8, aD (.slice (.pair tI (.pair tI tI))) a1), (9, aI (List.length a1 : Int)), (10, aI i265), (40, aB v388)]) (L' := []) (by kernel_rfl) (by kernel_rfl) ?_
                    exact exQ_mk (by kernel_rfl) (by kernel_rfl)
                  · replace h := ofF h390 h
                    refine W_region (by kernel_rfl) ?_
                    refine WO_run (j := 4) (k := 4) (orcs := []) (kF := [0, 6, 7, 8, 9, 10, 40, 54]) (kL := [5, 6]) (fr' := [(0, aI a0), (6, .one (.ptr 6 0)), (7, .one (.fn 46 [(5, 0)])), (8, aD (.slice (.pair tI (.pair tI tI))) a1), (9, aI (List.length a1 : Int)), (10, aI i265), (40, aB v388), (54, aB (decide (v268.1 > (2 : Int))))]) (L' := [(5, .cells [.dat tI i265]), (6, .one (.pair tI (.pair tI tI)) v268)]) (obs := []) rfl (by kernel_rfl) allP0 ?_
                    rcases Bool.eq_false_or_eq_true (decide (v268.1 > (2 : Int))) with h391 | h391
                    · replace h := ofT h391 h
                      refine WO_run (j := 7) (k := 3) (orcs := [(8, .known true), (10, .known true), (12, .known true)]) (kF := [0, 8, 9, 10, 40, 54, 55, 57]) (kL := [5, 6]) (fr' := [(0, aI a0), (8, aD (.slice (.pair tI (.pair tI tI))) a1), (9, aI (List.length a1 : Int)), (10, aI i265), (40, aB v388), (54, aB (decide (v268.1 > (2 : Int)))), (55, .one (.fn 46 [(5, 0)])), (57, aI v268.2.2)]) (L' := [(5, .cells [.dat tI i265]), (6, .one (.pair tI (.pair tI tI)) v268)]) (obs := [((decide (v268.1 > (2 : Int))) = true), ((decide (v268.1 > (2 : Int))) = true), ((decide (v268.1 > (2 : Int))) = true)]) rfl (by kernel_rfl) (allP2 h391 (allP2 h391 (allP1 h391))) ?_
                      obtain ⟨r392, h393, h⟩ := bind_of h
                      refine WO_lend [(1000, 5)] (us := [none, none]) (d := 58) (p := ((decide (v268.1 > (2 : Int))) = true)) (j := 8) rfl ⟨by kernel_rfl, by kernel_rfl, by kernel_rfl⟩ h391 (gate_Wrong_1_ok h393) (by kernel_rfl) (by kernel_rfl) ?_
                      refine WO_run (j := 11) (k := 3) (orcs := [(16, .known true), (19, .val (.dat .bool true))]) (kF := [0, 8, 9, 10, 40]) (kL := [5, 6]) (fr' := [(0, aI a0), (8, aD (.slice (.pair tI (.pair tI tI))) a1), (9, aI (List.length a1 : Int)), (10, aI i265), (40, aB (!r392))]) (L' := [(5, .cells [.dat tI i265]), (6, .one (.pair tI (.pair tI tI)) v268)]) (obs := [((decide (v268.1 > (2 : Int))) = true), ((decide (v268.1 > (2 : Int))) = true)]) rfl (by kernel_rfl) (allP2 h391 (allP1 h391)) ?_
                      obtain rfl := Option.some.inj h
                      refine WO_fin [0, 8, 9, 10, 40] [] (fr' := [(0, aI a0), (8, aD (.slice (.pair tI (.pair tI tI))) a1), (9, aI (List.length a1 : Int)), (10, aI i265), (40, aB (!r392))]) (L' := []) (by kernel_rfl) (by kernel_rfl) ?_
                      exact exQ_mk (by kernel_rfl) (by kernel_rfl)
                    · replace h := ofF h391 h
                      refine WO_run (j := 11) (k := 7) (orcs := [(8, .known false), (10, .known false), (12, .known false), (14, .known false), (16, .known false), (19, .val (.dat .bool false))]) (kF := [0, 8, 9, 10, 40]) (kL := [5, 6]) (fr' := [(0, aI a0), (8, aD (.slice (.pair tI (.pair tI tI))) a1), (9, aI (List.length a1 : Int)), (10, aI i265), (40, aB false)]) (L' := [(5, .cells [.dat tI i265]), (6, .one (.pair tI (.pair tI tI)) v268)]) (obs := [((decide (v268.1 > (2 : Int))) = false), ((decide (v268.1 > (2 : Int))) = false), ((decide (v268.1 > (2 : Int))) = false), ((decide (v268.1 > (2 : Int))) = false), ((decide (v268.1 > (2 : Int))) = false), ((decide (v268.1 > (2 : Int))) = false)]) rfl (by kernel_rfl) (allP2 h391 (allP2 h391 (allP2 h391 (allP2 h391 (allP2 h391 (allP1 h391)))))) ?_
                      obtain rfl := Option.some.inj h
                      refine WO_fin [0, 8, 9, 10, 40] [] (fr' := [(0, aI a0), (8, aD (.slice (.pair tI (.pair tI tI))) a1), (9, aI (List.length a1 : Int)), (10, aI i265), (40, aB false)]) (L' := []) (by kernel_rfl) (by kernel_rfl) ?_
                      exact exQ_mk (by kernel_rfl) (by kernel_rfl)
              · intro e fr L hJ
                obtain ⟨rfl, rfl, rfl⟩ := hJ
                refine LT_keep [0, 8, 9, 10, 40] [] (fr' := [(0, aI a0), (8, aD (.slice (.pair tI (.pair tI tI))) a1), (9, aI (List.length a1 : Int)), (10, aI i265), (40, aB v394)]) (L' := []) (by kernel_rfl) ?_
                refine seqQ_norm ?_
                refine W_cond (o := .tmp 40) (b := v394) (by kernel_rfl) (by kernel_rfl) (fun h396 => ?_) (fun h396 => ?_)
                · replace h := ofT h396 h
                  refine W_seq (by kernel_rfl) ?_
                  refine W_run 1 [] [4] [] (fr' := [(4, aI (2 : Int))]) (L' := []) (obs := []) (by kernel_rfl) (by kernel_rfl) (by kernel_rfl) allP0 ?_
                  refine seqQ_norm ?_
                  obtain rfl := Option.some.inj h
                  refine W_ret [4] [] (fr' := [(4, aI (2 : Int))]) (L' := []) (by kernel_rfl) (by kernel_rfl) ?_
                  refine blockQ_ret ?_
                  refine blockQ_ret ?_
                  refine seqQ_ret ?_
                  refine round_ret ?_
                  refine escQ_ret ?_
                  exact exQ_mk (by kernel_rfl) (by kernel_rfl)
                · replace h := ofF h396 h
                  refine W_skip [0, 8, 9, 10] [] (fr' := [(0, aI a0), (8, aD (.slice (.pair tI (.pair tI tI))) a1), (9, aI (List.length a1 : Int)), (10, aI i265)]) (L' := []) (by kernel_rfl) (by kernel_rfl) ?_
                  refine blockQ_norm ?_
                  refine blockQ_norm ?_
                  refine seqQ_norm ?_
                  obtain rfl := Option.some.inj h
                  refine W_run 2 [] [0, 8, 9, 10] [] (fr' := [(0, aI a0), (8, aD (.slice (.pair tI (.pair tI tI))) a1), (9, aI (List.length a1 : Int)), (10, aI (w64 (i265 + (1 : Int))))]) (L' := []) (obs := []) (by kernel_rfl) (by kernel_rfl) (by kernel_rfl) allP0 ?_
                  exact round_next' (by kernel_rfl) (by kernel_rfl)
    · obtain rfl := stepL_false h270 h
      refine W_exit (id := 0) [] [] (fr' := []) (L' := []) (by kernel_rfl) (by kernel_rfl) ?_
      refine seqQ_exit ?_
      refine round_exit ?_
      refine escQ_brk ?_
      exact exQ_mk (by kernel_rfl) (by kernel_rfl)
  · intro e fr L hJ
    rcases v398 with v403 | v404
    · obtain ⟨rfl, rfl, rfl⟩ := hJ
      obtain rfl := Option.some.inj h
      refine LT_keep [4] [] (fr' := [(4, aI v403)]) (L' := []) (by kernel_rfl) ?_
      refine blockQ_ret ?_
      refine seqQ_ret ?_
      exact retQ_mk (by kernel_rfl) (by kernel_rfl) (by kernel_rfl)
    · obtain ⟨rfl, rfl, rfl⟩ := hJ
      refine LT_keep [] [] (fr' := []) (L' := []) (by kernel_rfl) ?_
      refine blockQ_hit ?_
      refine seqQ_norm ?_
      refine W_seq (by kernel_rfl) ?_
      refine W_run 1 [] [4] [] (fr' := [(4, aI (0 : Int))]) (L' := []) (obs := []) (by kernel_rfl) (by kernel_rfl) (by kernel_rfl) allP0 ?_
      refine seqQ_norm ?_
      obtain rfl := Option.some.inj h
      refine W_ret [4] [] (fr' := [(4, aI (0 : Int))]) (L' := []) (by kernel_rfl) (by kernel_rfl) ?_
      exact retQ_mk (by kernel_rfl) (by kernel_rfl) (by kernel_rfl)

def gate_Check (a0 : Int) (a1 : (List (Int × (Int × Int)))) : Option Int :=
bif (((decide (a0 < (0 : Int))) || (decide (a0 > (5 : Int)))) || (decide ((List.length a1 : Int) < (1 : Int)))) || (decide ((List.length a1 : Int) > (40 : Int))) then
(some (1 : Int))
else
((gate_Wrong a0 a1).bind fun r2 =>
some r2)
theorem gate_Check_ok {a0 : Int} {a1 : (List (Int × (Int × Int)))} {r : Int} (h : gate_Check a0 a1 = some r) : FnC Try.prog 29 [aI a0, aD (.slice (.pair tI (.pair tI tI))) a1] [] (aI r) [] := by
  refine fnC_of_W (B := bodyOf Try.f29) (n := 24) Try.func29 (by kernel_rfl) (by kernel_rfl) (by kernel_rfl) (by kernel_rfl) (by kernel_rfl) ?_
  intro K
  refine W_seq (by kernel_rfl) ?_
  refine W_run 1 [] [0, 1] [] (fr' := [(0, aI a0), (1, aD (.slice (.pair tI (.pair tI tI))) a1)]) (L' := []) (obs := []) (by kernel_rfl) (by kernel_rfl) (by kernel_rfl) allP0 ?_
  refine seqQ_norm ?_
  refine W_seq (by kernel_rfl) ?_
  refine W_seq (by kernel_rfl) ?_
  refine W_run 16 [] [0, 1, 20] [] (fr' := [(0, aI a0), (1, aD (.slice (.pair tI (.pair tI tI))) a1), (20, aB ((((decide (a0 < (0 : Int))) || (decide (a0 > (5 : Int)))) || (decide ((List.length a1 : Int) < (1 : Int)))) || (decide ((List.length a1 : Int) > (40 : Int)))))]) (L' := []) (obs := []) (by kernel_rfl) (by kernel_rfl) (by kernel_rfl) allP0 ?_
  refine seqQ_norm ?_
  refine W_cond (o := .tmp 20) (b := (((decide (a0 < (0 : Int))) || (decide (a0 > (5 : Int)))) || (decide ((List.length a1 : Int) < (1 : Int)))) || (decide ((List.length a1 : Int) > (40 : Int)))) (by kernel_rfl) (by kernel_rfl) (fun h1 => ?_) (fun h1 => ?_)
  · replace h := ofT h1 h
    refine W_seq (by kernel_rfl) ?_
    refine W_run 1 [] [4] [] (fr' := [(4, aI (1 : Int))]) (L' := []) (obs := []) (by kernel_rfl) (by kernel_rfl) (by kernel_rfl) allP0 ?_
    refine seqQ_norm ?_
    obtain rfl := Option.some.inj h
    refine W_ret [4] [] (fr' := [(4, aI (1 : Int))]) (L' := []) (by kernel_rfl) (by kernel_rfl) ?_
    refine seqQ_ret ?_
    exact retQ_mk (by kernel_rfl) (by kernel_rfl) (by kernel_rfl)
  · replace h := ofF h1 h
    refine W_skip [0, 1] [] (fr' := [(0, aI a0), (1, aD (.slice (.pair tI (.pair tI tI))) a1)]) (L' := []) (by kernel_rfl) (by kernel_rfl) ?_
    refine seqQ_norm ?_
    refine W_seq (by kernel_rfl) ?_
    refine W_region (by kernel_rfl) ?_
    refine WO_run (j := 2) (k := 2) (orcs := []) (kF := [21, 22]) (kL := []) (fr' := [(21, aI a0), (22, aD (.slice (.pair tI (.pair tI tI))) a1)]) (L' := []) (obs := []) rfl (by kernel_rfl) allP0 ?_
    obtain ⟨r2, h3, h⟩ := bind_of h
    refine WO_call0 (us := [none, none]) (d := 23) (p := True) (j := 3) rfl ⟨by kernel_rfl, by kernel_rfl, by kernel_rfl⟩ trivial (gate_Wrong_ok h3) (by kernel_rfl) ?_
    refine WO_run (j := 4) (k := 1) (orcs := []) (kF := [4]) (kL := []) (fr' := [(4, aI r2)]) (L' := []) (obs := []) rfl (by kernel_rfl) allP0 ?_
    refine WO_fin [4] [] (fr' := [(4, aI r2)]) (L' := []) (by kernel_rfl) (by kernel_rfl) ?_
    refine seqQ_norm ?_
    obtain rfl := Option.some.inj h
    refine W_ret [4] [] (fr' := [(4, aI r2)]) (L' := []) (by kernel_rfl) (by kernel_rfl) ?_
    exact retQ_mk (by kernel_rfl) (by kernel_rfl) (by kernel_rfl)

@[reducible] def gate_Deep_s7 (a1 : (List (Int × (Int × Int)))) (i70 : Int) (x71 : (List Int)) (v : Int) : Fr × LL := ([(1, aD (.slice (.pair tI (.pair tI tI))) a1), (7, .one (.slc 46)), (10, aI v), (17, aD (.slice (.pair tI (.pair tI tI))) a1), (18, aI (List.length a1 : Int)), (19, aI i70)], [(46, .seq tI x71)])
@[reducible] def gate_Deep_s8 (a1 : (List (Int × (Int × Int)))) (i70 : Int) (x71 : (List Int)) (v73 : (Int × (Int × Int))) (v : Int) : Fr × LL := ([(1, aD (.slice (.pair tI (.pair tI tI))) a1), (7, .one (.slc 46)), (9, .one (.ptr 9 0)), (10, aI v), (17, aD (.slice (.pair tI (.pair tI tI))) a1), (18, aI (List.length a1 : Int)), (19, aI i70)], [(46, .seq tI x71), (9, .one (.pair tI (.pair tI tI)) v73)])
def gate_Deep_b9 (i70 : Int) (v73 : (Int × (Int × Int))) (x71 : (List Int)) : Option (Flow (List Int) (List Int)) :=
(bif decide (v73.1 > (1 : Int)) then
((idx x71 v73.2.1).bind fun v106 =>
some (w64 (v106 + (1 : Int))))
else
(some (0 : Int))).bind fun v108 =>
(bif decide (v73.1 > (2 : Int)) then
((idx x71 v73.2.2).bind fun v117 =>
some (imax v108 (w64 (v117 + (1 : Int)))))
else
(some v108)).bind fun v119 =>
(ck ((List.length x71 : Int) + 1 ≤ 4294967296)).bind fun _ =>
some (.next (x71 ++ [v119]))
@[reducible] def gate_Deep_s10 (a1 : (List (Int × (Int × Int)))) (v : Int × (List Int)) : Fr × LL := ([(1, aD (.slice (.pair tI (.pair tI tI))) a1), (7, .one (.slc 46)), (17, aD (.slice (.pair tI (.pair tI tI))) a1), (18, aI (List.length a1 : Int)), (19, aI v.1)], [(46, .seq tI v.2)])
@[reducible] def gate_Deep_s11 (a1 : (List (Int × (Int × Int)))) (v : (List Int)) : Fr × LL := ([(1, aD (.slice (.pair tI (.pair tI tI))) a1), (7, .one (.slc 46))], [(46, .seq tI v)])
def gate_Deep (a0 : Int) (a1 : (List (Int × (Int × Int)))) : Option (Int × Int) :=
(gate_Check a0 a1).bind fun r1 =>
bif r1 != (0 : Int) then
(some ((0 : Int), r1))
else
((forL gate_Deep_b9 (fun x71 => x71) a1 0 []).bind fun v123 =>
(idx v123 (w64 ((List.length a1 : Int) - (1 : Int)))).bind fun v128 =>
some (v128, (0 : Int)))
theorem gate_Deep_ok {a0 : Int} {a1 : (List (Int × (Int × Int)))} {r : (Int × Int)} (h : gate_Deep a0 a1 = some r) : FnC Try.prog 37 [aI a0, aD (.slice (.pair tI (.pair tI tI))) a1] [] (.tup [.dat tI r.1, .dat tI r.2]) [] := by
  refine fnC_of_W (B := bodyOf Try.f37) (n := 54) Try.func37 (by kernel_rfl) (by kernel_rfl) (by kernel_rfl) (by kernel_rfl) (by kernel_rfl) ?_
  intro K
  refine W_seq (by kernel_rfl) ?_
  refine W_run 2 [] [0, 1] [] (fr' := [(0, aI a0), (1, aD (.slice (.pair tI (.pair tI tI))) a1)]) (L' := []) (obs := []) (by kernel_rfl) (by kernel_rfl) (by kernel_rfl) allP0 ?_
  refine seqQ_norm ?_
  refine W_seq (by kernel_rfl) ?_
  refine W_seq (by kernel_rfl) ?_
  refine W_region (by kernel_rfl) ?_
  refine WO_run (j := 2) (k := 2) (orcs := []) (kF := [1, 11, 12]) (kL := []) (fr' := [(1, aD (.slice (.pair tI (.pair tI tI))) a1), (11, aI a0), (12, aD (.slice (.pair tI (.pair tI tI))) a1)]) (L' := []) (obs := []) rfl (by kernel_rfl) allP0 ?_
  obtain ⟨r1, h2, h⟩ := bind_of h
  refine WO_call0 (us := [none, none]) (d := 13) (p := True) (j := 3) rfl ⟨by kernel_rfl, by kernel_rfl, by kernel_rfl⟩ trivial (gate_Check_ok h2) (by kernel_rfl) ?_
  refine WO_run (j := 4) (k := 1) (orcs := []) (kF := [1, 6]) (kL := []) (fr' := [(1, aD (.slice (.pair tI (.pair tI tI))) a1), (6, aI r1)]) (L' := []) (obs := []) rfl (by kernel_rfl) allP0 ?_
  refine WO_fin [1, 6] [] (fr' := [(1, aD (.slice (.pair tI (.pair tI tI))) a1), (6, aI r1)]) (L' := []) (by kernel_rfl) (by kernel_rfl) ?_
  refine seqQ_norm ?_
  refine W_seq (by kernel_rfl) ?_
  refine W_run 2 [] [1, 6, 15] [] (fr' := [(1, aD (.slice (.pair tI (.pair tI tI))) a1), (6, aI r1), (15, aB (r1 != (0 : Int)))]) (L' := []) (obs := []) (by kernel_rfl) (by kernel_rfl) (by kernel_rfl) allP0 ?_
  refine seqQ_norm ?_
  refine W_cond (o := .tmp 15) (b := r1 != (0 : Int)) (by kernel_rfl) (by kernel_rfl) (fun h3 => ?_) (fun h3 => ?_)
  · replace h := ofT h3 h
    refine W_seq (by kernel_rfl) ?_
    refine W_run 3 [] [4, 5] [] (fr' := [(4, aI (0 : Int)), (5, aI r1)]) (L' := []) (obs := []) (by kernel_rfl) (by kernel_rfl) (by kernel_rfl) allP0 ?_
    refine seqQ_norm ?_
    obtain rfl := Option.some.inj h
    refine W_ret [4, 5] [] (fr' := [(4, aI (0 : Int)), (5, aI r1)]) (L' := []) (by kernel_rfl) (by kernel_rfl) ?_
    refine seqQ_ret ?_
    exact retQ_mk (by kernel_rfl) (by kernel_rfl) (by kernel_rfl)
  · replace h := ofF h3 h
    refine W_skip [1] [] (fr' := [(1, aD (.slice (.pair tI (.pair tI tI))) a1)]) (L' := []) (by kernel_rfl) (by kernel_rfl) ?_
    refine seqQ_norm ?_
    refine W_seq (by kernel_rfl) ?_
    refine W_run 1 [] [1, 7] [] (fr' := [(1, aD (.slice (.pair tI (.pair tI tI))) a1), (7, .one (.nilS))]) (L' := []) (obs := []) (by kernel_rfl) (by kernel_rfl) (by kernel_rfl) allP0 ?_
    refine seqQ_norm ?_
    refine W_seq (by kernel_rfl) ?_
    refine W_seq (by kernel_rfl) ?_
    refine W_run 3 [] [1, 7, 17, 18, 19] [] (fr' := [(1, aD (.slice (.pair tI (.pair tI tI))) a1), (7, .one (.nilS)), (17, aD (.slice (.pair tI (.pair tI tI))) a1), (18, aI (List.length a1 : Int)), (19, aI (0 : Int))]) (L' := []) (obs := []) (by kernel_rfl) (by kernel_rfl) (by kernel_rfl) allP0 ?_
    refine seqQ_norm ?_
    refine W_block (id := 0) (by kernel_rfl) ?_
    obtain ⟨v123, h124, h⟩ := bind_of h
    refine W_len (t := 17) (u := (.pair tI (.pair tI tI))) (xs := a1) (by kernel_rfl) (fun h127 => ?_)
    obtain ⟨h125, h126⟩ := forL_iter h127 h124
    refine W_mine 7 46 tI (by kernel_rfl) ?_
    refine W_weaken [1, 7, 17, 18, 19] [46] (fr' := ((gate_Deep_s10 a1) ((0 : Int), [])).1) (L' := ((gate_Deep_s10 a1) ((0 : Int), [])).2) (by kernel_rfl) ?_
    refine W_cutK (W_loop (S := (gate_Deep_s10 a1)) (J := (exQ (.exit 0) (gate_Deep_s11 a1))) (by kernel_rfl) ?_ h125 _ v123 h126) ?_
    · rintro ⟨i70, x71⟩ s h
      refine W_seq (by kernel_rfl) ?_
      refine W_run 1 [] [1, 7, 17, 18, 19, 20] [46] (fr' := [(1, aD (.slice (.pair tI (.pair tI tI))) a1), (7, .one (.slc 46)), (17, aD (.slice (.pair tI (.pair tI tI))) a1), (18, aI (List.length a1 : Int)), (19, aI i70), (20, aB (decide (i70 < (List.length a1 : Int))))]) (L' := [(46, .seq tI x71)]) (obs := []) (by kernel_rfl) (by kernel_rfl) (by kernel_rfl) allP0 ?_
      refine seqQ_norm ?_
      refine W_seq (by kernel_rfl) ?_
      refine W_cond (o := .tmp 20) (b := decide (i70 < (List.length a1 : Int))) (by kernel_rfl) (by kernel_rfl) (fun h75 => ?_) (fun h75 => ?_)
      · replace h := stepL_true h75 h
        obtain ⟨v73, _, h74, h, rfl⟩ := h
        refine W_skip [1, 7, 17, 18, 19] [46] (fr' := [(1, aD (.slice (.pair tI (.pair tI tI))) a1), (7, .one (.slc 46)), (17, aD (.slice (.pair tI (.pair tI tI))) a1), (18, aI (List.length a1 : Int)), (19, aI i70)]) (L' := [(46, .seq tI x71)]) (by kernel_rfl) (by kernel_rfl) ?_
        refine seqQ_norm ?_
        refine W_seq (by kernel_rfl) ?_
        refine W_block (id := 1) (by kernel_rfl) ?_
        refine W_seq (by kernel_rfl) ?_
        refine W_run 4 [(1, .val (.dat (.pair tI (.pair tI tI)) v73)), (5, .typed)] [1, 7, 9, 17, 18, 19] [46, 9] (fr' := [(1, aD (.slice (.pair tI (.pair tI tI))) a1), (7, .one (.slc 46)), (9, .one (.ptr 9 0)), (17, aD (.slice (.pair tI (.pair tI tI))) a1), (18, aI (List.length a1 : Int)), (19, aI i70)]) (L' := [(46, .seq tI x71), (9, .one (.pair tI (.pair tI tI)) v73)]) (obs := [Idx a1 i70 v73, True]) (by kernel_rfl) (by kernel_rfl) (by kernel_rfl) (allP2 (Idx.of h74) (allP1 trivial)) ?_
        refine seqQ_norm ?_
        refine W_seq (by kernel_rfl) ?_
        refine W_run 1 [] [1, 7, 9, 10, 17, 18, 19] [46, 9] (fr' := [(1, aD (.slice (.pair tI (.pair tI tI))) a1), (7, .one (.slc 46)), (9, .one (.ptr 9 0)), (10, aI (0 : Int)), (17, aD (.slice (.pair tI (.pair tI tI))) a1), (18, aI (List.length a1 : Int)), (19, aI i70)]) (L' := [(46, .seq tI x71), (9, .one (.pair tI (.pair tI tI)) v73)]) (obs := []) (by kernel_rfl) (by kernel_rfl) (by kernel_rfl) allP0 ?_
        refine seqQ_norm ?_
        refine W_seq (by kernel_rfl) ?_
        obtain ⟨v108, h109, h⟩ := bind_of h
        refine W_cutK (Q' := (exQ .normal (gate_Deep_s8 a1 i70 x71 v73)) v108) ?_ ?_
        · replace h := h109
          refine W_seq (by kernel_rfl) ?_
          refine W_run 3 [] [1, 7, 9, 10, 17, 18, 19, 25] [46, 9] (fr' := [(1, aD (.slice (.pair tI (.pair tI tI))) a1), (7, .one (.slc 46)), (9, .one (.ptr 9 0)), (10, aI (0 : Int)), (17, aD (.slice (.pair tI (.pair tI tI))) a1), (18, aI (List.length a1 : Int)), (19, aI i70), (25, aB (decide (v73.1 > (1 : Int))))]) (L' := [(46, .seq tI x71), (9, .one (.pair tI (.pair tI tI)) v73)]) (obs := []) (by kernel_rfl) (by kernel_rfl) (by kernel_rfl) allP0 ?_
          refine seqQ_norm ?_
          refine W_cond (o := .tmp 25) (b := decide (v73.1 > (1 : Int))) (by kernel_rfl) (by kernel_rfl) (fun h105 => ?_) (fun h105 => ?_)
          · replace h := ofT h105 h
            obtain ⟨v106, h107, h⟩ := bind_of h
            obtain rfl := Option.some.inj h
            refine W_run 7 [(9, .val (.dat tI v106))] [1, 7, 9, 10, 17, 18, 19] [46, 9] (fr' := [(1, aD (.slice (.pair tI (.pair tI tI))) a1), (7, .one (.slc 46)), (9, .one (.ptr 9 0)), (10, aI (w64 (v106 + (1 : Int)))), (17, aD (.slice (.pair tI (.pair tI tI))) a1), (18, aI (List.length a1 : Int)), (19, aI i70)]) (L' := [(46, .seq tI x71), (9, .one (.pair tI (.pair tI tI)) v73)]) (obs := [InR v73.2.1 (List.length x71), Idx x71 v73.2.1 v106]) (by kernel_rfl) (by kernel_rfl) (by kernel_rfl) (allP2 (InR.of h107) (allP1 (Idx.of h107))) ?_
            exact exQ_mk (by kernel_rfl) (by kernel_rfl)
          · replace h := ofF h105 h
            obtain rfl := Option.some.inj h
            refine W_skip [1, 7, 9, 10, 17, 18, 19] [46, 9] (fr' := [(1, aD (.slice (.pair tI (.pair tI tI))) a1), (7, .one (.slc 46)), (9, .one (.ptr 9 0)), (10, aI (0 : Int)), (17, aD (.slice (.pair tI (.pair tI tI))) a1), (18, aI (List.length a1 : Int)), (19, aI i70)]) (L' := [(46, .seq tI x71), (9, .one (.pair tI (.pair tI tI)) v73)]) (by kernel_rfl) (by kernel_rfl) ?_
            exact exQ_mk (by kernel_rfl) (by kernel_rfl)
        · intro e fr L hJ
          obtain ⟨rfl, rfl, rfl⟩ := hJ
          refine LT_keep [1, 7, 9, 10, 17, 18, 19] [46, 9] (fr' := [(1, aD (.slice (.pair tI (.pair tI tI))) a1), (7, .one (.slc 46)), (9, .one (.ptr 9 0)), (10, aI v108), (17, aD (.slice (.pair tI (.pair tI tI))) a1), (18, aI (List.length a1 : Int)), (19, aI i70)]) (L' := [(46, .seq tI x71), (9, .one (.pair tI (.pair tI tI)) v73)]) (by kernel_rfl) ?_
          refine seqQ_norm ?_
          refine W_seq (by kernel_rfl) ?_
          obtain ⟨v119, h120, h⟩ := bind_of h
          refine W_cutK (Q' := (exQ .normal (gate_Deep_s7 a1 i70 x71)) v119) ?_ ?_
          · replace h := h120
            refine W_seq (by kernel_rfl) ?_
            refine W_run 3 [] [1, 7, 9, 10, 17, 18, 19, 34] [46, 9] (fr' := [(1, aD (.slice (.pair tI (.pair tI tI))) a1), (7, .one (.slc 46)), (9, .one (.ptr 9 0)), (10, aI v108), (17, aD (.slice (.pair tI (.pair tI tI))) a1), (18, aI (List.length a1 : Int)), (19, aI i70), (34, aB (decide (v73.1 > (2 : Int))))]) (L' := [(46, .seq tI x71), (9, .one (.pair tI (.pair tI tI)) v73)]) (obs := []) (by kernel_rfl) (by kernel_rfl) (by kernel_rfl) allP0 ?_
            refine seqQ_norm ?_
            refine W_cond (o := .tmp 34) (b := decide (v73.1 > (2 : Int))) (by kernel_rfl) (by kernel_rfl) (fun h116 => ?_) (fun h116 => ?_)
            · replace h := ofT h116 h
              obtain ⟨v117, h118, h⟩ := bind_of h
              obtain rfl := Option.some.inj h
              refine W_run 9 [(11, .val (.dat tI v117))] [1, 7, 10, 17, 18, 19] [46] (fr' := [(1, aD (.slice (.pair tI (.pair tI tI))) a1), (7, .one (.slc 46)), (10, aI (imax v108 (w64 (v117 + (1 : Int))))), (17, aD (.slice (.pair tI (.pair tI tI))) a1), (18, aI (List.length a1 : Int)), (19, aI i70)]) (L' := [(46, .seq tI x71)]) (obs := [InR v73.2.2 (List.length x71), Idx x71 v73.2.2 v117]) (by kernel_rfl) (by kernel_rfl) (by kernel_rfl) (allP2 (InR.of h118) (allP1 (Idx.of h118))) ?_
              exact exQ_mk (by kernel_rfl) (by kernel_rfl)
            · replace h := ofF h116 h
              obtain rfl := Option.some.inj h
              refine W_skip [1, 7, 10, 17, 18, 19] [46] (fr' := [(1, aD (.slice (.pair tI (.pair tI tI))) a1), (7, .one (.slc 46)), (10, aI v108), (17, aD (.slice (.pair tI (.pair tI tI))) a1), (18, aI (List.length a1 : Int)), (19, aI i70)]) (L' := [(46, .seq tI x71)]) (by kernel_rfl) (by kernel_rfl) ?_
              exact exQ_mk (by kernel_rfl) (by kernel_rfl)
          · intro e fr L hJ
            obtain ⟨rfl, rfl, rfl⟩ := hJ
            refine LT_keep [1, 7, 10, 17, 18, 19] [46] (fr' := [(1, aD (.slice (.pair tI (.pair tI tI))) a1), (7, .one (.slc 46)), (10, aI v119), (17, aD (.slice (.pair tI (.pair tI tI))) a1), (18, aI (List.length a1 : Int)), (19, aI i70)]) (L' := [(46, .seq tI x71)]) (by kernel_rfl) ?_
            refine seqQ_norm ?_
            obtain ⟨_, h121, h⟩ := bind_of h
            replace h121 := ck_some h121
            refine W_run 5 [] [1, 7, 17, 18, 19] [46] (fr' := [(1, aD (.slice (.pair tI (.pair tI tI))) a1), (7, .one (.slc 46)), (17, aD (.slice (.pair tI (.pair tI tI))) a1), (18, aI (List.length a1 : Int)), (19, aI i70)]) (L' := [(46, .seq tI (x71 ++ [v119]))]) (obs := [SmallLen (List.length x71 + List.length [v119])]) (by kernel_rfl) (by kernel_rfl) (by kernel_rfl) (allP1 h121) ?_
            refine blockQ_norm ?_
            refine seqQ_norm ?_
            obtain rfl := Option.some.inj h
            refine W_run 2 [] [1, 7, 17, 18, 19] [46] (fr' := [(1, aD (.slice (.pair tI (.pair tI tI))) a1), (7, .one (.slc 46)), (17, aD (.slice (.pair tI (.pair tI tI))) a1), (18, aI (List.length a1 : Int)), (19, aI (w64 (i70 + (1 : Int))))]) (L' := [(46, .seq tI (x71 ++ [v119]))]) (obs := []) (by kernel_rfl) (by kernel_rfl) (by kernel_rfl) allP0 ?_
            exact round_next' (by kernel_rfl) (by kernel_rfl)
      · obtain rfl := stepL_false h75 h
        refine W_exit (id := 0) [1, 7] [46] (fr' := [(1, aD (.slice (.pair tI (.pair tI tI))) a1), (7, .one (.slc 46))]) (L' := [(46, .seq tI x71)]) (by kernel_rfl) (by kernel_rfl) ?_
        refine seqQ_exit ?_
        refine round_exit ?_
        exact exQ_mk (by kernel_rfl) (by kernel_rfl)
    · intro e fr L hJ
      obtain ⟨rfl, rfl, rfl⟩ := hJ
      refine LT_keep [1, 7] [46] (fr' := [(1, aD (.slice (.pair tI (.pair tI tI))) a1), (7, .one (.slc 46))]) (L' := [(46, .seq tI v123)]) (by kernel_rfl) ?_
      refine blockQ_hit ?_
      refine seqQ_norm ?_
      refine W_seq (by kernel_rfl) ?_
      obtain ⟨v128, h129, h⟩ := bind_of h
      refine W_run 8 [(11, .val (.dat tI v128))] [4, 5] [] (fr' := [(4, aI v128), (5, aI (0 : Int))]) (L' := []) (obs := [InR (w64 ((List.length a1 : Int) - (1 : Int))) (List.length v123), Idx v123 (w64 ((List.length a1 : Int) - (1 : Int))) v128]) (by kernel_rfl) (by kernel_rfl) (by kernel_rfl) (allP2 (InR.of h129) (allP1 (Idx.of h129))) ?_
      refine seqQ_norm ?_
      obtain rfl := Option.some.inj h
      refine W_ret [4, 5] [] (fr' := [(4, aI v128), (5, aI (0 : Int))]) (L' := []) (by kernel_rfl) (by kernel_rfl) ?_
      exact retQ_mk (by kernel_rfl) (by kernel_rfl) (by kernel_rfl)

def wide_back_b1 (a0 : (List Int)) (i15 : Int) (x16 : (List Int)) : Option (Flow (List Int) (List Int)) :=
(idx a0 i15).bind fun v19 =>
(ck (0 ≤ v19 ∧ v19 < 5)).bind fun _ =>
(idx x16 v19).bind fun v22 =>
some (.next (List.set x16 (Int.toNat v19) i15))
@[reducible] def wide_back_s2 (a0 : (List Int)) (v : Int × (List Int)) : Fr × LL := ([(2, .one (.ptr 2 0)), (3, .one (.ptr 3 0)), (6, aD (.arr 5 tI) a0), (7, aI v.1)], [(2, .one (.arr 5 tI) [(0 : Int), (0 : Int), (0 : Int), (0 : Int), (0 : Int)]), (3, .one (.arr 5 tI) v.2)])
@[reducible] def wide_back_s3 (v : (List Int)) : Fr × LL := ([(2, .one (.ptr 2 0)), (3, .one (.ptr 3 0))], [(2, .one (.arr 5 tI) [(0 : Int), (0 : Int), (0 : Int), (0 : Int), (0 : Int)]), (3, .one (.arr 5 tI) v)])
def wide_back (a0 : (List Int)) : Option (List Int) :=
(forI (0 : Int) (5 : Int) (wide_back_b1 a0) (fun x16 => x16) [(0 : Int), (0 : Int), (0 : Int), (0 : Int), (0 : Int)]).bind fun v25 =>
some v25
theorem wide_back_ok {a0 : (List Int)} {r : (List Int)} (h : wide_back a0 = some r) : FnC Try.prog 44 [aD (.arr 5 tI) a0] [] (aD (.arr 5 tI) r) [] := by
  refine fnC_of_W (B := bodyOf Try.f44) (n := 16) Try.func44 (by kernel_rfl) (by kernel_rfl) (by kernel_rfl) (by kernel_rfl) (by kernel_rfl) ?_
  intro K
  refine W_seq (by kernel_rfl) ?_
  refine W_run 2 [(3, .typed)] [1, 2] [1, 2] (fr' := [(1, .one (.ptr 1 0)), (2, .one (.ptr 2 0))]) (L' := [(1, .one (.arr 5 tI) a0), (2, .one (.arr 5 tI) [(0 : Int), (0 : Int), (0 : Int), (0 : Int), (0 : Int)])]) (obs := []) (by kernel_rfl) (by kernel_rfl) (by kernel_rfl) allP0 ?_
  refine seqQ_norm ?_
  refine W_seq (by kernel_rfl) ?_
  refine W_run 1 [(1, .typed)] [1, 2, 3] [1, 2, 3] (fr' := [(1, .one (.ptr 1 0)), (2, .one (.ptr 2 0)), (3, .one (.ptr 3 0))]) (L' := [(1, .one (.arr 5 tI) a0), (2, .one (.arr 5 tI) [(0 : Int), (0 : Int), (0 : Int), (0 : Int), (0 : Int)]), (3, .one (.arr 5 tI) [(0 : Int), (0 : Int), (0 : Int), (0 : Int), (0 : Int)])]) (obs := []) (by kernel_rfl) (by kernel_rfl) (by kernel_rfl) allP0 ?_
  refine seqQ_norm ?_
  refine W_seq (by kernel_rfl) ?_
  refine W_seq (by kernel_rfl) ?_
  refine W_run 2 [] [2, 3, 6, 7] [2, 3] (fr' := [(2, .one (.ptr 2 0)), (3, .one (.ptr 3 0)), (6, aD (.arr 5 tI) a0), (7, aI (0 : Int))]) (L' := [(2, .one (.arr 5 tI) [(0 : Int), (0 : Int), (0 : Int), (0 : Int), (0 : Int)]), (3, .one (.arr 5 tI) [(0 : Int), (0 : Int), (0 : Int), (0 : Int), (0 : Int)])]) (obs := []) (by kernel_rfl) (by kernel_rfl) (by kernel_rfl) allP0 ?_
  refine seqQ_norm ?_
  refine W_block (id := 0) (by kernel_rfl) ?_
  obtain ⟨v25, h26, h⟩ := bind_of h
  obtain ⟨h27, h28⟩ := forI_iter h26
  refine W_weaken [2, 3, 6, 7] [2, 3] (fr' := ((wide_back_s2 a0) ((0 : Int), [(0 : Int), (0 : Int), (0 : Int), (0 : Int), (0 : Int)])).1) (L' := ((wide_back_s2 a0) ((0 : Int), [(0 : Int), (0 : Int), (0 : Int), (0 : Int), (0 : Int)])).2) (by kernel_rfl) ?_
  refine W_cutK (W_loop (S := (wide_back_s2 a0)) (J := (exQ (.exit 0) wide_back_s3)) (by kernel_rfl) ?_ h27 _ v25 h28) ?_
  · rintro ⟨i15, x16⟩ s h
    refine W_seq (by kernel_rfl) ?_
    refine W_run 1 [] [2, 3, 6, 7, 8] [2, 3] (fr' := [(2, .one (.ptr 2 0)), (3, .one (.ptr 3 0)), (6, aD (.arr 5 tI) a0), (7, aI i15), (8, aB (decide (i15 < (5 : Int))))]) (L' := [(2, .one (.arr 5 tI) [(0 : Int), (0 : Int), (0 : Int), (0 : Int), (0 : Int)]), (3, .one (.arr 5 tI) x16)]) (obs := []) (by kernel_rfl) (by kernel_rfl) (by kernel_rfl) allP0 ?_
    refine seqQ_norm ?_
    refine W_seq (by kernel_rfl) ?_
    refine W_cond (o := .tmp 8) (b := decide (i15 < (5 : Int))) (by kernel_rfl) (by kernel_rfl) (fun h18 => ?_) (fun h18 => ?_)
    · replace h := stepI_true h18 h
      obtain ⟨_, h, rfl⟩ := h
      refine W_skip [2, 3, 6, 7] [2, 3] (fr' := [(2, .one (.ptr 2 0)), (3, .one (.ptr 3 0)), (6, aD (.arr 5 tI) a0), (7, aI i15)]) (L' := [(2, .one (.arr 5 tI) [(0 : Int), (0 : Int), (0 : Int), (0 : Int), (0 : Int)]), (3, .one (.arr 5 tI) x16)]) (by kernel_rfl) (by kernel_rfl) ?_
      refine seqQ_norm ?_
      refine W_seq (by kernel_rfl) ?_
      refine W_block (id := 1) (by kernel_rfl) ?_
      refine W_seq (by kernel_rfl) ?_
      obtain ⟨v19, h20, h⟩ := bind_of h
      refine W_run 4 [(3, .val (.dat tI v19))] [2, 3, 4, 5, 6, 7] [2, 3] (fr' := [(2, .one (.ptr 2 0)), (3, .one (.ptr 3 0)), (4, aI i15), (5, aI v19), (6, aD (.arr 5 tI) a0), (7, aI i15)]) (L' := [(2, .one (.arr 5 tI) [(0 : Int), (0 : Int), (0 : Int), (0 : Int), (0 : Int)]), (3, .one (.arr 5 tI) x16)]) (obs := [Idx a0 i15 v19]) (by kernel_rfl) (by kernel_rfl) (by kernel_rfl) (allP1 (Idx.of h20)) ?_
      refine seqQ_norm ?_
      obtain ⟨_, h21, h⟩ := bind_of h
      replace h21 := ck_some h21
      obtain ⟨v22, h23, h⟩ := bind_of h
      refine W_run 4 [] [2, 3, 6, 7] [2, 3] (fr' := [(2, .one (.ptr 2 0)), (3, .one (.ptr 3 0)), (6, aD (.arr 5 tI) a0), (7, aI i15)]) (L' := [(2, .one (.arr 5 tI) [(0 : Int), (0 : Int), (0 : Int), (0 : Int), (0 : Int)]), (3, .one (.arr 5 tI) (List.set x16 (Int.toNat v19) i15))]) (obs := [InR v19 5, InR v19 (List.length x16)]) (by kernel_rfl) (by kernel_rfl) (by kernel_rfl) (allP2 h21 (allP1 (InR.of h23))) ?_
      refine blockQ_norm ?_
      refine seqQ_norm ?_
      obtain rfl := Option.some.inj h
      refine W_run 2 [] [2, 3, 6, 7] [2, 3] (fr' := [(2, .one (.ptr 2 0)), (3, .one (.ptr 3 0)), (6, aD (.arr 5 tI) a0), (7, aI (w64 (i15 + (1 : Int))))]) (L' := [(2, .one (.arr 5 tI) [(0 : Int), (0 : Int), (0 : Int), (0 : Int), (0 : Int)]), (3, .one (.arr 5 tI) (List.set x16 (Int.toNat v19) i15))]) (obs := []) (by kernel_rfl) (by kernel_rfl) (by kernel_rfl) allP0 ?_
      exact round_next' (by kernel_rfl) (by kernel_rfl)
    · obtain rfl := stepI_false h18 h
      refine W_exit (id := 0) [2, 3] [2, 3] (fr' := [(2, .one (.ptr 2 0)), (3, .one (.ptr 3 0))]) (L' := [(2, .one (.arr 5 tI) [(0 : Int), (0 : Int), (0 : Int), (0 : Int), (0 : Int)]), (3, .one (.arr 5 tI) x16)]) (by kernel_rfl) (by kernel_rfl) ?_
      refine seqQ_exit ?_
      refine round_exit ?_
      exact exQ_mk (by kernel_rfl) (by kernel_rfl)
  · intro e fr L hJ
    obtain ⟨rfl, rfl, rfl⟩ := hJ
    refine LT_keep [2, 3] [2, 3] (fr' := [(2, .one (.ptr 2 0)), (3, .one (.ptr 3 0))]) (L' := [(2, .one (.arr 5 tI) [(0 : Int), (0 : Int), (0 : Int), (0 : Int), (0 : Int)]), (3, .one (.arr 5 tI) v25)]) (by kernel_rfl) ?_
    refine blockQ_hit ?_
    refine seqQ_norm ?_
    refine W_seq (by kernel_rfl) ?_
    refine W_run 2 [] [2] [2] (fr' := [(2, .one (.ptr 2 0))]) (L' := [(2, .one (.arr 5 tI) v25)]) (obs := [True]) (by kernel_rfl) (by kernel_rfl) (by kernel_rfl) (allP1 trivial) ?_
    refine seqQ_norm ?_
    obtain rfl := Option.some.inj h
    refine W_ret [2] [2] (fr' := [(2, .one (.ptr 2 0))]) (L' := [(2, .one (.arr 5 tI) v25)]) (by kernel_rfl) (by kernel_rfl) ?_
    exact retQ_mk (by kernel_rfl) (by kernel_rfl) (by kernel_rfl)

def wide_then_b1 (a0 : (List Int)) (a1 : (List Int)) (i18 : Int) (x19 : (List Int)) : Option (Flow (List Int) (List Int)) :=
(idx a0 i18).bind fun v22 =>
(ck (0 ≤ v22 ∧ v22 < 5)).bind fun _ =>
(idx a1 v22).bind fun v25 =>
(ck (0 ≤ i18 ∧ i18 < 5)).bind fun _ =>
(idx x19 i18).bind fun v28 =>
some (.next (List.set x19 (Int.toNat i18) v25))
@[reducible] def wide_then_s2 (a0 : (List Int)) (a1 : (List Int)) (v : Int × (List Int)) : Fr × LL := ([(3, .one (.ptr 3 0)), (4, .one (.ptr 4 0)), (5, .one (.ptr 5 0)), (8, aD (.arr 5 tI) a0), (9, aI v.1)], [(3, .one (.arr 5 tI) a1), (4, .one (.arr 5 tI) [(0 : Int), (0 : Int), (0 : Int), (0 : Int), (0 : Int)]), (5, .one (.arr 5 tI) v.2)])
@[reducible] def wide_then_s3 (v : (List Int)) : Fr × LL := ([(4, .one (.ptr 4 0)), (5, .one (.ptr 5 0))], [(4, .one (.arr 5 tI) [(0 : Int), (0 : Int), (0 : Int), (0 : Int), (0 : Int)]), (5, .one (.arr 5 tI) v)])
def wide_then (a0 : (List Int)) (a1 : (List Int)) : Option (List Int) :=
(forI (0 : Int) (5 : Int) (wide_then_b1 a0 a1) (fun x19 => x19) [(0 : Int), (0 : Int), (0 : Int), (0 : Int), (0 : Int)]).bind fun v31 =>
some v31
theorem wide_then_ok {a0 : (List Int)} {a1 : (List Int)} {r : (List Int)} (h : wide_then a0 a1 = some r) : FnC Try.prog 35 [aD (.arr 5 tI) a0, aD (.arr 5 tI) a1] [] (aD (.arr 5 tI) r) [] := by
  refine fnC_of_W (B := bodyOf Try.f35) (n := 20) Try.func35 (by kernel_rfl) (by kernel_rfl) (by kernel_rfl) (by kernel_rfl) (by kernel_rfl) ?_
  intro K
  refine W_seq (by kernel_rfl) ?_
  refine W_run 3 [(5, .typed)] [2, 3, 4] [2, 3, 4] (fr' := [(2, .one (.ptr 2 0)), (3, .one (.ptr 3 0)), (4, .one (.ptr 4 0))]) (L' := [(2, .one (.arr 5 tI) a0), (3, .one (.arr 5 tI) a1), (4, .one (.arr 5 tI) [(0 : Int), (0 : Int), (0 : Int), (0 : Int), (0 : Int)])]) (obs := []) (by kernel_rfl) (by kernel_rfl) (by kernel_rfl) allP0 ?_
  refine seqQ_norm ?_
  refine W_seq (by kernel_rfl) ?_
  refine W_run 1 [(1, .typed)] [2, 3, 4, 5] [2, 3, 4, 5] (fr' := [(2, .one (.ptr 2 0)), (3, .one (.ptr 3 0)), (4, .one (.ptr 4 0)), (5, .one (.ptr 5 0))]) (L' := [(2, .one (.arr 5 tI) a0), (3, .one (.arr 5 tI) a1), (4, .one (.arr 5 tI) [(0 : Int), (0 : Int), (0 : Int), (0 : Int), (0 : Int)]), (5, .one (.arr 5 tI) [(0 : Int), (0 : Int), (0 : Int), (0 : Int), (0 : Int)])]) (obs := []) (by kernel_rfl) (by kernel_rfl) (by kernel_rfl) allP0 ?_
  refine seqQ_norm ?_
  refine W_seq (by kernel_rfl) ?_
  refine W_seq (by kernel_rfl) ?_
  refine W_run 2 [] [3, 4, 5, 8, 9] [3, 4, 5] (fr' := [(3, .one (.ptr 3 0)), (4, .one (.ptr 4 0)), (5, .one (.ptr 5 0)), (8, aD (.arr 5 tI) a0), (9, aI (0 : Int))]) (L' := [(3, .one (.arr 5 tI) a1), (4, .one (.arr 5 tI) [(0 : Int), (0 : Int), (0 : Int), (0 : Int), (0 : Int)]), (5, .one (.arr 5 tI) [(0 : Int), (0 : Int), (0 : Int), (0 : Int), (0 : Int)])]) (obs := []) (by kernel_rfl) (by kernel_rfl) (by kernel_rfl) allP0 ?_
  refine seqQ_norm ?_
  refine W_block (id := 0) (by kernel_rfl) ?_
  obtain ⟨v31, h32, h⟩ := bind_of h
  obtain ⟨h33, h34⟩ := forI_iter h32
  refine W_weaken [3, 4, 5, 8, 9] [3, 4, 5] (fr' := ((wide_then_s2 a0 a1) ((0 : Int), [(0 : Int), (0 : Int), (0 : Int), (0 : Int), (0 : Int)])).1) (L' := ((wide_then_s2 a0 a1) ((0 : Int), [(0 : Int), (0 : Int), (0 : Int), (0 : Int), (0 : Int)])).2) (by kernel_rfl) ?_
  refine W_cutK (W_loop (S := (wide_then_s2 a0 a1)) (J := (exQ (.exit 0) wide_then_s3)) (by kernel_rfl) ?_ h33 _ v31 h34) ?_
  · rintro ⟨i18, x19⟩ s h
    refine W_seq (by kernel_rfl) ?_
    refine W_run 1 [] [3, 4, 5, 8, 9, 10] [3, 4, 5] (fr' := [(3, .one (.ptr 3 0)), (4, .one (.ptr 4 0)), (5, .one (.ptr 5 0)), (8, aD (.arr 5 tI) a0), (9, aI i18), (10, aB (decide (i18 < (5 : Int))))]) (L' := [(3, .one (.arr 5 tI) a1), (4, .one (.arr 5 tI) [(0 : Int), (0 : Int), (0 : Int), (0 : Int), (0 : Int)]), (5, .one (.arr 5 tI) x19)]) (obs := []) (by kernel_rfl) (by kernel_rfl) (by kernel_rfl) allP0 ?_
    refine seqQ_norm ?_
    refine W_seq (by kernel_rfl) ?_
    refine W_cond (o := .tmp 10) (b := decide (i18 < (5 : Int))) (by kernel_rfl) (by kernel_rfl) (fun h21 => ?_) (fun h21 => ?_)
    · replace h := stepI_true h21 h
      obtain ⟨_, h, rfl⟩ := h
      refine W_skip [3, 4, 5, 8, 9] [3, 4, 5] (fr' := [(3, .one (.ptr 3 0)), (4, .one (.ptr 4 0)), (5, .one (.ptr 5 0)), (8, aD (.arr 5 tI) a0), (9, aI i18)]) (L' := [(3, .one (.arr 5 tI) a1), (4, .one (.arr 5 tI) [(0 : Int), (0 : Int), (0 : Int), (0 : Int), (0 : Int)]), (5, .one (.arr 5 tI) x19)]) (by kernel_rfl) (by kernel_rfl) ?_
      refine seqQ_norm ?_
      refine W_seq (by kernel_rfl) ?_
      refine W_block (id := 1) (by kernel_rfl) ?_
      refine W_seq (by kernel_rfl) ?_
      obtain ⟨v22, h23, h⟩ := bind_of h
      refine W_run 4 [(3, .val (.dat tI v22))] [3, 4, 5, 6, 7, 8, 9] [3, 4, 5] (fr' := [(3, .one (.ptr 3 0)), (4, .one (.ptr 4 0)), (5, .one (.ptr 5 0)), (6, aI i18), (7, aI v22), (8, aD (.arr 5 tI) a0), (9, aI i18)]) (L' := [(3, .one (.arr 5 tI) a1), (4, .one (.arr 5 tI) [(0 : Int), (0 : Int), (0 : Int), (0 : Int), (0 : Int)]), (5, .one (.arr 5 tI) x19)]) (obs := [Idx a0 i18 v22]) (by kernel_rfl) (by kernel_rfl) (by kernel_rfl) (allP1 (Idx.of h23)) ?_
      refine seqQ_norm ?_
      obtain ⟨_, h24, h⟩ := bind_of h
      replace h24 := ck_some h24
      obtain ⟨v25, h26, h⟩ := bind_of h
      obtain ⟨_, h27, h⟩ := bind_of h
      replace h27 := ck_some h27
      obtain ⟨v28, h29, h⟩ := bind_of h
      refine W_run 6 [(7, .val (.dat tI v25))] [3, 4, 5, 8, 9] [3, 4, 5] (fr' := [(3, .one (.ptr 3 0)), (4, .one (.ptr 4 0)), (5, .one (.ptr 5 0)), (8, aD (.arr 5 tI) a0), (9, aI i18)]) (L' := [(3, .one (.arr 5 tI) a1), (4, .one (.arr 5 tI) [(0 : Int), (0 : Int), (0 : Int), (0 : Int), (0 : Int)]), (5, .one (.arr 5 tI) (List.set x19 (Int.toNat i18) v25))]) (obs := [InR v22 5, Idx a1 v22 v25, InR i18 5, InR i18 (List.length x19)]) (by kernel_rfl) (by kernel_rfl) (by kernel_rfl) (allP2 h24 (allP2 (Idx.of h26) (allP2 h27 (allP1 (InR.of h29))))) ?_
      refine blockQ_norm ?_
      refine seqQ_norm ?_
      obtain rfl := Option.some.inj h
      refine W_run 2 [] [3, 4, 5, 8, 9] [3, 4, 5] (fr' := [(3, .one (.ptr 3 0)), (4, .one (.ptr 4 0)), (5, .one (.ptr 5 0)), (8, aD (.arr 5 tI) a0), (9, aI (w64 (i18 + (1 : Int))))]) (L' := [(3, .one (.arr 5 tI) a1), (4, .one (.arr 5 tI) [(0 : Int), (0 : Int), (0 : Int), (0 : Int), (0 : Int)]), (5, .one (.arr 5 tI) (List.set x19 (Int.toNat i18) v25))]) (obs := []) (by kernel_rfl) (by kernel_rfl) (by kernel_rfl) allP0 ?_
      exact round_next' (by kernel_rfl) (by kernel_rfl)
    · obtain rfl := stepI_false h21 h
      refine W_exit (id := 0) [4, 5] [4, 5] (fr' := [(4, .one (.ptr 4 0)), (5, .one (.ptr 5 0))]) (L' := [(4, .one (.arr 5 tI) [(0 : Int), (0 : Int), (0 : Int), (0 : Int), (0 : Int)]), (5, .one (.arr 5 tI) x19)]) (by kernel_rfl) (by kernel_rfl) ?_
      refine seqQ_exit ?_
      refine round_exit ?_
      exact exQ_mk (by kernel_rfl) (by kernel_rfl)
  · intro e fr L hJ
    obtain ⟨rfl, rfl, rfl⟩ := hJ
    refine LT_keep [4, 5] [4, 5] (fr' := [(4, .one (.ptr 4 0)), (5, .one (.ptr 5 0))]) (L' := [(4, .one (.arr 5 tI) [(0 : Int), (0 : Int), (0 : Int), (0 : Int), (0 : Int)]), (5, .one (.arr 5 tI) v31)]) (by kernel_rfl) ?_
    refine blockQ_hit ?_
    refine seqQ_norm ?_
    refine W_seq (by kernel_rfl) ?_
    refine W_run 2 [] [4] [4] (fr' := [(4, .one (.ptr 4 0))]) (L' := [(4, .one (.arr 5 tI) v31)]) (obs := [True]) (by kernel_rfl) (by kernel_rfl) (by kernel_rfl) (allP1 trivial) ?_
    refine seqQ_norm ?_
    obtain rfl := Option.some.inj h
    refine W_ret [4] [4] (fr' := [(4, .one (.ptr 4 0))]) (L' := [(4, .one (.arr 5 tI) v31)]) (by kernel_rfl) (by kernel_rfl) ?_
    exact retQ_mk (by kernel_rfl) (by kernel_rfl) (by kernel_rfl)

def wide_behind_i2 (a1 : (List Int)) (c0 : (List (Int × ((List Int) × (List Int))))) : Option ((List (Int × ((List Int) × (List Int)))) × (List (Int × ((List Int) × (List Int))))) :=
(idx c0 (w64 ((List.length c0 : Int) - (1 : Int)))).bind fun v1 =>
(wide_then v1.2.1 a1).bind fun r3 =>
(wide_then v1.2.2 a1).bind fun r5 =>
(idx (List.set c0 (Int.toNat (w64 ((List.length c0 : Int) - (1 : Int)))) (v1.1, r3, v1.2.2)) (w64 ((List.length c0 : Int) - (1 : Int)))).bind fun v7 =>
some (List.set (List.set c0 (Int.toNat (w64 ((List.length c0 : Int) - (1 : Int)))) (v1.1, r3, v1.2.2)) (Int.toNat (w64 ((List.length c0 : Int) - (1 : Int)))) (v7.1, v7.2.1, r5), List.set (List.set c0 (Int.toNat (w64 ((List.length c0 : Int) - (1 : Int)))) (v1.1, r3, v1.2.2)) (Int.toNat (w64 ((List.length c0 : Int) - (1 : Int)))) (v7.1, v7.2.1, r5))
theorem wide_behind_i2_ok {a1 : (List Int)} {c0 : (List (Int × ((List Int) × (List Int))))} {r : ((List (Int × ((List Int) × (List Int)))) × (List (Int × ((List Int) × (List Int)))))} (h : wide_behind_i2 a1 c0 = some r) : FnC Try.prog 43 [.one (.slc 2000), aD (.arr 5 tI) a1] [(2000, .seq (.pair tI (.pair (.arr 5 tI) (.arr 5 tI))) c0)] (.one (.slc 2000)) [(2000, .seq (.pair tI (.pair (.arr 5 tI) (.arr 5 tI))) r.2)] := by
  refine fnC_of_W (B := bodyOf Try.f43) (n := 30) Try.func43 (by kernel_rfl) (by kernel_rfl) (by kernel_rfl) (by kernel_rfl) (by kernel_rfl) ?_
  intro K
  refine W_seq (by kernel_rfl) ?_
  refine W_run 2 [] [0, 3] [2000, 3] (fr' := [(0, .one (.slc 2000)), (3, .one (.ptr 3 0))]) (L' := [(2000, .seq (.pair tI (.pair (.arr 5 tI) (.arr 5 tI))) c0), (3, .one (.arr 5 tI) a1)]) (obs := []) (by kernel_rfl) (by kernel_rfl) (by kernel_rfl) allP0 ?_
  refine seqQ_norm ?_
  refine W_seq (by kernel_rfl) ?_
  obtain ⟨v1, h2, h⟩ := bind_of h
  refine W_run 6 [] [0, 3, 5] [2000, 3] (fr' := [(0, .one (.slc 2000)), (3, .one (.ptr 3 0)), (5, .one (.eptr 2000 11 (w64 ((List.length c0 : Int) - (1 : Int))) 0))]) (L' := [(2000, .seq (.pair tI (.pair (.arr 5 tI) (.arr 5 tI))) c0), (3, .one (.arr 5 tI) a1)]) (obs := [InR (w64 ((List.length c0 : Int) - (1 : Int))) (List.length c0)]) (by kernel_rfl) (by kernel_rfl) (by kernel_rfl) (allP1 (InR.of h2)) ?_
  refine seqQ_norm ?_
  refine W_seq (by kernel_rfl) ?_
  obtain ⟨r3, h4, h⟩ := bind_of h
  obtain ⟨r5, h6, h⟩ := bind_of h
  obtain ⟨v7, h8, h⟩ := bind_of h
  refine W_draw3 14 [1] [(11, .val (.dat (.pair tI (.pair (.arr 5 tI) (.arr 5 tI))) v1)), (23, .val (.dat (.pair tI (.pair (.arr 5 tI) (.arr 5 tI))) v1)), (33, .val (.dat (.pair tI (.pair (.arr 5 tI) (.arr 5 tI))) v1)), (39, .val (.dat (.pair tI (.pair (.arr 5 tI) (.arr 5 tI))) v7))] [(7, [none, none], aD (.arr 5 tI) r3), (13, [none, none], aD (.arr 5 tI) r5)] [0] [2000] (fr' := [(0, .one (.slc 2000))]) (L' := [(2000, .seq (.pair tI (.pair (.arr 5 tI) (.arr 5 tI))) (List.set (List.set c0 (Int.toNat (w64 ((List.length c0 : Int) - (1 : Int)))) (v1.1, r3, v1.2.2)) (Int.toNat (w64 ((List.length c0 : Int) - (1 : Int)))) (v7.1, v7.2.1, r5)))]) (out := [(11, .one (.eptr 2000 11 (w64 ((List.length c0 : Int) - (1 : Int))) 0)), (12, .one (.eptr 2000 11 (w64 ((List.length c0 : Int) - (1 : Int))) 0)), (13, .one (.eptr 2000 11 (w64 ((List.length c0 : Int) - (1 : Int))) 0)), (14, .one (.eptr 2000 11 (w64 ((List.length c0 : Int) - (1 : Int))) 0)), (15, .one (.eptr 2000 11 (w64 ((List.length c0 : Int) - (1 : Int))) 1)), (16, aD (.arr 5 tI) v1.2.1), (17, aD (.arr 5 tI) a1), (18, aD (.arr 5 tI) r3), (19, .one (.eptr 2000 11 (w64 ((List.length c0 : Int) - (1 : Int))) 0)), (20, .one (.eptr 2000 11 (w64 ((List.length c0 : Int) - (1 : Int))) 0)), (21, .one (.eptr 2000 11 (w64 ((List.length c0 : Int) - (1 : Int))) 6)), (22, aD (.arr 5 tI) v1.2.2), (23, aD (.arr 5 tI) a1), (24, aD (.arr 5 tI) r5)]) (obs := [Idx c0 (w64 ((List.length c0 : Int) - (1 : Int))) v1, True, Idx c0 (w64 ((List.length c0 : Int) - (1 : Int))) v1, True]) (obs2 := [Idx c0 (w64 ((List.length c0 : Int) - (1 : Int))) v1, Idx (List.set c0 (Int.toNat (w64 ((List.length c0 : Int) - (1 : Int)))) (v1.1, r3, v1.2.2)) (w64 ((List.length c0 : Int) - (1 : Int))) v7]) (calls := [(35, [aD (.arr 5 tI) v1.2.1, aD (.arr 5 tI) a1], aD (.arr 5 tI) r3), (35, [aD (.arr 5 tI) v1.2.2, aD (.arr 5 tI) a1], aD (.arr 5 tI) r5)]) (by kernel_rfl) (by kernel_rfl) (by kernel_rfl) (by kernel_rfl) (allP2 (Idx.of h2) (allP2 trivial (allP2 (Idx.of h2) (allP1 trivial)))) (allC1 (by kernel_rfl) (wide_then_ok h4) (by kernel_rfl) (allC1 (by kernel_rfl) (wide_then_ok h6) (by kernel_rfl) allC0)) (by kernel_rfl) (allP2 (Idx.of h2) (allP1 (Idx.of h8))) ?_
  refine seqQ_norm ?_
  refine W_seq (by kernel_rfl) ?_
  refine W_run 2 [] [4] [2000] (fr' := [(4, .one (.slc 2000))]) (L' := [(2000, .seq (.pair tI (.pair (.arr 5 tI) (.arr 5 tI))) (List.set (List.set c0 (Int.toNat (w64 ((List.length c0 : Int) - (1 : Int)))) (v1.1, r3, v1.2.2)) (Int.toNat (w64 ((List.length c0 : Int) - (1 : Int)))) (v7.1, v7.2.1, r5)))]) (obs := []) (by kernel_rfl) (by kernel_rfl) (by kernel_rfl) allP0 ?_
  refine seqQ_norm ?_
  obtain rfl := Option.some.inj h
  refine W_ret [4] [2000] (fr' := [(4, .one (.slc 2000))]) (L' := [(2000, .seq (.pair tI (.pair (.arr 5 tI) (.arr 5 tI))) (List.set (List.set c0 (Int.toNat (w64 ((List.length c0 : Int) - (1 : Int)))) (v1.1, r3, v1.2.2)) (Int.toNat (w64 ((List.length c0 : Int) - (1 : Int)))) (v7.1, v7.2.1, r5)))]) (by kernel_rfl) (by kernel_rfl) ?_
  exact retQ_mk (by kernel_rfl) (by kernel_rfl) (by kernel_rfl)

def wide_between_b1 (a0 : (List Int)) (a1 : (List Int)) (i17 : Int) (x18 : (Int × Int × (List Int))) : Option (Flow (Int × Int × (List Int)) (List Int)) :=
(ck (0 ≤ x18.1 ∧ x18.1 < 5)).bind fun _ =>
(idx x18.2.2 x18.1).bind fun v22 =>
(idx a0 x18.1).bind fun v24 =>
(ck (0 ≤ x18.2.1 ∧ x18.2.1 < 5)).bind fun _ =>
(idx a1 x18.2.1).bind fun v27 =>
some (.next (v24, v27, List.set x18.2.2 (Int.toNat x18.1) x18.2.1))
@[reducible] def wide_between_s2 (a0 : (List Int)) (a1 : (List Int)) (v : Int × (Int × Int × (List Int))) : Fr × LL := ([(2, .one (.ptr 2 0)), (3, .one (.ptr 3 0)), (4, .one (.ptr 4 0)), (5, .one (.ptr 5 0)), (6, aI v.2.1), (7, aI v.2.2.1), (8, aI v.1)], [(2, .one (.arr 5 tI) a0), (3, .one (.arr 5 tI) a1), (4, .one (.arr 5 tI) [(0 : Int), (0 : Int), (0 : Int), (0 : Int), (0 : Int)]), (5, .one (.arr 5 tI) v.2.2.2)])
@[reducible] def wide_between_s3 (v : (List Int)) : Fr × LL := ([(4, .one (.ptr 4 0)), (5, .one (.ptr 5 0))], [(4, .one (.arr 5 tI) [(0 : Int), (0 : Int), (0 : Int), (0 : Int), (0 : Int)]), (5, .one (.arr 5 tI) v)])
def wide_between (a0 : (List Int)) (a1 : (List Int)) : Option (List Int) :=
(forI (0 : Int) (5 : Int) (wide_between_b1 a0 a1) (fun x18 => x18.2.2) ((0 : Int), (0 : Int), [(0 : Int), (0 : Int), (0 : Int), (0 : Int), (0 : Int)])).bind fun v30 =>
some v30
theorem wide_between_ok {a0 : (List Int)} {a1 : (List Int)} {r : (List Int)} (h : wide_between a0 a1 = some r) : FnC Try.prog 48 [aD (.arr 5 tI) a0, aD (.arr 5 tI) a1] [] (aD (.arr 5 tI) r) [] := by
  refine fnC_of_W (B := bodyOf Try.f48) (n := 21) Try.func48 (by kernel_rfl) (by kernel_rfl) (by kernel_rfl) (by kernel_rfl) (by kernel_rfl) ?_
  intro K
  refine W_seq (by kernel_rfl) ?_
  refine W_run 3 [(5, .typed)] [2, 3, 4] [2, 3, 4] (fr' := [(2, .one (.ptr 2 0)), (3, .one (.ptr 3 0)), (4, .one (.ptr 4 0))]) (L' := [(2, .one (.arr 5 tI) a0), (3, .one (.arr 5 tI) a1), (4, .one (.arr 5 tI) [(0 : Int), (0 : Int), (0 : Int), (0 : Int), (0 : Int)])]) (obs := []) (by kernel_rfl) (by kernel_rfl) (by kernel_rfl) allP0 ?_
  refine seqQ_norm ?_
  refine W_seq (by kernel_rfl) ?_
  refine W_run 1 [(1, .typed)] [2, 3, 4, 5] [2, 3, 4, 5] (fr' := [(2, .one (.ptr 2 0)), (3, .one (.ptr 3 0)), (4, .one (.ptr 4 0)), (5, .one (.ptr 5 0))]) (L' := [(2, .one (.arr 5 tI) a0), (3, .one (.arr 5 tI) a1), (4, .one (.arr 5 tI) [(0 : Int), (0 : Int), (0 : Int), (0 : Int), (0 : Int)]), (5, .one (.arr 5 tI) [(0 : Int), (0 : Int), (0 : Int), (0 : Int), (0 : Int)])]) (obs := []) (by kernel_rfl) (by kernel_rfl) (by kernel_rfl) allP0 ?_
  refine seqQ_norm ?_
  refine W_seq (by kernel_rfl) ?_
  refine W_run 2 [] [2, 3, 4, 5, 6, 7] [2, 3, 4, 5] (fr' := [(2, .one (.ptr 2 0)), (3, .one (.ptr 3 0)), (4, .one (.ptr 4 0)), (5, .one (.ptr 5 0)), (6, aI (0 : Int)), (7, aI (0 : Int))]) (L' := [(2, .one (.arr 5 tI) a0), (3, .one (.arr 5 tI) a1), (4, .one (.arr 5 tI) [(0 : Int), (0 : Int), (0 : Int), (0 : Int), (0 : Int)]), (5, .one (.arr 5 tI) [(0 : Int), (0 : Int), (0 : Int), (0 : Int), (0 : Int)])]) (obs := []) (by kernel_rfl) (by kernel_rfl) (by kernel_rfl) allP0 ?_
  refine seqQ_norm ?_
  refine W_seq (by kernel_rfl) ?_
  refine W_seq (by kernel_rfl) ?_
  refine W_run 1 [] [2, 3, 4, 5, 6, 7, 8] [2, 3, 4, 5] (fr' := [(2, .one (.ptr 2 0)), (3, .one (.ptr 3 0)), (4, .one (.ptr 4 0)), (5, .one (.ptr 5 0)), (6, aI (0 : Int)), (7, aI (0 : Int)), (8, aI (0 : Int))]) (L' := [(2, .one (.arr 5 tI) a0), (3, .one (.arr 5 tI) a1), (4, .one (.arr 5 tI) [(0 : Int), (0 : Int), (0 : Int), (0 : Int), (0 : Int)]), (5, .one (.arr 5 tI) [(0 : Int), (0 : Int), (0 : Int), (0 : Int), (0 : Int)])]) (obs := []) (by kernel_rfl) (by kernel_rfl) (by kernel_rfl) allP0 ?_
  refine seqQ_norm ?_
  refine W_block (id := 0) (by kernel_rfl) ?_
  obtain ⟨v30, h31, h⟩ := bind_of h
  obtain ⟨h32, h33⟩ := forI_iter h31
  refine W_weaken [2, 3, 4, 5, 6, 7, 8] [2, 3, 4, 5] (fr' := ((wide_between_s2 a0 a1) ((0 : Int), ((0 : Int), (0 : Int), [(0 : Int), (0 : Int), (0 : Int), (0 : Int), (0 : Int)]))).1) (L' := ((wide_between_s2 a0 a1) ((0 : Int), ((0 : Int), (0 : Int), [(0 : Int), (0 : Int), (0 : Int), (0 : Int), (0 : Int)]))).2) (by kernel_rfl) ?_
  refine W_cutK (W_loop (S := (wide_between_s2 a0 a1)) (J := (exQ (.exit 0) wide_between_s3)) (by kernel_rfl) ?_ h32 _ v30 h33) ?_
  · rintro ⟨i17, x18⟩ s h
    refine W_seq (by kernel_rfl) ?_
    refine W_run 1 [] [2, 3, 4, 5, 6, 7, 8, 9] [2, 3, 4, 5] (fr' := [(2, .one (.ptr 2 0)), (3, .one (.ptr 3 0)), (4, .one (.ptr 4 0)), (5, .one (.ptr 5 0)), (6, aI x18.1), (7, aI x18.2.1), (8, aI i17), (9, aB (decide (i17 < (5 : Int))))]) (L' := [(2, .one (.arr 5 tI) a0), (3, .one (.arr 5 tI) a1), (4, .one (.arr 5 tI) [(0 : Int), (0 : Int), (0 : Int), (0 : Int), (0 : Int)]), (5, .one (.arr 5 tI) x18.2.2)]) (obs := []) (by kernel_rfl) (by kernel_rfl) (by kernel_rfl) allP0 ?_
    refine seqQ_norm ?_
    refine W_seq (by kernel_rfl) ?_
    refine W_cond (o := .tmp 9) (b := decide (i17 < (5 : Int))) (by kernel_rfl) (by kernel_rfl) (fun h20 => ?_) (fun h20 => ?_)
    · replace h := stepI_true h20 h
      obtain ⟨_, h, rfl⟩ := h
      refine W_skip [2, 3, 4, 5, 6, 7, 8] [2, 3, 4, 5] (fr' := [(2, .one (.ptr 2 0)), (3, .one (.ptr 3 0)), (4, .one (.ptr 4 0)), (5, .one (.ptr 5 0)), (6, aI x18.1), (7, aI x18.2.1), (8, aI i17)]) (L' := [(2, .one (.arr 5 tI) a0), (3, .one (.arr 5 tI) a1), (4, .one (.arr 5 tI) [(0 : Int), (0 : Int), (0 : Int), (0 : Int), (0 : Int)]), (5, .one (.arr 5 tI) x18.2.2)]) (by kernel_rfl) (by kernel_rfl) ?_
      refine seqQ_norm ?_
      refine W_seq (by kernel_rfl) ?_
      refine W_block (id := 1) (by kernel_rfl) ?_
      refine W_seq (by kernel_rfl) ?_
      obtain ⟨_, h21, h⟩ := bind_of h
      replace h21 := ck_some h21
      obtain ⟨v22, h23, h⟩ := bind_of h
      refine W_run 4 [] [2, 3, 4, 5, 6, 7, 8] [2, 3, 4, 5] (fr' := [(2, .one (.ptr 2 0)), (3, .one (.ptr 3 0)), (4, .one (.ptr 4 0)), (5, .one (.ptr 5 0)), (6, aI x18.1), (7, aI x18.2.1), (8, aI i17)]) (L' := [(2, .one (.arr 5 tI) a0), (3, .one (.arr 5 tI) a1), (4, .one (.arr 5 tI) [(0 : Int), (0 : Int), (0 : Int), (0 : Int), (0 : Int)]), (5, .one (.arr 5 tI) (List.set x18.2.2 (Int.toNat x18.1) x18.2.1))]) (obs := [InR x18.1 5, InR x18.1 (List.length x18.2.2)]) (by kernel_rfl) (by kernel_rfl) (by kernel_rfl) (allP2 h21 (allP1 (InR.of h23))) ?_
      refine seqQ_norm ?_
      obtain ⟨v24, h25, h⟩ := bind_of h
      obtain ⟨_, h26, h⟩ := bind_of h
      replace h26 := ck_some h26
      obtain ⟨v27, h28, h⟩ := bind_of h
      refine W_drawH2 7 [(5, .val (.dat tI v24)), (11, .val (.dat tI v27))] [] [2, 3, 4, 5, 6, 7, 8] [2, 3, 4, 5] (fr' := [(2, .one (.ptr 2 0)), (3, .one (.ptr 3 0)), (4, .one (.ptr 4 0)), (5, .one (.ptr 5 0)), (6, aI v24), (7, aI v27), (8, aI i17)]) (L' := [(2, .one (.arr 5 tI) a0), (3, .one (.arr 5 tI) a1), (4, .one (.arr 5 tI) [(0 : Int), (0 : Int), (0 : Int), (0 : Int), (0 : Int)]), (5, .one (.arr 5 tI) (List.set x18.2.2 (Int.toNat x18.1) x18.2.1))]) (out := [(13, aI x18.1), (14, .one (.eptr 2 1 x18.1 0)), (15, aI v24), (16, aI x18.2.1), (17, .one (.eptr 3 1 x18.2.1 0)), (18, aI v27), (6, aI v24)]) (obs := [InR x18.1 5, Idx a0 x18.1 v24, InR x18.2.1 5, Idx a1 x18.2.1 v27]) (obs2 := []) (calls := []) (by kernel_rfl) (by kernel_rfl) (by kernel_rfl) (by kernel_rfl) (allP2 h21 (allP2 (Idx.of h25) (allP2 h26 (allP1 (Idx.of h28))))) allC0 (by kernel_rfl) allP0 ?_
      refine blockQ_norm ?_
      refine seqQ_norm ?_
      obtain rfl := Option.some.inj h
      refine W_run 2 [] [2, 3, 4, 5, 6, 7, 8] [2, 3, 4, 5] (fr' := [(2, .one (.ptr 2 0)), (3, .one (.ptr 3 0)), (4, .one (.ptr 4 0)), (5, .one (.ptr 5 0)), (6, aI v24), (7, aI v27), (8, aI (w64 (i17 + (1 : Int))))]) (L' := [(2, .one (.arr 5 tI) a0), (3, .one (.arr 5 tI) a1), (4, .one (.arr 5 tI) [(0 : Int), (0 : Int), (0 : Int), (0 : Int), (0 : Int)]), (5, .one (.arr 5 tI) (List.set x18.2.2 (Int.toNat x18.1) x18.2.1))]) (obs := []) (by kernel_rfl) (by kernel_rfl) (by kernel_rfl) allP0 ?_
      exact round_next' (by kernel_rfl) (by kernel_rfl)
    · obtain rfl := stepI_false h20 h
      refine W_exit (id := 0) [4, 5] [4, 5] (fr' := [(4, .one (.ptr 4 0)), (5, .one (.ptr 5 0))]) (L' := [(4, .one (.arr 5 tI) [(0 : Int), (0 : Int), (0 : Int), (0 : Int), (0 : Int)]), (5, .one (.arr 5 tI) x18.2.2)]) (by kernel_rfl) (by kernel_rfl) ?_
      refine seqQ_exit ?_
      refine round_exit ?_
      exact exQ_mk (by kernel_rfl) (by kernel_rfl)
  · intro e fr L hJ
    obtain ⟨rfl, rfl, rfl⟩ := hJ
    refine LT_keep [4, 5] [4, 5] (fr' := [(4, .one (.ptr 4 0)), (5, .one (.ptr 5 0))]) (L' := [(4, .one (.arr 5 tI) [(0 : Int), (0 : Int), (0 : Int), (0 : Int), (0 : Int)]), (5, .one (.arr 5 tI) v30)]) (by kernel_rfl) ?_
    refine blockQ_hit ?_
    refine seqQ_norm ?_
    refine W_seq (by kernel_rfl) ?_
    refine W_run 2 [] [4] [4] (fr' := [(4, .one (.ptr 4 0))]) (L' := [(4, .one (.arr 5 tI) v30)]) (obs := [True]) (by kernel_rfl) (by kernel_rfl) (by kernel_rfl) (allP1 trivial) ?_
    refine seqQ_norm ?_
    obtain rfl := Option.some.inj h
    refine W_ret [4] [4] (fr' := [(4, .one (.ptr 4 0))]) (L' := [(4, .one (.arr 5 tI) v30)]) (by kernel_rfl) (by kernel_rfl) ?_
    exact retQ_mk (by kernel_rfl) (by kernel_rfl) (by kernel_rfl)

def wide_both_1 (a0 : (List Int)) (c0 : (List Int)) : Option (List Int) :=
(wide_then c0 a0).bind fun r1 =>
(wide_back c0).bind fun r3 =>
(wide_then r1 r3).bind fun r5 =>
some r5
theorem wide_both_1_ok {a0 : (List Int)} {c0 : (List Int)} {r : (List Int)} (h : wide_both_1 a0 c0 = some r) : FnC Try.prog 49 [aD (.arr 5 tI) a0, .one (.ptr 1000 0)] [(1000, .one (.arr 5 tI) c0)] (aD (.arr 5 tI) r) [(1000, .one (.arr 5 tI) c0)] := by
  refine fnC_of_W (B := bodyOf Try.f49) (n := 10) Try.func49 (by kernel_rfl) (by kernel_rfl) (by kernel_rfl) (by kernel_rfl) (by kernel_rfl) ?_
  intro K
  refine W_seq (by kernel_rfl) ?_
  refine W_run 2 [(3, .typed)] [1, 2, 3] [1000, 2, 3] (fr' := [(1, .one (.ptr 1000 0)), (2, .one (.ptr 2 0)), (3, .one (.ptr 3 0))]) (L' := [(1000, .one (.arr 5 tI) c0), (2, .one (.arr 5 tI) a0), (3, .one (.arr 5 tI) [(0 : Int), (0 : Int), (0 : Int), (0 : Int), (0 : Int)])]) (obs := []) (by kernel_rfl) (by kernel_rfl) (by kernel_rfl) allP0 ?_
  refine seqQ_norm ?_
  refine W_seq (by kernel_rfl) ?_
  obtain ⟨r1, h2, h⟩ := bind_of h
  obtain ⟨r3, h4, h⟩ := bind_of h
  obtain ⟨r5, h6, h⟩ := bind_of h
  refine W_draw2 6 [] [(2, [none, none], aD (.arr 5 tI) r1), (4, [none], aD (.arr 5 tI) r3), (5, [none, none], aD (.arr 5 tI) r5)] [3] [3, 1000] (fr' := [(3, .one (.ptr 3 0))]) (L' := [(3, .one (.arr 5 tI) r5), (1000, .one (.arr 5 tI) c0)]) (out := [(4, aD (.arr 5 tI) c0), (5, aD (.arr 5 tI) a0), (6, aD (.arr 5 tI) r1), (7, aD (.arr 5 tI) c0), (8, aD (.arr 5 tI) r3), (9, aD (.arr 5 tI) r5)]) (obs := [True, True, True]) (obs2 := [True]) (calls := [(35, [aD (.arr 5 tI) c0, aD (.arr 5 tI) a0], aD (.arr 5 tI) r1), (44, [aD (.arr 5 tI) c0], aD (.arr 5 tI) r3), (35, [aD (.arr 5 tI) r1, aD (.arr 5 tI) r3], aD (.arr 5 tI) r5)]) (by kernel_rfl) (by kernel_rfl) (by kernel_rfl) (by kernel_rfl) (allP2 trivial (allP2 trivial (allP1 trivial))) (allC1 (by kernel_rfl) (wide_then_ok h2) (by kernel_rfl) (allC1 (by kernel_rfl) (wide_back_ok h4) (by kernel_rfl) (allC1 (by kernel_rfl) (wide_then_ok h6) (by kernel_rfl) allC0))) (by kernel_rfl) (allP1 trivial) ?_
  refine seqQ_norm ?_
  obtain rfl := Option.some.inj h
  refine W_ret [3] [3, 1000] (fr' := [(3, .one (.ptr 3 0))]) (L' := [(3, .one (.arr 5 tI) r5), (1000, .one (.arr 5 tI) c0)]) (by kernel_rfl) (by kernel_rfl) ?_
  exact retQ_mk (by kernel_rfl) (by kernel_rfl) (by kernel_rfl)

def wide_side (rf_wide_build : (List (Int × (Int × Int))) → Int → (List Int) → Option (List (Int × ((List Int) × (List Int))))) (a0 : (List (Int × (Int × Int)))) (a1 : Int) (a2 : (List Int)) (a3 : Bool) : Option (List (Int × ((List Int) × (List Int)))) :=
bif a3 then
((wide_back a2).bind fun r10 =>
(rf_wide_build a0 a1 r10).bind fun r12 =>
(wide_behind_i2 a2 r12).bind fun r14 =>
some r14.2)
else
((rf_wide_build a0 a1 a2).bind fun r16 =>
some r16)
theorem wide_side_ok {rf_wide_build : (List (Int × (Int × Int))) → Int → (List Int) → Option (List (Int × ((List Int) × (List Int))))} (ih_wide_build : ∀ {a0 : (List (Int × (Int × Int)))} {a1 : Int} {a2 : (List Int)} {r : (List (Int × ((List Int) × (List Int))))}, rf_wide_build a0 a1 a2 = some r → FnC Try.prog 38 [aD (.slice (.pair tI (.pair tI tI))) a0, aI a1, aD (.arr 5 tI) a2] [] (.one (.slc 899)) [(899, .seq (.pair tI (.pair (.arr 5 tI) (.arr 5 tI))) r)]) {a0 : (List (Int × (Int × Int)))} {a1 : Int} {a2 : (List Int)} {a3 : Bool} {r : (List (Int × ((List Int) × (List Int))))} (h : wide_side rf_wide_build a0 a1 a2 a3 = some r) : FnC Try.prog 50 [aD (.slice (.pair tI (.pair tI tI))) a0, aI a1, aD (.arr 5 tI) a2, aB a3] [] (aD (.slice (.pair tI (.pair (.arr 5 tI) (.arr 5 tI)))) r) [] := by
  refine fnC_of_W (B := bodyOf Try.f50) (n := 21) Try.func50 (by kernel_rfl) (by kernel_rfl) (by kernel_rfl) (by kernel_rfl) (by kernel_rfl) ?_
  intro K
  refine W_seq (by kernel_rfl) ?_
  refine W_run 2 [] [0, 1, 3, 6] [6] (fr' := [(0, aD (.slice (.pair tI (.pair tI tI))) a0), (1, aI a1), (3, aB a3), (6, .one (.ptr 6 0))]) (L' := [(6, .one (.arr 5 tI) a2)]) (obs := []) (by kernel_rfl) (by kernel_rfl) (by kernel_rfl) allP0 ?_
  refine seqQ_norm ?_
  refine W_seq (by kernel_rfl) ?_
  refine W_seq (by kernel_rfl) ?_
  refine W_run 1 [] [0, 1, 6, 9] [6] (fr' := [(0, aD (.slice (.pair tI (.pair tI tI))) a0), (1, aI a1), (6, .one (.ptr 6 0)), (9, aB a3)]) (L' := [(6, .one (.arr 5 tI) a2)]) (obs := []) (by kernel_rfl) (by kernel_rfl) (by kernel_rfl) allP0 ?_
  refine seqQ_norm ?_
  refine W_cond (o := .tmp 9) (b := a3) (by kernel_rfl) (by kernel_rfl) (fun h1 => ?_) (fun h1 => ?_)
  · replace h := ofT h1 h
    refine W_seq (by kernel_rfl) ?_
    obtain ⟨r10, h11, h⟩ := bind_of h
    obtain ⟨r12, h13, h⟩ := bind_of h
    refine W_drawC5 6 [(4, [14], [(14, .seq (.pair tI (.pair (.arr 5 tI) (.arr 5 tI))) r12)])] [] [(4, .one (.slc 14))] [] [(3, [none], aD (.arr 5 tI) r10)] [14, 15] [6, 14] (out := [(10, aD (.slice (.pair tI (.pair tI tI))) a0), (11, aI a1), (12, aD (.arr 5 tI) a2), (13, aD (.arr 5 tI) r10), (14, .one (.slc 14)), (15, aD (.arr 5 tI) a2)]) (obs := [True]) (calls := [(44, [aD (.arr 5 tI) a2], aD (.arr 5 tI) r10)]) (fr' := [(14, .one (.slc 14)), (15, aD (.arr 5 tI) a2)]) (L' := [(6, .one (.arr 5 tI) a2), (14, .seq (.pair tI (.pair (.arr 5 tI) (.arr 5 tI))) r12)]) (by kernel_rfl) (by kernel_rfl) (by kernel_rfl) (by kernel_rfl) (by kernel_rfl) (allP1 trivial) (allD2 [] _ _ (by kernel_rfl) (wide_back_ok h11) (by kernel_rfl) (by kernel_rfl) (by kernel_rfl) (by kernel_rfl) allD0) (chCall (us := [none, none, none]) (d := 14) (t := 14) (p := True) ⟨by kernel_rfl, by kernel_rfl, by kernel_rfl⟩ trivial (ih_wide_build h13) (by kernel_rfl) (by kernel_rfl) chNil) mkNil (by kernel_rfl) ?_
    obtain ⟨r14, h15, h⟩ := bind_of h
    refine WO_lend2 [(2000, 14)] (us := [none, none]) (d := 16) (p := True) (j := 7) rfl ⟨by kernel_rfl, by kernel_rfl, by kernel_rfl⟩ trivial (wide_behind_i2_ok h15) (by kernel_rfl) (by kernel_rfl) ?_
    refine WO_run (j := 8) (k := 1) (orcs := []) (kF := [8]) (kL := [6, 14]) (fr' := [(8, .one (.slc 14))]) (L' := [(6, .one (.arr 5 tI) a2), (14, .seq (.pair tI (.pair (.arr 5 tI) (.arr 5 tI))) r14.2)]) (obs := []) rfl (by kernel_rfl) allP0 ?_
    refine WO_fin [8] [14] (fr' := [(8, .one (.slc 14))]) (L' := [(14, .seq (.pair tI (.pair (.arr 5 tI) (.arr 5 tI))) r14.2)]) (by kernel_rfl) (by kernel_rfl) ?_
    refine ⟨rfl, ?_⟩
    refine seqQ_norm ?_
    obtain rfl := Option.some.inj h
    refine W_frz 14 (by kernel_rfl) ?_
    refine W_ret [8] [] (fr' := [(8, aD (.slice (.pair tI (.pair (.arr 5 tI) (.arr 5 tI)))) r14.2)]) (L' := []) (by kernel_rfl) (by kernel_rfl) ?_
    refine seqQ_ret ?_
    exact retQ_mk (by kernel_rfl) (by kernel_rfl) (by kernel_rfl)
  · replace h := ofF h1 h
    refine W_skip [0, 1, 6] [6] (fr' := [(0, aD (.slice (.pair tI (.pair tI tI))) a0), (1, aI a1), (6, .one (.ptr 6 0))]) (L' := [(6, .one (.arr 5 tI) a2)]) (by kernel_rfl) (by kernel_rfl) ?_
    refine seqQ_norm ?_
    refine W_seq (by kernel_rfl) ?_
    refine W_region (by kernel_rfl) ?_
    refine WO_run (j := 3) (k := 3) (orcs := []) (kF := [17, 18, 19]) (kL := [6]) (fr' := [(17, aD (.slice (.pair tI (.pair tI tI))) a0), (18, aI a1), (19, aD (.arr 5 tI) a2)]) (L' := [(6, .one (.arr 5 tI) a2)]) (obs := []) rfl (by kernel_rfl) allP0 ?_
    obtain ⟨r16, h17, h⟩ := bind_of h
    refine WO_call1 (us := [none, none, none]) (d := 20) (t := 20) (p := True) (j := 4) rfl ⟨by kernel_rfl, by kernel_rfl, by kernel_rfl⟩ trivial (ih_wide_build h17) (by kernel_rfl) ?_
    refine WO_run (j := 5) (k := 1) (orcs := []) (kF := [8]) (kL := [6, 20]) (fr' := [(8, .one (.slc 20))]) (L' := [(6, .one (.arr 5 tI) a2), (20, .seq (.pair tI (.pair (.arr 5 tI) (.arr 5 tI))) r16)]) (obs := []) rfl (by kernel_rfl) allP0 ?_
    refine WO_fin [8] [20] (fr' := [(8, .one (.slc 20))]) (L' := [(20, .seq (.pair tI (.pair (.arr 5 tI) (.arr 5 tI))) r16)]) (by kernel_rfl) (by kernel_rfl) ?_
    refine seqQ_norm ?_
    obtain rfl := Option.some.inj h
    refine W_frz 20 (by kernel_rfl) ?_
    refine W_ret [8] [] (fr' := [(8, aD (.slice (.pair tI (.pair (.arr 5 tI) (.arr 5 tI)))) r16)]) (L' := []) (by kernel_rfl) (by kernel_rfl) ?_
    exact retQ_mk (by kernel_rfl) (by kernel_rfl) (by kernel_rfl)

def wide_both (rf_wide_build : (List (Int × (Int × Int))) → Int → (List Int) → Option (List (Int × ((List Int) × (List Int))))) (a0 : (List (Int × (Int × Int)))) (a1 : Int) (a2 : Int) (a3 : (List Int)) (a4 : Bool) : Option (List (Int × ((List Int) × (List Int)))) :=
(wide_then [(1 : Int), (2 : Int), (3 : Int), (4 : Int), (0 : Int)] [(2 : Int), (4 : Int), (1 : Int), (0 : Int), (3 : Int)]).bind fun r33 =>
(wide_back [(1 : Int), (2 : Int), (3 : Int), (4 : Int), (0 : Int)]).bind fun r35 =>
(wide_back [(2 : Int), (4 : Int), (1 : Int), (0 : Int), (3 : Int)]).bind fun r37 =>
(wide_then r35 r37).bind fun r39 =>
(wide_then r33 r39).bind fun r41 =>
(wide_between a3 r41).bind fun r43 =>
(wide_both_1 [(1 : Int), (2 : Int), (3 : Int), (4 : Int), (0 : Int)] r43).bind fun r45 =>
(wide_both_1 [(2 : Int), (4 : Int), (1 : Int), (0 : Int), (3 : Int)] r43).bind fun r47 =>
(wide_side rf_wide_build a0 a1 r45 a4).bind fun r49 =>
(ck ((List.length r49 : Int) ≤ 4294967296)).bind fun _ =>
(wide_side rf_wide_build a0 a2 r47 a4).bind fun r52 =>
(ck ((List.length r49 : Int) + (List.length r52 : Int) ≤ 4294967296)).bind fun _ =>
(wide_back r45).bind fun r55 =>
(wide_side rf_wide_build a0 a1 r55 a4).bind fun r57 =>
(ck ((List.length (r49 ++ r52) : Int) + (List.length r57 : Int) ≤ 4294967296)).bind fun _ =>
(wide_back r47).bind fun r60 =>
(wide_side rf_wide_build a0 a2 r60 a4).bind fun r62 =>
(ck ((List.length ((r49 ++ r52) ++ r57) : Int) + (List.length r62 : Int) ≤ 4294967296)).bind fun _ =>
some (((r49 ++ r52) ++ r57) ++ r62)
theorem wide_both_ok {rf_wide_build : (List (Int × (Int × Int))) → Int → (List Int) → Option (List (Int × ((List Int) × (List Int))))} (ih_wide_build : ∀ {a0 : (List (Int × (Int × Int)))} {a1 : Int} {a2 : (List Int)} {r : (List (Int × ((List Int) × (List Int))))}, rf_wide_build a0 a1 a2 = some r → FnC Try.prog 38 [aD (.slice (.pair tI (.pair tI tI))) a0, aI a1, aD (.arr 5 tI) a2] [] (.one (.slc 899)) [(899, .seq (.pair tI (.pair (.arr 5 tI) (.arr 5 tI))) r)]) {a0 : (List (Int × (Int × Int)))} {a1 : Int} {a2 : Int} {a3 : (List Int)} {a4 : Bool} {r : (List (Int × ((List Int) × (List Int))))} (h : wide_both rf_wide_build a0 a1 a2 a3 a4 = some r) : FnC Try.prog 45 [aD (.slice (.pair tI (.pair tI tI))) a0, aI a1, aI a2, aD (.arr 5 tI) a3, aB a4] [] (.one (.slc 42)) [(42, .seq (.pair tI (.pair (.arr 5 tI) (.arr 5 tI))) r)] := by
  refine fnC_of_W (B := bodyOf Try.f45) (n := 66) Try.func45 (by kernel_rfl) (by kernel_rfl) (by kernel_rfl) (by kernel_rfl) (by kernel_rfl) ?_
  intro K
  refine W_seq (by kernel_rfl) ?_
  refine W_run 2 [] [0, 1, 2, 4, 8] [8] (fr' := [(0, aD (.slice (.pair tI (.pair tI tI))) a0), (1, aI a1), (2, aI a2), (4, aB a4), (8, .one (.ptr 8 0))]) (L' := [(8, .one (.arr 5 tI) a3)]) (obs := []) (by kernel_rfl) (by kernel_rfl) (by kernel_rfl) allP0 ?_
  refine seqQ_norm ?_
  refine W_seq (by kernel_rfl) ?_
  refine W_run 6 [(5, .typed), (7, .typed)] [0, 1, 2, 4, 8, 11, 12] [8, 11, 12] (fr' := [(0, aD (.slice (.pair tI (.pair tI tI))) a0), (1, aI a1), (2, aI a2), (4, aB a4), (8, .one (.ptr 8 0)), (11, .one (.ptr 11 0)), (12, .one (.ptr 12 0))]) (L' := [(8, .one (.arr 5 tI) a3), (11, .one (.arr 5 tI) [(1 : Int), (2 : Int), (3 : Int), (4 : Int), (0 : Int)]), (12, .one (.arr 5 tI) [(2 : Int), (4 : Int), (1 : Int), (0 : Int), (3 : Int)])]) (obs := [True, True]) (by kernel_rfl) (by kernel_rfl) (by kernel_rfl) (allP2 trivial (allP1 trivial)) ?_
  refine seqQ_norm ?_
  refine W_seq (by kernel_rfl) ?_
  obtain ⟨r33, h34, h⟩ := bind_of h
  obtain ⟨r35, h36, h⟩ := bind_of h
  obtain ⟨r37, h38, h⟩ := bind_of h
  obtain ⟨r39, h40, h⟩ := bind_of h
  obtain ⟨r41, h42, h⟩ := bind_of h
  obtain ⟨r43, h44, h⟩ := bind_of h
  refine W_drawC5 12 [] [(11, 13, .one (.arr 5 tI) [(0 : Int), (0 : Int), (0 : Int), (0 : Int), (0 : Int)])] [(11, .one (.ptr 13 0))] [] [(3, [none, none], aD (.arr 5 tI) r33), (5, [none], aD (.arr 5 tI) r35), (7, [none], aD (.arr 5 tI) r37), (8, [none, none], aD (.arr 5 tI) r39), (9, [none, none], aD (.arr 5 tI) r41), (10, [none, none], aD (.arr 5 tI) r43)] [0, 1, 2, 4, 11, 12, 13, 28] [8, 11, 12, 13] (out := [(18, aD (.arr 5 tI) a3), (19, aD (.arr 5 tI) [(1 : Int), (2 : Int), (3 : Int), (4 : Int), (0 : Int)]), (20, aD (.arr 5 tI) [(2 : Int), (4 : Int), (1 : Int), (0 : Int), (3 : Int)]), (21, aD (.arr 5 tI) r33), (22, aD (.arr 5 tI) [(1 : Int), (2 : Int), (3 : Int), (4 : Int), (0 : Int)]), (23, aD (.arr 5 tI) r35), (24, aD (.arr 5 tI) [(2 : Int), (4 : Int), (1 : Int), (0 : Int), (3 : Int)]), (25, aD (.arr 5 tI) r37), (26, aD (.arr 5 tI) r39), (27, aD (.arr 5 tI) r41), (28, aD (.arr 5 tI) r43), (13, .one (.ptr 13 0))]) (obs := [True, True, True, True, True, True]) (calls := [(35, [aD (.arr 5 tI) [(1 : Int), (2 : Int), (3 : Int), (4 : Int), (0 : Int)], aD (.arr 5 tI) [(2 : Int), (4 : Int), (1 : Int), (0 : Int), (3 : Int)]], aD (.arr 5 tI) r33), (44, [aD (.arr 5 tI) [(1 : Int), (2 : Int), (3 : Int), (4 : Int), (0 : Int)]], aD (.arr 5 tI) r35), (44, [aD (.arr 5 tI) [(2 : Int), (4 : Int), (1 : Int), (0 : Int), (3 : Int)]], aD (.arr 5 tI) r37), (35, [aD (.arr 5 tI) r35, aD (.arr 5 tI) r37], aD (.arr 5 tI) r39), (35, [aD (.arr 5 tI) r33, aD (.arr 5 tI) r39], aD (.arr 5 tI) r41), (48, [aD (.arr 5 tI) a3, aD (.arr 5 tI) r41], aD (.arr 5 tI) r43)]) (fr' := [(0, aD (.slice (.pair tI (.pair tI tI))) a0), (1, aI a1), (2, aI a2), (4, aB a4), (11, .one (.ptr 11 0)), (12, .one (.ptr 12 0)), (13, .one (.ptr 13 0)), (28, aD (.arr 5 tI) r43)]) (L' := [(8, .one (.arr 5 tI) a3), (11, .one (.arr 5 tI) [(1 : Int), (2 : Int), (3 : Int), (4 : Int), (0 : Int)]), (12, .one (.arr 5 tI) [(2 : Int), (4 : Int), (1 : Int), (0 : Int), (3 : Int)]), (13, .one (.arr 5 tI) [(0 : Int), (0 : Int), (0 : Int), (0 : Int), (0 : Int)])]) (by kernel_rfl) (by kernel_rfl) (by kernel_rfl) (by kernel_rfl) (by kernel_rfl) (allP2 trivial (allP2 trivial (allP2 trivial (allP2 trivial (allP2 trivial (allP1 trivial)))))) (allD2 [] _ _ (by kernel_rfl) (wide_then_ok h34) (by kernel_rfl) (by kernel_rfl) (by kernel_rfl) (by kernel_rfl) (allD2 [] _ _ (by kernel_rfl) (wide_back_ok h36) (by kernel_rfl) (by kernel_rfl) (by kernel_rfl) (by kernel_rfl) (allD2 [] _ _ (by kernel_rfl) (wide_back_ok h38) (by kernel_rfl) (by kernel_rfl) (by kernel_rfl) (by kernel_rfl) (allD2 [] _ _ (by kernel_rfl) (wide_then_ok h40) (by kernel_rfl) (by kernel_rfl) (by kernel_rfl) (by kernel_rfl) (allD2 [] _ _ (by kernel_rfl) (wide_then_ok h42) (by kernel_rfl) (by kernel_rfl) (by kernel_rfl) (by kernel_rfl) (allD2 [] _ _ (by kernel_rfl) (wide_between_ok h44) (by kernel_rfl) (by kernel_rfl) (by kernel_rfl) (by kernel_rfl) allD0)))))) chNil (mkDo (ty := true) (av := .one (.ptr 13 0)) (p := True) (by kernel_rfl) trivial (by kernel_rfl) mkNil) (by kernel_rfl) ?_
  refine WO_run (j := 13) (k := 1) (orcs := []) (kF := [0, 1, 2, 4, 11, 12, 13]) (kL := [8, 11, 12, 13]) (fr' := [(0, aD (.slice (.pair tI (.pair tI tI))) a0), (1, aI a1), (2, aI a2), (4, aB a4), (11, .one (.ptr 11 0)), (12, .one (.ptr 12 0)), (13, .one (.ptr 13 0))]) (L' := [(8, .one (.arr 5 tI) a3), (11, .one (.arr 5 tI) [(1 : Int), (2 : Int), (3 : Int), (4 : Int), (0 : Int)]), (12, .one (.arr 5 tI) [(2 : Int), (4 : Int), (1 : Int), (0 : Int), (3 : Int)]), (13, .one (.arr 5 tI) r43)]) (obs := [True]) rfl (by kernel_rfl) (allP1 trivial) ?_
  refine WO_fin [0, 1, 2, 4, 11, 12, 13] [11, 12, 13] (fr' := [(0, aD (.slice (.pair tI (.pair tI tI))) a0), (1, aI a1), (2, aI a2), (4, aB a4), (11, .one (.ptr 11 0)), (12, .one (.ptr 12 0)), (13, .one (.ptr 13 0))]) (L' := [(11, .one (.arr 5 tI) [(1 : Int), (2 : Int), (3 : Int), (4 : Int), (0 : Int)]), (12, .one (.arr 5 tI) [(2 : Int), (4 : Int), (1 : Int), (0 : Int), (3 : Int)]), (13, .one (.arr 5 tI) r43)]) (by kernel_rfl) (by kernel_rfl) ?_
  refine ⟨rfl, ?_⟩
  refine seqQ_norm ?_
  refine W_seq (by kernel_rfl) ?_
  refine W_run 2 [] [0, 1, 2, 4, 11, 12, 14] [11, 12, 13] (fr' := [(0, aD (.slice (.pair tI (.pair tI tI))) a0), (1, aI a1), (2, aI a2), (4, aB a4), (11, .one (.ptr 11 0)), (12, .one (.ptr 12 0)), (14, .one (.fn 49 [(13, 0)]))]) (L' := [(11, .one (.arr 5 tI) [(1 : Int), (2 : Int), (3 : Int), (4 : Int), (0 : Int)]), (12, .one (.arr 5 tI) [(2 : Int), (4 : Int), (1 : Int), (0 : Int), (3 : Int)]), (13, .one (.arr 5 tI) r43)]) (obs := []) (by kernel_rfl) (by kernel_rfl) (by kernel_rfl) allP0 ?_
  refine seqQ_norm ?_
  refine W_seq (by kernel_rfl) ?_
  obtain ⟨r45, h46, h⟩ := bind_of h
  obtain ⟨r47, h48, h⟩ := bind_of h
  refine W_draw4 6 [] [] [(2, [none, none], aD (.arr 5 tI) r45), (5, [none, none], aD (.arr 5 tI) r47)] [0, 1, 2, 4, 11, 12] [11, 12] (fr' := [(0, aD (.slice (.pair tI (.pair tI tI))) a0), (1, aI a1), (2, aI a2), (4, aB a4), (11, .one (.ptr 11 0)), (12, .one (.ptr 12 0))]) (L' := [(11, .one (.arr 5 tI) r45), (12, .one (.arr 5 tI) r47)]) (out := [(30, .one (.fn 49 [(13, 0)])), (31, aD (.arr 5 tI) [(1 : Int), (2 : Int), (3 : Int), (4 : Int), (0 : Int)]), (32, aD (.arr 5 tI) r45), (33, .one (.fn 49 [(13, 0)])), (34, aD (.arr 5 tI) [(2 : Int), (4 : Int), (1 : Int), (0 : Int), (3 : Int)]), (35, aD (.arr 5 tI) r47)]) (obs := [True, True]) (obs2 := [True, True]) (calls := [(49, [aD (.arr 5 tI) [(1 : Int), (2 : Int), (3 : Int), (4 : Int), (0 : Int)], .one (.ptr 13 0)], aD (.arr 5 tI) r45), (49, [aD (.arr 5 tI) [(2 : Int), (4 : Int), (1 : Int), (0 : Int), (3 : Int)], .one (.ptr 13 0)], aD (.arr 5 tI) r47)]) (by kernel_rfl) (by kernel_rfl) (by kernel_rfl) (by kernel_rfl) (allP2 trivial (allP1 trivial)) (allD2 [(1000, 13)] _ _ (by kernel_rfl) (wide_both_1_ok h46) (by kernel_rfl) (by kernel_rfl) (by kernel_rfl) (by kernel_rfl) (allD2 [(1000, 13)] _ _ (by kernel_rfl) (wide_both_1_ok h48) (by kernel_rfl) (by kernel_rfl) (by kernel_rfl) (by kernel_rfl) allD0)) (by kernel_rfl) (allP2 trivial (allP1 trivial)) ?_
  refine seqQ_norm ?_
  refine W_seq (by kernel_rfl) ?_
  refine W_run 1 [] [0, 1, 2, 4, 11, 12, 15] [11, 12] (fr' := [(0, aD (.slice (.pair tI (.pair tI tI))) a0), (1, aI a1), (2, aI a2), (4, aB a4), (11, .one (.ptr 11 0)), (12, .one (.ptr 12 0)), (15, .one (.nilS))]) (L' := [(11, .one (.arr 5 tI) r45), (12, .one (.arr 5 tI) r47)]) (obs := []) (by kernel_rfl) (by kernel_rfl) (by kernel_rfl) allP0 ?_
  refine seqQ_norm ?_
  refine W_seq (by kernel_rfl) ?_
  refine W_region (by kernel_rfl) ?_
  refine WO_run (j := 5) (k := 5) (orcs := []) (kF := [0, 1, 2, 4, 11, 12, 15, 36, 37, 38, 39, 40]) (kL := [11, 12]) (fr' := [(0, aD (.slice (.pair tI (.pair tI tI))) a0), (1, aI a1), (2, aI a2), (4, aB a4), (11, .one (.ptr 11 0)), (12, .one (.ptr 12 0)), (15, .one (.nilS)), (36, .one (.nilS)), (37, aD (.slice (.pair tI (.pair tI tI))) a0), (38, aI a1), (39, aD (.arr 5 tI) r45), (40, aB a4)]) (L' := [(11, .one (.arr 5 tI) r45), (12, .one (.arr 5 tI) r47)]) (obs := []) rfl (by kernel_rfl) allP0 ?_
  obtain ⟨r49, h50, h⟩ := bind_of h
  refine WO_call0 (us := [none, none, none, none]) (d := 41) (p := True) (j := 6) rfl ⟨by kernel_rfl, by kernel_rfl, by kernel_rfl⟩ trivial ((wide_side_ok ih_wide_build) h50) (by kernel_rfl) ?_
  obtain ⟨_, h51, h⟩ := bind_of h
  replace h51 := ck_some h51
  refine WO_run (j := 8) (k := 2) (orcs := []) (kF := [0, 1, 2, 4, 11, 12, 15]) (kL := [11, 12, 42]) (fr' := [(0, aD (.slice (.pair tI (.pair tI tI))) a0), (1, aI a1), (2, aI a2), (4, aB a4), (11, .one (.ptr 11 0)), (12, .one (.ptr 12 0)), (15, .one (.slc 42))]) (L' := [(11, .one (.arr 5 tI) r45), (12, .one (.arr 5 tI) r47), (42, .seq (.pair tI (.pair (.arr 5 tI) (.arr 5 tI))) r49)]) (obs := [SmallLen (List.length r49)]) rfl (by kernel_rfl) (allP1 h51) ?_
  refine WO_fin [0, 1, 2, 4, 11, 12, 15] [11, 12, 42] (fr' := [(0, aD (.slice (.pair tI (.pair tI tI))) a0), (1, aI a1), (2, aI a2), (4, aB a4), (11, .one (.ptr 11 0)), (12, .one (.ptr 12 0)), (15, .one (.slc 42))]) (L' := [(11, .one (.arr 5 tI) r45), (12, .one (.arr 5 tI) r47), (42, .seq (.pair tI (.pair (.arr 5 tI) (.arr 5 tI))) r49)]) (by kernel_rfl) (by kernel_rfl) ?_
  refine seqQ_norm ?_
  refine W_seq (by kernel_rfl) ?_
  refine W_region (by kernel_rfl) ?_
  refine WO_run (j := 5) (k := 5) (orcs := []) (kF := [0, 1, 2, 4, 11, 12, 15, 43, 44, 45, 46, 47]) (kL := [11, 12, 42]) (fr' := [(0, aD (.slice (.pair tI (.pair tI tI))) a0), (1, aI a1), (2, aI a2), (4, aB a4), (11, .one (.ptr 11 0)), (12, .one (.ptr 12 0)), (15, .one (.slc 42)), (43, .one (.slc 42)), (44, aD (.slice (.pair tI (.pair tI tI))) a0), (45, aI a2), (46, aD (.arr 5 tI) r47), (47, aB a4)]) (L' := [(11, .one (.arr 5 tI) r45), (12, .one (.arr 5 tI) r47), (42, .seq (.pair tI (.pair (.arr 5 tI) (.arr 5 tI))) r49)]) (obs := []) rfl (by kernel_rfl) allP0 ?_
  obtain ⟨r52, h53, h⟩ := bind_of h
  refine WO_call0 (us := [none, none, none, none]) (d := 48) (p := True) (j := 6) rfl ⟨by kernel_rfl, by kernel_rfl, by kernel_rfl⟩ trivial ((wide_side_ok ih_wide_build) h53) (by kernel_rfl) ?_
  obtain ⟨_, h54, h⟩ := bind_of h
  replace h54 := ck_some h54
  refine WO_run (j := 8) (k := 2) (orcs := []) (kF := [0, 1, 2, 4, 11, 12, 15]) (kL := [11, 12, 42]) (fr' := [(0, aD (.slice (.pair tI (.pair tI tI))) a0), (1, aI a1), (2, aI a2), (4, aB a4), (11, .one (.ptr 11 0)), (12, .one (.ptr 12 0)), (15, .one (.slc 42))]) (L' := [(11, .one (.arr 5 tI) r45), (12, .one (.arr 5 tI) r47), (42, .seq (.pair tI (.pair (.arr 5 tI) (.arr 5 tI))) (r49 ++ r52))]) (obs := [SmallLen (List.length r49 + List.length r52)]) rfl (by kernel_rfl) (allP1 h54) ?_
  refine WO_fin [0, 1, 2, 4, 11, 12, 15] [11, 12, 42] (fr' := [(0, aD (.slice (.pair tI (.pair tI tI))) a0), (1, aI a1), (2, aI a2), (4, aB a4), (11, .one (.ptr 11 0)), (12, .one (.ptr 12 0)), (15, .one (.slc 42))]) (L' := [(11, .one (.arr 5 tI) r45), (12, .one (.arr 5 tI) r47), (42, .seq (.pair tI (.pair (.arr 5 tI) (.arr 5 tI))) (r49 ++ r52))]) (by kernel_rfl) (by kernel_rfl) ?_
  refine seqQ_norm ?_
  refine W_seq (by kernel_rfl) ?_
  refine W_region (by kernel_rfl) ?_
  refine WO_run (j := 4) (k := 4) (orcs := []) (kF := [0, 2, 4, 12, 15, 50, 51, 52, 53]) (kL := [11, 12, 42]) (fr' := [(0, aD (.slice (.pair tI (.pair tI tI))) a0), (2, aI a2), (4, aB a4), (12, .one (.ptr 12 0)), (15, .one (.slc 42)), (50, .one (.slc 42)), (51, aD (.slice (.pair tI (.pair tI tI))) a0), (52, aI a1), (53, aD (.arr 5 tI) r45)]) (L' := [(11, .one (.arr 5 tI) r45), (12, .one (.arr 5 tI) r47), (42, .seq (.pair tI (.pair (.arr 5 tI) (.arr 5 tI))) (r49 ++ r52))]) (obs := []) rfl (by kernel_rfl) allP0 ?_
  obtain ⟨r55, h56, h⟩ := bind_of h
  refine WO_call0 (us := [none]) (d := 54) (p := True) (j := 5) rfl ⟨by kernel_rfl, by kernel_rfl, by kernel_rfl⟩ trivial (wide_back_ok h56) (by kernel_rfl) ?_
  refine WO_run (j := 6) (k := 1) (orcs := []) (kF := [0, 2, 4, 12, 15, 50, 51, 52, 54, 55]) (kL := [11, 12, 42]) (fr' := [(0, aD (.slice (.pair tI (.pair tI tI))) a0), (2, aI a2), (4, aB a4), (12, .one (.ptr 12 0)), (15, .one (.slc 42)), (50, .one (.slc 42)), (51, aD (.slice (.pair tI (.pair tI tI))) a0), (52, aI a1), (54, aD (.arr 5 tI) r55), (55, aB a4)]) (L' := [(11, .one (.arr 5 tI) r45), (12, .one (.arr 5 tI) r47), (42, .seq (.pair tI (.pair (.arr 5 tI) (.arr 5 tI))) (r49 ++ r52))]) (obs := []) rfl (by kernel_rfl) allP0 ?_
  obtain ⟨r57, h58, h⟩ := bind_of h
  refine WO_call0 (us := [none, none, none, none]) (d := 56) (p := True) (j := 7) rfl ⟨by kernel_rfl, by kernel_rfl, by kernel_rfl⟩ trivial ((wide_side_ok ih_wide_build) h58) (by kernel_rfl) ?_
  obtain ⟨_, h59, h⟩ := bind_of h
  replace h59 := ck_some h59
  refine WO_run (j := 9) (k := 2) (orcs := []) (kF := [0, 2, 4, 12, 15]) (kL := [11, 12, 42]) (fr' := [(0, aD (.slice (.pair tI (.pair tI tI))) a0), (2, aI a2), (4, aB a4), (12, .one (.ptr 12 0)), (15, .one (.slc 42))]) (L' := [(11, .one (.arr 5 tI) r45), (12, .one (.arr 5 tI) r47), (42, .seq (.pair tI (.pair (.arr 5 tI) (.arr 5 tI))) ((r49 ++ r52) ++ r57))]) (obs := [SmallLen (List.length (r49 ++ r52) + List.length r57)]) rfl (by kernel_rfl) (allP1 h59) ?_
  refine WO_fin [0, 2, 4, 12, 15] [12, 42] (fr' := [(0, aD (.slice (.pair tI (.pair tI tI))) a0), (2, aI a2), (4, aB a4), (12, .one (.ptr 12 0)), (15, .one (.slc 42))]) (L' := [(12, .one (.arr 5 tI) r47), (42, .seq (.pair tI (.pair (.arr 5 tI) (.arr 5 tI))) ((r49 ++ r52) ++ r57))]) (by kernel_rfl) (by kernel_rfl) ?_
  refine seqQ_norm ?_
  refine W_seq (by kernel_rfl) ?_
  refine W_region (by kernel_rfl) ?_
  refine WO_run (j := 4) (k := 4) (orcs := []) (kF := [4, 58, 59, 60, 61]) (kL := [12, 42]) (fr' := [(4, aB a4), (58, .one (.slc 42)), (59, aD (.slice (.pair tI (.pair tI tI))) a0), (60, aI a2), (61, aD (.arr 5 tI) r47)]) (L' := [(12, .one (.arr 5 tI) r47), (42, .seq (.pair tI (.pair (.arr 5 tI) (.arr 5 tI))) ((r49 ++ r52) ++ r57))]) (obs := []) rfl (by kernel_rfl) allP0 ?_
  obtain ⟨r60, h61, h⟩ := bind_of h
  refine WO_call0 (us := [none]) (d := 62) (p := True) (j := 5) rfl ⟨by kernel_rfl, by kernel_rfl, by kernel_rfl⟩ trivial (wide_back_ok h61) (by kernel_rfl) ?_
  refine WO_run (j := 6) (k := 1) (orcs := []) (kF := [58, 59, 60, 62, 63]) (kL := [12, 42]) (fr' := [(58, .one (.slc 42)), (59, aD (.slice (.pair tI (.pair tI tI))) a0), (60, aI a2), (62, aD (.arr 5 tI) r60), (63, aB a4)]) (L' := [(12, .one (.arr 5 tI) r47), (42, .seq (.pair tI (.pair (.arr 5 tI) (.arr 5 tI))) ((r49 ++ r52) ++ r57))]) (obs := []) rfl (by kernel_rfl) allP0 ?_
  obtain ⟨r62, h63, h⟩ := bind_of h
  refine WO_call0 (us := [none, none, none, none]) (d := 64) (p := True) (j := 7) rfl ⟨by kernel_rfl, by kernel_rfl, by kernel_rfl⟩ trivial ((wide_side_ok ih_wide_build) h63) (by kernel_rfl) ?_
  obtain ⟨_, h64, h⟩ := bind_of h
  replace h64 := ck_some h64
  refine WO_run (j := 9) (k := 2) (orcs := []) (kF := [10]) (kL := [12, 42]) (fr' := [(10, .one (.slc 42))]) (L' := [(12, .one (.arr 5 tI) r47), (42, .seq (.pair tI (.pair (.arr 5 tI) (.arr 5 tI))) (((r49 ++ r52) ++ r57) ++ r62))]) (obs := [SmallLen (List.length ((r49 ++ r52) ++ r57) + List.length r62)]) rfl (by kernel_rfl) (allP1 h64) ?_
  refine WO_fin [10] [42] (fr' := [(10, .one (.slc 42))]) (L' := [(42, .seq (.pair tI (.pair (.arr 5 tI) (.arr 5 tI))) (((r49 ++ r52) ++ r57) ++ r62))]) (by kernel_rfl) (by kernel_rfl) ?_
  refine seqQ_norm ?_
  obtain rfl := Option.some.inj h
  refine W_ret [10] [42] (fr' := [(10, .one (.slc 42))]) (L' := [(42, .seq (.pair tI (.pair (.arr 5 tI) (.arr 5 tI))) (((r49 ++ r52) ++ r57) ++ r62))]) (by kernel_rfl) (by kernel_rfl) ?_
  exact retQ_mk (by kernel_rfl) (by kernel_rfl) (by kernel_rfl)

def wide_build_step (rf_wide_build : (List (Int × (Int × Int))) → Int → (List Int) → Option (List (Int × ((List Int) × (List Int))))) (fuel : Nat) (a0 : (List (Int × (Int × Int)))) (a1 : Int) (a2 : (List Int)) : Option (List (Int × ((List Int) × (List Int)))) :=
(idx a0 a1).bind fun v13 =>
bif v13.1 == (1 : Int) then
(some [(v13.2.1, [(0 : Int), (1 : Int), (2 : Int), (3 : Int), (4 : Int)], a2)])
else
(bif v13.1 == (2 : Int) then
((wide_back a2).bind fun r25 =>
(rf_wide_build a0 v13.2.1 r25).bind fun r27 =>
(wide_behind_i2 a2 r27).bind fun r29 =>
some r29.2)
else
(bif v13.1 == (3 : Int) then
((wide_both rf_wide_build a0 v13.2.1 v13.2.2 a2 false).bind fun r32 =>
some r32)
else
((wide_back a2).bind fun r42 =>
(wide_both rf_wide_build a0 v13.2.1 v13.2.2 r42 true).bind fun r44 =>
(wide_behind_i2 a2 r44).bind fun r46 =>
some r46.2)))
def wide_build : Nat → (List (Int × (Int × Int))) → Int → (List Int) → Option (List (Int × ((List Int) × (List Int))))
  | 0 => fun _ _ _ => none
  | fuel + 1 => fun a0 a1 a2 => wide_build_step (wide_build fuel) fuel a0 a1 a2
theorem wide_build_step_ok {rf_wide_build : (List (Int × (Int × Int))) → Int → (List Int) → Option (List (Int × ((List Int) × (List Int))))} (ih_wide_build : ∀ {a0 : (List (Int × (Int × Int)))} {a1 : Int} {a2 : (List Int)} {r : (List (Int × ((List Int) × (List Int))))}, rf_wide_build a0 a1 a2 = some r → FnC Try.prog 38 [aD (.slice (.pair tI (.pair tI tI))) a0, aI a1, aD (.arr 5 tI) a2] [] (.one (.slc 899)) [(899, .seq (.pair tI (.pair (.arr 5 tI) (.arr 5 tI))) r)]) {fuel : Nat} {a0 : (List (Int × (Int × Int)))} {a1 : Int} {a2 : (List Int)} {r : (List (Int × ((List Int) × (List Int))))} (h : wide_build_step rf_wide_build fuel a0 a1 a2 = some r) : FnC Try.prog 38 [aD (.slice (.pair tI (.pair tI tI))) a0, aI a1, aD (.arr 5 tI) a2] [] (.one (.slc 899)) [(899, .seq (.pair tI (.pair (.arr 5 tI) (.arr 5 tI))) r)] := by
  refine fnC_of_W (B := bodyOf Try.f38) (n := 53) Try.func38 (by kernel_rfl) (by kernel_rfl) (by kernel_rfl) (by kernel_rfl) (by kernel_rfl) ?_
  intro K
  refine W_seq (by kernel_rfl) ?_
  refine W_run 2 [] [0, 1, 5] [5] (fr' := [(0, aD (.slice (.pair tI (.pair tI tI))) a0), (1, aI a1), (5, .one (.ptr 5 0))]) (L' := [(5, .one (.arr 5 tI) a2)]) (obs := []) (by kernel_rfl) (by kernel_rfl) (by kernel_rfl) allP0 ?_
  refine seqQ_norm ?_
  refine W_seq (by kernel_rfl) ?_
  obtain ⟨v13, h14, h⟩ := bind_of h
  refine W_run 6 [(5, .val (.dat (.pair tI (.pair tI tI)) v13)), (9, .typed)] [0, 5, 7] [5, 7] (fr' := [(0, aD (.slice (.pair tI (.pair tI tI))) a0), (5, .one (.ptr 5 0)), (7, .one (.ptr 7 0))]) (L' := [(5, .one (.arr 5 tI) a2), (7, .one (.pair tI (.pair tI tI)) v13)]) (obs := [Idx a0 a1 v13, True]) (by kernel_rfl) (by kernel_rfl) (by kernel_rfl) (allP2 (Idx.of h14) (allP1 trivial)) ?_
  refine seqQ_norm ?_
  refine W_seq (by kernel_rfl) ?_
  refine W_run 3 [(3, .typed)] [0, 5, 7, 8] [5, 7, 8] (fr' := [(0, aD (.slice (.pair tI (.pair tI tI))) a0), (5, .one (.ptr 5 0)), (7, .one (.ptr 7 0)), (8, .one (.ptr 8 0))]) (L' := [(5, .one (.arr 5 tI) a2), (7, .one (.pair tI (.pair tI tI)) v13), (8, .one (.arr 5 tI) [(0 : Int), (1 : Int), (2 : Int), (3 : Int), (4 : Int)])]) (obs := [True]) (by kernel_rfl) (by kernel_rfl) (by kernel_rfl) (allP1 trivial) ?_
  refine seqQ_norm ?_
  refine W_seq (by kernel_rfl) ?_
  refine W_seq (by kernel_rfl) ?_
  refine W_run 2 [] [0, 5, 7, 8, 15] [5, 7, 8] (fr' := [(0, aD (.slice (.pair tI (.pair tI tI))) a0), (5, .one (.ptr 5 0)), (7, .one (.ptr 7 0)), (8, .one (.ptr 8 0)), (15, aI v13.1)]) (L' := [(5, .one (.arr 5 tI) a2), (7, .one (.pair tI (.pair tI tI)) v13), (8, .one (.arr 5 tI) [(0 : Int), (1 : Int), (2 : Int), (3 : Int), (4 : Int)])]) (obs := []) (by kernel_rfl) (by kernel_rfl) (by kernel_rfl) allP0 ?_
  refine seqQ_norm ?_
  refine W_block (id := 0) (by kernel_rfl) ?_
  refine W_seq (by kernel_rfl) ?_
  refine W_run 2 [] [0, 5, 7, 8, 15, 16] [5, 7, 8] (fr' := [(0, aD (.slice (.pair tI (.pair tI tI))) a0), (5, .one (.ptr 5 0)), (7, .one (.ptr 7 0)), (8, .one (.ptr 8 0)), (15, aI v13.1), (16, aB (v13.1 == (1 : Int)))]) (L' := [(5, .one (.arr 5 tI) a2), (7, .one (.pair tI (.pair tI tI)) v13), (8, .one (.arr 5 tI) [(0 : Int), (1 : Int), (2 : Int), (3 : Int), (4 : Int)])]) (obs := []) (by kernel_rfl) (by kernel_rfl) (by kernel_rfl) allP0 ?_
  refine seqQ_norm ?_
  refine W_cond (o := .tmp 16) (b := v13.1 == (1 : Int)) (by kernel_rfl) (by kernel_rfl) (fun h15 => ?_) (fun h15 => ?_)
  · replace h := ofT h15 h
    refine W_seq (by kernel_rfl) ?_
    refine W_run 7 [] [6] [23] (fr' := [(6, .one (.slc 23))]) (L' := [(23, .seq (.pair tI (.pair (.arr 5 tI) (.arr 5 tI))) [(v13.2.1, [(0 : Int), (1 : Int), (2 : Int), (3 : Int), (4 : Int)], a2)])]) (obs := []) (by kernel_rfl) (by kernel_rfl) (by kernel_rfl) allP0 ?_
    refine seqQ_norm ?_
    obtain rfl := Option.some.inj h
    refine W_ren 23 899 (by kernel_rfl) ?_
    refine W_ret [6] [899] (fr' := [(6, .one (.slc 899))]) (L' := [(899, .seq (.pair tI (.pair (.arr 5 tI) (.arr 5 tI))) [(v13.2.1, [(0 : Int), (1 : Int), (2 : Int), (3 : Int), (4 : Int)], a2)])]) (by kernel_rfl) (by kernel_rfl) ?_
    refine blockQ_ret ?_
    refine seqQ_ret ?_
    exact retQ_mk (by kernel_rfl) (by kernel_rfl) (by kernel_rfl)
  · replace h := ofF h15 h
    refine W_seq (by kernel_rfl) ?_
    refine W_run 2 [] [0, 5, 7, 15, 24] [5, 7] (fr' := [(0, aD (.slice (.pair tI (.pair tI tI))) a0), (5, .one (.ptr 5 0)), (7, .one (.ptr 7 0)), (15, aI v13.1), (24, aB (v13.1 == (2 : Int)))]) (L' := [(5, .one (.arr 5 tI) a2), (7, .one (.pair tI (.pair tI tI)) v13)]) (obs := []) (by kernel_rfl) (by kernel_rfl) (by kernel_rfl) allP0 ?_
    refine seqQ_norm ?_
    refine W_cond (o := .tmp 24) (b := v13.1 == (2 : Int)) (by kernel_rfl) (by kernel_rfl) (fun h16 => ?_) (fun h16 => ?_)
    · replace h := ofT h16 h
      refine W_seq (by kernel_rfl) ?_
      obtain ⟨r25, h26, h⟩ := bind_of h
      obtain ⟨r27, h28, h⟩ := bind_of h
      refine W_drawC5 7 [(5, [31], [(31, .seq (.pair tI (.pair (.arr 5 tI) (.arr 5 tI))) r27)])] [] [(5, .one (.slc 31))] [] [(4, [none], aD (.arr 5 tI) r25)] [31, 32] [5, 7, 31] (out := [(26, aD (.slice (.pair tI (.pair tI tI))) a0), (27, .one (.ptr 7 1)), (28, aI v13.2.1), (29, aD (.arr 5 tI) a2), (30, aD (.arr 5 tI) r25), (31, .one (.slc 31)), (32, aD (.arr 5 tI) a2)]) (obs := [True]) (calls := [(44, [aD (.arr 5 tI) a2], aD (.arr 5 tI) r25)]) (fr' := [(31, .one (.slc 31)), (32, aD (.arr 5 tI) a2)]) (L' := [(5, .one (.arr 5 tI) a2), (7, .one (.pair tI (.pair tI tI)) v13), (31, .seq (.pair tI (.pair (.arr 5 tI) (.arr 5 tI))) r27)]) (by kernel_rfl) (by kernel_rfl) (by kernel_rfl) (by kernel_rfl) (by kernel_rfl) (allP1 trivial) (allD2 [] _ _ (by kernel_rfl) (wide_back_ok h26) (by kernel_rfl) (by kernel_rfl) (by kernel_rfl) (by kernel_rfl) allD0) (chCall (us := [none, none, none]) (d := 31) (t := 31) (p := True) ⟨by kernel_rfl, by kernel_rfl, by kernel_rfl⟩ trivial (ih_wide_build h28) (by kernel_rfl) (by kernel_rfl) chNil) mkNil (by kernel_rfl) ?_
      obtain ⟨r29, h30, h⟩ := bind_of h
      refine WO_lend2 [(2000, 31)] (us := [none, none]) (d := 33) (p := True) (j := 8) rfl ⟨by kernel_rfl, by kernel_rfl, by kernel_rfl⟩ trivial (wide_behind_i2_ok h30) (by kernel_rfl) (by kernel_rfl) ?_
      refine WO_run (j := 9) (k := 1) (orcs := []) (kF := [6]) (kL := [5, 7, 31]) (fr' := [(6, .one (.slc 31))]) (L' := [(5, .one (.arr 5 tI) a2), (7, .one (.pair tI (.pair tI tI)) v13), (31, .seq (.pair tI (.pair (.arr 5 tI) (.arr 5 tI))) r29.2)]) (obs := []) rfl (by kernel_rfl) allP0 ?_
      refine WO_fin [6] [31] (fr' := [(6, .one (.slc 31))]) (L' := [(31, .seq (.pair tI (.pair (.arr 5 tI) (.arr 5 tI))) r29.2)]) (by kernel_rfl) (by kernel_rfl) ?_
      refine ⟨rfl, ?_⟩
      refine seqQ_norm ?_
      obtain rfl := Option.some.inj h
      refine W_ren 31 899 (by kernel_rfl) ?_
      refine W_ret [6] [899] (fr' := [(6, .one (.slc 899))]) (L' := [(899, .seq (.pair tI (.pair (.arr 5 tI) (.arr 5 tI))) r29.2)]) (by kernel_rfl) (by kernel_rfl) ?_
      refine blockQ_ret ?_
      refine seqQ_ret ?_
      exact retQ_mk (by kernel_rfl) (by kernel_rfl) (by kernel_rfl)
    · replace h := ofF h16 h
      refine W_seq (by kernel_rfl) ?_
      refine W_run 2 [] [0, 5, 7, 34] [5, 7] (fr' := [(0, aD (.slice (.pair tI (.pair tI tI))) a0), (5, .one (.ptr 5 0)), (7, .one (.ptr 7 0)), (34, aB (v13.1 == (3 : Int)))]) (L' := [(5, .one (.arr 5 tI) a2), (7, .one (.pair tI (.pair tI tI)) v13)]) (obs := []) (by kernel_rfl) (by kernel_rfl) (by kernel_rfl) allP0 ?_
      refine seqQ_norm ?_
      refine W_cond (o := .tmp 34) (b := v13.1 == (3 : Int)) (by kernel_rfl) (by kernel_rfl) (fun h31 => ?_) (fun h31 => ?_)
      · replace h := ofT h31 h
        refine W_seq (by kernel_rfl) ?_
        refine W_region (by kernel_rfl) ?_
        refine WO_run (j := 6) (k := 6) (orcs := []) (kF := [36, 38, 40, 41]) (kL := [5, 7]) (fr' := [(36, aD (.slice (.pair tI (.pair tI tI))) a0), (38, aI v13.2.1), (40, aI v13.2.2), (41, aD (.arr 5 tI) a2)]) (L' := [(5, .one (.arr 5 tI) a2), (7, .one (.pair tI (.pair tI tI)) v13)]) (obs := []) rfl (by kernel_rfl) allP0 ?_
        obtain ⟨r32, h33, h⟩ := bind_of h
        refine WO_call1 (us := [none, none, none, none, none]) (d := 42) (t := 42) (p := True) (j := 7) rfl ⟨by kernel_rfl, by kernel_rfl, by kernel_rfl⟩ trivial ((wide_both_ok ih_wide_build) h33) (by kernel_rfl) ?_
        refine WO_run (j := 8) (k := 1) (orcs := []) (kF := [6]) (kL := [5, 7, 42]) (fr' := [(6, .one (.slc 42))]) (L' := [(5, .one (.arr 5 tI) a2), (7, .one (.pair tI (.pair tI tI)) v13), (42, .seq (.pair tI (.pair (.arr 5 tI) (.arr 5 tI))) r32)]) (obs := []) rfl (by kernel_rfl) allP0 ?_
        refine WO_fin [6] [42] (fr' := [(6, .one (.slc 42))]) (L' := [(42, .seq (.pair tI (.pair (.arr 5 tI) (.arr 5 tI))) r32)]) (by kernel_rfl) (by kernel_rfl) ?_
        refine seqQ_norm ?_
        obtain rfl := Option.some.inj h
        refine W_ren 42 899 (by kernel_rfl) ?_
        refine W_ret [6] [899] (fr' := [(6, .one (.slc 899))]) (L' := [(899, .seq (.pair tI (.pair (.arr 5 tI) (.arr 5 tI))) r32)]) (by kernel_rfl) (by kernel_rfl) ?_
        refine blockQ_ret ?_
        refine seqQ_ret ?_
        exact retQ_mk (by kernel_rfl) (by kernel_rfl) (by kernel_rfl)
      · replace h := ofF h31 h
        refine W_skip [0, 5, 7] [5, 7] (fr' := [(0, aD (.slice (.pair tI (.pair tI tI))) a0), (5, .one (.ptr 5 0)), (7, .one (.ptr 7 0))]) (L' := [(5, .one (.arr 5 tI) a2), (7, .one (.pair tI (.pair tI tI)) v13)]) (by kernel_rfl) (by kernel_rfl) ?_
        refine blockQ_norm ?_
        refine seqQ_norm ?_
        refine W_seq (by kernel_rfl) ?_
        obtain ⟨r42, h43, h⟩ := bind_of h
        obtain ⟨r44, h45, h⟩ := bind_of h
        refine W_drawC5 9 [(7, [50], [(50, .seq (.pair tI (.pair (.arr 5 tI) (.arr 5 tI))) r44)])] [] [(7, .one (.slc 50))] [] [(6, [none], aD (.arr 5 tI) r42)] [50, 51] [5, 7, 50] (out := [(43, aD (.slice (.pair tI (.pair tI tI))) a0), (44, .one (.ptr 7 1)), (45, aI v13.2.1), (46, .one (.ptr 7 2)), (47, aI v13.2.2), (48, aD (.arr 5 tI) a2), (49, aD (.arr 5 tI) r42), (50, .one (.slc 50)), (51, aD (.arr 5 tI) a2)]) (obs := [True]) (calls := [(44, [aD (.arr 5 tI) a2], aD (.arr 5 tI) r42)]) (fr' := [(50, .one (.slc 50)), (51, aD (.arr 5 tI) a2)]) (L' := [(5, .one (.arr 5 tI) a2), (7, .one (.pair tI (.pair tI tI)) v13), (50, .seq (.pair tI (.pair (.arr 5 tI) (.arr 5 tI))) r44)]) (by kernel_rfl) (by kernel_rfl) (by kernel_rfl) (by kernel_rfl) (by kernel_rfl) (allP1 trivial) (allD2 [] _ _ (by kernel_rfl) (wide_back_ok h43) (by kernel_rfl) (by kernel_rfl) (by kernel_rfl) (by kernel_rfl) allD0) (chCall (us := [none, none, none, none, none]) (d := 50) (t := 50) (p := True) ⟨by kernel_rfl, by kernel_rfl, by kernel_rfl⟩ trivial ((wide_both_ok ih_wide_build) h45) (by kernel_rfl) (by kernel_rfl) chNil) mkNil (by kernel_rfl) ?_
        obtain ⟨r46, h47, h⟩ := bind_of h
        refine WO_lend2 [(2000, 50)] (us := [none, none]) (d := 52) (p := True) (j := 10) rfl ⟨by kernel_rfl, by kernel_rfl, by kernel_rfl⟩ trivial (wide_behind_i2_ok h47) (by kernel_rfl) (by kernel_rfl) ?_
        refine WO_run (j := 11) (k := 1) (orcs := []) (kF := [6]) (kL := [5, 7, 50]) (fr' := [(6, .one (.slc 50))]) (L' := [(5, .one (.arr 5 tI) a2), (7, .one (.pair tI (.pair tI tI)) v13), (50, .seq (.pair tI (.pair (.arr 5 tI) (.arr 5 tI))) r46.2)]) (obs := []) rfl (by kernel_rfl) allP0 ?_
        refine WO_fin [6] [50] (fr' := [(6, .one (.slc 50))]) (L' := [(50, .seq (.pair tI (.pair (.arr 5 tI) (.arr 5 tI))) r46.2)]) (by kernel_rfl) (by kernel_rfl) ?_
        refine ⟨rfl, ?_⟩
        refine seqQ_norm ?_
        obtain rfl := Option.some.inj h
        refine W_ren 50 899 (by kernel_rfl) ?_
        refine W_ret [6] [899] (fr' := [(6, .one (.slc 899))]) (L' := [(899, .seq (.pair tI (.pair (.arr 5 tI) (.arr 5 tI))) r46.2)]) (by kernel_rfl) (by kernel_rfl) ?_
        exact retQ_mk (by kernel_rfl) (by kernel_rfl) (by kernel_rfl)
theorem wide_build_ok : ∀ {fuel : Nat} {a0 : (List (Int × (Int × Int)))} {a1 : Int} {a2 : (List Int)} {r : (List (Int × ((List Int) × (List Int))))}, wide_build fuel a0 a1 a2 = some r → FnC Try.prog 38 [aD (.slice (.pair tI (.pair tI tI))) a0, aI a1, aD (.arr 5 tI) a2] [] (.one (.slc 899)) [(899, .seq (.pair tI (.pair (.arr 5 tI) (.arr 5 tI))) r)] := by
  intro fuel
  induction fuel with
  | zero => intros a0 a1 a2 r h; cases h
  | succ fuel ih => intros a0 a1 a2 r h; exact wide_build_step_ok (fun h => ih h) (show wide_build_step (wide_build fuel) fuel a0 a1 a2 = some r from h)

def wide_Build (fuel : Nat) (a0 : Int) (a1 : (List (Int × (Int × Int)))) : Option ((List (Int × ((List Int) × (List Int)))) × Int) :=
(gate_Deep a0 a1).bind fun r1 =>
bif r1.2 != (0 : Int) then
(some ([], r1.2))
else
(bif decide (r1.1 > (4 : Int)) then
(some ([], (7 : Int)))
else
((wide_build fuel a1 (w64 ((List.length a1 : Int) - (1 : Int))) [(1 : Int), (2 : Int), (3 : Int), (4 : Int), (0 : Int)]).bind fun r5 =>
some (r5, (0 : Int))))
theorem wide_Build_ok {fuel : Nat} {a0 : Int} {a1 : (List (Int × (Int × Int)))} {r : ((List (Int × ((List Int) × (List Int)))) × Int)} (h : wide_Build fuel a0 a1 = some r) : FnC Try.prog 23 [aI a0, aD (.slice (.pair tI (.pair tI tI))) a1] [] (.tup [.dat (.slice (.pair tI (.pair (.arr 5 tI) (.arr 5 tI)))) r.1, .dat tI r.2]) [] := by
  refine fnC_of_W (B := bodyOf Try.f23) (n := 25) Try.func23 (by kernel_rfl) (by kernel_rfl) (by kernel_rfl) (by kernel_rfl) (by kernel_rfl) ?_
  intro K
  refine W_seq (by kernel_rfl) ?_
  refine W_run 2 [] [0, 1] [] (fr' := [(0, aI a0), (1, aD (.slice (.pair tI (.pair tI tI))) a1)]) (L' := []) (obs := []) (by kernel_rfl) (by kernel_rfl) (by kernel_rfl) allP0 ?_
  refine seqQ_norm ?_
  refine W_seq (by kernel_rfl) ?_
  refine W_region (by kernel_rfl) ?_
  refine WO_run (j := 2) (k := 2) (orcs := []) (kF := [1, 9, 10]) (kL := []) (fr' := [(1, aD (.slice (.pair tI (.pair tI tI))) a1), (9, aI a0), (10, aD (.slice (.pair tI (.pair tI tI))) a1)]) (L' := []) (obs := []) rfl (by kernel_rfl) allP0 ?_
  obtain ⟨r1, h2, h⟩ := bind_of h
  refine WO_call0 (us := [none, none]) (d := 11) (p := True) (j := 3) rfl ⟨by kernel_rfl, by kernel_rfl, by kernel_rfl⟩ trivial (gate_Deep_ok h2) (by kernel_rfl) ?_
  refine WO_run (j := 8) (k := 5) (orcs := []) (kF := [1, 6, 7]) (kL := []) (fr' := [(1, aD (.slice (.pair tI (.pair tI tI))) a1), (6, aI r1.1), (7, aI r1.2)]) (L' := []) (obs := []) rfl (by kernel_rfl) allP0 ?_
  refine WO_fin [1, 6, 7] [] (fr' := [(1, aD (.slice (.pair tI (.pair tI tI))) a1), (6, aI r1.1), (7, aI r1.2)]) (L' := []) (by kernel_rfl) (by kernel_rfl) ?_
  refine seqQ_norm ?_
  refine W_seq (by kernel_rfl) ?_
  refine W_seq (by kernel_rfl) ?_
  refine W_run 2 [] [1, 6, 7, 15] [] (fr' := [(1, aD (.slice (.pair tI (.pair tI tI))) a1), (6, aI r1.1), (7, aI r1.2), (15, aB (r1.2 != (0 : Int)))]) (L' := []) (obs := []) (by kernel_rfl) (by kernel_rfl) (by kernel_rfl) allP0 ?_
  refine seqQ_norm ?_
  refine W_cond (o := .tmp 15) (b := r1.2 != (0 : Int)) (by kernel_rfl) (by kernel_rfl) (fun h3 => ?_) (fun h3 => ?_)
  · replace h := ofT h3 h
    refine W_seq (by kernel_rfl) ?_
    refine W_run 3 [] [4, 5] [] (fr' := [(4, .one (.nilS)), (5, aI r1.2)]) (L' := []) (obs := []) (by kernel_rfl) (by kernel_rfl) (by kernel_rfl) allP0 ?_
    refine seqQ_norm ?_
    obtain rfl := Option.some.inj h
    refine W_cnv 4 (.slice (.pair tI (.pair (.arr 5 tI) (.arr 5 tI)))) (by kernel_rfl) ?_
    refine W_ret [4, 5] [] (fr' := [(4, aD (.slice (.pair tI (.pair (.arr 5 tI) (.arr 5 tI)))) []), (5, aI r1.2)]) (L' := []) (by kernel_rfl) (by kernel_rfl) ?_
    refine seqQ_ret ?_
    exact retQ_mk (by kernel_rfl) (by kernel_rfl) (by kernel_rfl)
  · replace h := ofF h3 h
    refine W_skip [1, 6] [] (fr' := [(1, aD (.slice (.pair tI (.pair tI tI))) a1), (6, aI r1.1)]) (L' := []) (by kernel_rfl) (by kernel_rfl) ?_
    refine seqQ_norm ?_
    refine W_seq (by kernel_rfl) ?_
    refine W_seq (by kernel_rfl) ?_
    refine W_run 2 [] [1, 18] [] (fr' := [(1, aD (.slice (.pair tI (.pair tI tI))) a1), (18, aB (decide (r1.1 > (4 : Int))))]) (L' := []) (obs := []) (by kernel_rfl) (by kernel_rfl) (by kernel_rfl) allP0 ?_
    refine seqQ_norm ?_
    refine W_cond (o := .tmp 18) (b := decide (r1.1 > (4 : Int))) (by kernel_rfl) (by kernel_rfl) (fun h4 => ?_) (fun h4 => ?_)
    · replace h := ofT h4 h
      refine W_seq (by kernel_rfl) ?_
      refine W_run 2 [] [4, 5] [] (fr' := [(4, .one (.nilS)), (5, aI (7 : Int))]) (L' := []) (obs := []) (by kernel_rfl) (by kernel_rfl) (by kernel_rfl) allP0 ?_
      refine seqQ_norm ?_
      obtain rfl := Option.some.inj h
      refine W_cnv 4 (.slice (.pair tI (.pair (.arr 5 tI) (.arr 5 tI)))) (by kernel_rfl) ?_
      refine W_ret [4, 5] [] (fr' := [(4, aD (.slice (.pair tI (.pair (.arr 5 tI) (.arr 5 tI)))) []), (5, aI (7 : Int))]) (L' := []) (by kernel_rfl) (by kernel_rfl) ?_
      refine seqQ_ret ?_
      exact retQ_mk (by kernel_rfl) (by kernel_rfl) (by kernel_rfl)
    · replace h := ofF h4 h
      refine W_skip [1] [] (fr' := [(1, aD (.slice (.pair tI (.pair tI tI))) a1)]) (L' := []) (by kernel_rfl) (by kernel_rfl) ?_
      refine seqQ_norm ?_
      refine W_seq (by kernel_rfl) ?_
      refine W_region (by kernel_rfl) ?_
      refine WO_run (j := 5) (k := 5) (orcs := []) (kF := [19, 22, 23]) (kL := []) (fr' := [(19, aD (.slice (.pair tI (.pair tI tI))) a1), (22, aI (w64 ((List.length a1 : Int) - (1 : Int)))), (23, aD (.arr 5 tI) [(1 : Int), (2 : Int), (3 : Int), (4 : Int), (0 : Int)])]) (L' := []) (obs := []) rfl (by kernel_rfl) allP0 ?_
      obtain ⟨r5, h6, h⟩ := bind_of h
      refine WO_call1 (us := [none, none, none]) (d := 24) (t := 24) (p := True) (j := 6) rfl ⟨by kernel_rfl, by kernel_rfl, by kernel_rfl⟩ trivial (wide_build_ok h6) (by kernel_rfl) ?_
      refine WO_run (j := 8) (k := 2) (orcs := []) (kF := [4, 5]) (kL := [24]) (fr' := [(4, .one (.slc 24)), (5, aI (0 : Int))]) (L' := [(24, .seq (.pair tI (.pair (.arr 5 tI) (.arr 5 tI))) r5)]) (obs := []) rfl (by kernel_rfl) allP0 ?_
      refine WO_fin [4, 5] [24] (fr' := [(4, .one (.slc 24)), (5, aI (0 : Int))]) (L' := [(24, .seq (.pair tI (.pair (.arr 5 tI) (.arr 5 tI))) r5)]) (by kernel_rfl) (by kernel_rfl) ?_
      refine seqQ_norm ?_
      obtain rfl := Option.some.inj h
      refine W_frz 24 (by kernel_rfl) ?_
      refine W_ret [4, 5] [] (fr' := [(4, aD (.slice (.pair tI (.pair (.arr 5 tI) (.arr 5 tI)))) r5), (5, aI (0 : Int))]) (L' := []) (by kernel_rfl) (by kernel_rfl) ?_
      exact retQ_mk (by kernel_rfl) (by kernel_rfl) (by kernel_rfl)

def ref_Bit (a0 : Int) (a1 : Int) : Option Bool :=
bif (decide (a1 ≥ (0 : Int))) && (decide (a1 < (63 : Int))) then
((ck (0 ≤ IntKind.wrap .u64 (a1))).bind fun _ =>
some ((bAnd .i64 a0 (bShl .i64 (1 : Int) (IntKind.wrap .u64 (a1)))) != (0 : Int)))
else
(some false)
theorem ref_Bit_ok {a0 : Int} {a1 : Int} {r : Bool} (h : ref_Bit a0 a1 = some r) : FnC Try.prog 32 [aI a0, aI a1] [] (aB r) [] := by
  refine fnC_of_W (B := bodyOf Try.f32) (n := 19) Try.func32 (by kernel_rfl) (by kernel_rfl) (by kernel_rfl) (by kernel_rfl) (by kernel_rfl) ?_
  intro K
  refine W_seq (by kernel_rfl) ?_
  refine W_run 1 [] [0, 1] [] (fr' := [(0, aI a0), (1, aI a1)]) (L' := []) (obs := []) (by kernel_rfl) (by kernel_rfl) (by kernel_rfl) allP0 ?_
  refine seqQ_norm ?_
  refine W_seq (by kernel_rfl) ?_
  refine W_region (by kernel_rfl) ?_
  refine WO_run (j := 7) (k := 7) (orcs := []) (kF := [0, 1, 11]) (kL := []) (fr' := [(0, aI a0), (1, aI a1), (11, aB ((decide (a1 ≥ (0 : Int))) && (decide (a1 < (63 : Int)))))]) (L' := []) (obs := []) rfl (by kernel_rfl) allP0 ?_
  rcases Bool.eq_false_or_eq_true ((decide (a1 ≥ (0 : Int))) && (decide (a1 < (63 : Int)))) with h1 | h1
  · replace h := ofT h1 h
    obtain ⟨_, h2, h⟩ := bind_of h
    replace h2 := ck_some h2
    refine WO_run (j := 15) (k := 8) (orcs := [(14, .known true), (16, .known true), (18, .known true), (20, .known true), (22, .known true), (24, .known true), (27, .val (.dat .bool true))]) (kF := [4]) (kL := []) (fr' := [(4, aB ((bAnd .i64 a0 (bShl .i64 (1 : Int) (IntKind.wrap .u64 (a1)))) != (0 : Int)))]) (L' := []) (obs := [(((decide (a1 ≥ (0 : Int))) && (decide (a1 < (63 : Int)))) = true), (((decide (a1 ≥ (0 : Int))) && (decide (a1 < (63 : Int)))) = true), (((decide (a1 ≥ (0 : Int))) && (decide (a1 < (63 : Int)))) = true), (((decide (a1 ≥ (0 : Int))) && (decide (a1 < (63 : Int)))) = true), (0 ≤ IntKind.wrap .u64 (a1)), (((decide (a1 ≥ (0 : Int))) && (decide (a1 < (63 : Int)))) = true), (((decide (a1 ≥ (0 : Int))) && (decide (a1 < (63 : Int)))) = true), (((decide (a1 ≥ (0 : Int))) && (decide (a1 < (63 : Int)))) = true)]) rfl (by kernel_rfl) (allP2 h1 (allP2 h1 (allP2 h1 (allP2 h1 (allP2 h2 (allP2 h1 (allP2 h1 (allP1 h1)))))))) ?_
    refine WO_fin [4] [] (fr' := [(4, aB ((bAnd .i64 a0 (bShl .i64 (1 : Int) (IntKind.wrap .u64 (a1)))) != (0 : Int)))]) (L' := []) (by kernel_rfl) (by kernel_rfl) ?_
    refine seqQ_norm ?_
    obtain rfl := Option.some.inj h
    refine W_ret [4] [] (fr' := [(4, aB ((bAnd .i64 a0 (bShl .i64 (1 : Int) (IntKind.wrap .u64 (a1)))) != (0 : Int)))]) (L' := []) (by kernel_rfl) (by kernel_rfl) ?_
    exact retQ_mk (by kernel_rfl) (by kernel_rfl) (by kernel_rfl)
  · replace h := ofF h1 h
    refine WO_run (j := 15) (k := 8) (orcs := [(14, .known false), (16, .known false), (18, .known false), (20, .known false), (22, .known false), (24, .known false), (27, .val (.dat .bool false))]) (kF := [4]) (kL := []) (fr' := [(4, aB false)]) (L' := []) (obs := [(((decide (a1 ≥ (0 : Int))) && (decide (a1 < (63 : Int)))) = false), (((decide (a1 ≥ (0 : Int))) && (decide (a1 < (63 : Int)))) = false), (((decide (a1 ≥ (0 : Int))) && (decide (a1 < (63 : Int)))) = false), (((decide (a1 ≥ (0 : Int))) && (decide (a1 < (63 : Int)))) = false), (((decide (a1 ≥ (0 : Int))) && (decide (a1 < (63 : Int)))) = false), (((decide (a1 ≥ (0 : Int))) && (decide (a1 < (63 : Int)))) = false), (((decide (a1 ≥ (0 : Int))) && (decide (a1 < (63 : Int)))) = false)]) rfl (by kernel_rfl) (allP2 h1 (allP2 h1 (allP2 h1 (allP2 h1 (allP2 h1 (allP2 h1 (allP1 h1))))))) ?_
    refine WO_fin [4] [] (fr' := [(4, aB false)]) (L' := []) (by kernel_rfl) (by kernel_rfl) ?_
    refine seqQ_norm ?_
    obtain rfl := Option.some.inj h
    refine W_ret [4] [] (fr' := [(4, aB false)]) (L' := []) (by kernel_rfl) (by kernel_rfl) ?_
    exact retQ_mk (by kernel_rfl) (by kernel_rfl) (by kernel_rfl)

def ref_Bits_b1 (a1 : Int) (i10 : Int) (x11 : (List Bool)) : Option (Flow (List Bool) (List Bool)) :=
(ref_Bit a1 i10).bind fun r14 =>
(ck ((List.length x11 : Int) + 1 ≤ 4294967296)).bind fun _ =>
some (.next (x11 ++ [r14]))
@[reducible] def ref_Bits_s2 (a0 : Int) (a1 : Int) (v : Int × (List Bool)) : Fr × LL := ([(0, aI a0), (1, aI a1), (5, .one (.slc 17)), (6, aI v.1)], [(17, .seq .bool v.2)])
@[reducible] def ref_Bits_s3 (v : (List Bool)) : Fr × LL := ([(5, .one (.slc 17))], [(17, .seq .bool v)])
def ref_Bits (a0 : Int) (a1 : Int) : Option (List Bool) :=
(forI (0 : Int) a0 (ref_Bits_b1 a1) (fun x11 => x11) []).bind fun v18 =>
some v18
theorem ref_Bits_ok {a0 : Int} {a1 : Int} {r : (List Bool)} (h : ref_Bits a0 a1 = some r) : FnC Try.prog 26 [aI a0, aI a1] [] (aD (.slice .bool) r) [] := by
  refine fnC_of_W (B := bodyOf Try.f26) (n := 19) Try.func26 (by kernel_rfl) (by kernel_rfl) (by kernel_rfl) (by kernel_rfl) (by kernel_rfl) ?_
  intro K
  refine W_seq (by kernel_rfl) ?_
  refine W_run 1 [] [0, 1] [] (fr' := [(0, aI a0), (1, aI a1)]) (L' := []) (obs := []) (by kernel_rfl) (by kernel_rfl) (by kernel_rfl) allP0 ?_
  refine seqQ_norm ?_
  refine W_seq (by kernel_rfl) ?_
  refine W_run 1 [] [0, 1, 5] [] (fr' := [(0, aI a0), (1, aI a1), (5, .one (.nilS))]) (L' := []) (obs := []) (by kernel_rfl) (by kernel_rfl) (by kernel_rfl) allP0 ?_
  refine seqQ_norm ?_
  refine W_seq (by kernel_rfl) ?_
  refine W_seq (by kernel_rfl) ?_
  refine W_run 1 [] [0, 1, 5, 6] [] (fr' := [(0, aI a0), (1, aI a1), (5, .one (.nilS)), (6, aI (0 : Int))]) (L' := []) (obs := []) (by kernel_rfl) (by kernel_rfl) (by kernel_rfl) allP0 ?_
  refine seqQ_norm ?_
  refine W_block (id := 0) (by kernel_rfl) ?_
  obtain ⟨v18, h19, h⟩ := bind_of h
  obtain ⟨h20, h21⟩ := forI_iter h19
  refine W_mine 5 17 .bool (by kernel_rfl) ?_
  refine W_weaken [0, 1, 5, 6] [17] (fr' := ((ref_Bits_s2 a0 a1) ((0 : Int), [])).1) (L' := ((ref_Bits_s2 a0 a1) ((0 : Int), [])).2) (by kernel_rfl) ?_
  refine W_cutK (W_loop (S := (ref_Bits_s2 a0 a1)) (J := (exQ (.exit 0) ref_Bits_s3)) (by kernel_rfl) ?_ h20 _ v18 h21) ?_
  · rintro ⟨i10, x11⟩ s h
    refine W_seq (by kernel_rfl) ?_
    refine W_seq (by kernel_rfl) ?_
    refine W_run 3 [] [0, 1, 5, 6, 9] [17] (fr' := [(0, aI a0), (1, aI a1), (5, .one (.slc 17)), (6, aI i10), (9, aB (decide (i10 < a0)))]) (L' := [(17, .seq .bool x11)]) (obs := []) (by kernel_rfl) (by kernel_rfl) (by kernel_rfl) allP0 ?_
    refine seqQ_norm ?_
    refine W_cond (o := .tmp 9) (b := decide (i10 < a0)) (by kernel_rfl) (by kernel_rfl) (fun h13 => ?_) (fun h13 => ?_)
    · replace h := stepI_true h13 h
      obtain ⟨_, h, rfl⟩ := h
      refine W_skip [0, 1, 5, 6] [17] (fr' := [(0, aI a0), (1, aI a1), (5, .one (.slc 17)), (6, aI i10)]) (L' := [(17, .seq .bool x11)]) (by kernel_rfl) (by kernel_rfl) ?_
      refine seqQ_norm ?_
      refine W_seq (by kernel_rfl) ?_
      refine W_block (id := 1) (by kernel_rfl) ?_
      refine W_region (by kernel_rfl) ?_
      refine WO_run (j := 3) (k := 3) (orcs := []) (kF := [0, 1, 5, 6, 12, 13, 14]) (kL := [17]) (fr' := [(0, aI a0), (1, aI a1), (5, .one (.slc 17)), (6, aI i10), (12, .one (.slc 17)), (13, aI a1), (14, aI i10)]) (L' := [(17, .seq .bool x11)]) (obs := []) rfl (by kernel_rfl) allP0 ?_
      obtain ⟨r14, h15, h⟩ := bind_of h
      refine WO_call0 (us := [none, none]) (d := 15) (p := True) (j := 4) rfl ⟨by kernel_rfl, by kernel_rfl, by kernel_rfl⟩ trivial (ref_Bit_ok h15) (by kernel_rfl) ?_
      obtain ⟨_, h16, h⟩ := bind_of h
      replace h16 := ck_some h16
      refine WO_run (j := 7) (k := 3) (orcs := []) (kF := [0, 1, 5, 6]) (kL := [16, 17]) (fr' := [(0, aI a0), (1, aI a1), (5, .one (.slc 17)), (6, aI i10)]) (L' := [(16, .seq .bool [r14]), (17, .seq .bool (x11 ++ [r14]))]) (obs := [SmallLen (List.length x11 + List.length [r14])]) rfl (by kernel_rfl) (allP1 h16) ?_
      refine WO_fin [0, 1, 5, 6] [17] (fr' := [(0, aI a0), (1, aI a1), (5, .one (.slc 17)), (6, aI i10)]) (L' := [(17, .seq .bool (x11 ++ [r14]))]) (by kernel_rfl) (by kernel_rfl) ?_
      refine blockQ_norm ?_
      refine seqQ_norm ?_
      obtain rfl := Option.some.inj h
      refine W_run 3 [] [0, 1, 5, 6] [17] (fr' := [(0, aI a0), (1, aI a1), (5, .one (.slc 17)), (6, aI (w64 (i10 + (1 : Int))))]) (L' := [(17, .seq .bool (x11 ++ [r14]))]) (obs := []) (by kernel_rfl) (by kernel_rfl) (by kernel_rfl) allP0 ?_
      exact round_next' (by kernel_rfl) (by kernel_rfl)
    · obtain rfl := stepI_false h13 h
      refine W_exit (id := 0) [5] [17] (fr' := [(5, .one (.slc 17))]) (L' := [(17, .seq .bool x11)]) (by kernel_rfl) (by kernel_rfl) ?_
      refine seqQ_exit ?_
      refine round_exit ?_
      exact exQ_mk (by kernel_rfl) (by kernel_rfl)
  · intro e fr L hJ
    obtain ⟨rfl, rfl, rfl⟩ := hJ
    refine LT_keep [5] [17] (fr' := [(5, .one (.slc 17))]) (L' := [(17, .seq .bool v18)]) (by kernel_rfl) ?_
    refine blockQ_hit ?_
    refine seqQ_norm ?_
    refine W_seq (by kernel_rfl) ?_
    refine W_run 2 [] [4] [17] (fr' := [(4, .one (.slc 17))]) (L' := [(17, .seq .bool v18)]) (obs := []) (by kernel_rfl) (by kernel_rfl) (by kernel_rfl) allP0 ?_
    refine seqQ_norm ?_
    obtain rfl := Option.some.inj h
    refine W_frz 17 (by kernel_rfl) ?_
    refine W_ret [4] [] (fr' := [(4, aD (.slice .bool) v18)]) (L' := []) (by kernel_rfl) (by kernel_rfl) ?_
    exact retQ_mk (by kernel_rfl) (by kernel_rfl) (by kernel_rfl)

def wide_is_g5 (x46 : (List Bool)) (v49 : Int) : Option Bool :=
bif (decide (v49 < (0 : Int))) || (decide (v49 > (4 : Int))) then
(some true)
else
((ck (0 ≤ v49 ∧ v49 < 5)).bind fun _ =>
(idx x46 v49).bind fun v61 =>
some v61)
@[reducible] def wide_is_s6 (a0 : (List Int)) (i45 : Int) (x46 : (List Bool)) (v49 : Int) (v : Bool) : Fr × LL := ([(3, .one (.ptr 3 0)), (5, aI v49), (6, aD (.arr 5 tI) a0), (7, aI i45), (20, aB v)], [(3, .one (.arr 5 .bool) x46)])
def wide_is_b7 (a0 : (List Int)) (i45 : Int) (x46 : (List Bool)) : Option (Flow (List Bool) (Esc Bool Unit)) :=
(idx a0 i45).bind fun v49 =>
(wide_is_g5 x46 v49).bind fun v63 =>
bif v63 then
(some (.done (.ret false)))
else
((ck (0 ≤ v49 ∧ v49 < 5)).bind fun _ =>
(idx x46 v49).bind fun v67 =>
some (.next (List.set x46 (Int.toNat v49) true)))
@[reducible] def wide_is_s8 (a0 : (List Int)) (v : Int × (List Bool)) : Fr × LL := ([(3, .one (.ptr 3 0)), (6, aD (.arr 5 tI) a0), (7, aI v.1)], [(3, .one (.arr 5 .bool) v.2)])
@[reducible] def wide_is_s9 (v : Bool) : Fr × LL := ([(2, aB v)], [])
@[reducible] def wide_is_s10 (v : Unit) : Fr × LL := ([], [])
def wide_is (a0 : (List Int)) : Option Bool :=
(forI (0 : Int) (5 : Int) (wide_is_b7 a0) (fun x46 => (.brk ())) [false, false, false, false, false]).bind fun v70 =>
match v70 with
| .ret v74 =>
(some v74)
| .brk v75 =>
(some true)
theorem wide_is_ok {a0 : (List Int)} {r : Bool} (h : wide_is a0 = some r) : FnC Try.prog 34 [aD (.arr 5 tI) a0] [] (aB r) [] := by
  refine fnC_of_W (B := bodyOf Try.f34) (n := 24) Try.func34 (by kernel_rfl) (by kernel_rfl) (by kernel_rfl) (by kernel_rfl) (by kernel_rfl) ?_
  intro K
  refine W_seq (by kernel_rfl) ?_
  refine W_run 2 [] [1] [1] (fr' := [(1, .one (.ptr 1 0))]) (L' := [(1, .one (.arr 5 tI) a0)]) (obs := []) (by kernel_rfl) (by kernel_rfl) (by kernel_rfl) allP0 ?_
  refine seqQ_norm ?_
  refine W_seq (by kernel_rfl) ?_
  refine W_run 1 [(1, .typed)] [1, 3] [1, 3] (fr' := [(1, .one (.ptr 1 0)), (3, .one (.ptr 3 0))]) (L' := [(1, .one (.arr 5 tI) a0), (3, .one (.arr 5 .bool) [false, false, false, false, false])]) (obs := []) (by kernel_rfl) (by kernel_rfl) (by kernel_rfl) allP0 ?_
  refine seqQ_norm ?_
  refine W_seq (by kernel_rfl) ?_
  refine W_seq (by kernel_rfl) ?_
  refine W_run 2 [] [3, 6, 7] [3] (fr' := [(3, .one (.ptr 3 0)), (6, aD (.arr 5 tI) a0), (7, aI (0 : Int))]) (L' := [(3, .one (.arr 5 .bool) [false, false, false, false, false])]) (obs := []) (by kernel_rfl) (by kernel_rfl) (by kernel_rfl) allP0 ?_
  refine seqQ_norm ?_
  refine W_block (id := 0) (by kernel_rfl) ?_
  obtain ⟨v70, h71, h⟩ := bind_of h
  obtain ⟨h72, h73⟩ := forI_iter h71
  refine W_weaken [3, 6, 7] [3] (fr' := ((wide_is_s8 a0) ((0 : Int), [false, false, false, false, false])).1) (L' := ((wide_is_s8 a0) ((0 : Int), [false, false, false, false, false])).2) (by kernel_rfl) ?_
  refine W_cutK (W_loop (S := (wide_is_s8 a0)) (J := (escQ (exQ .ret wide_is_s9) (exQ (.exit 0) wide_is_s10))) (by kernel_rfl) ?_ h72 _ v70 h73) ?_
  · rintro ⟨i45, x46⟩ s h
    refine W_seq (by kernel_rfl) ?_
    refine W_run 1 [] [3, 6, 7, 8] [3] (fr' := [(3, .one (.ptr 3 0)), (6, aD (.arr 5 tI) a0), (7, aI i45), (8, aB (decide (i45 < (5 : Int))))]) (L' := [(3, .one (.arr 5 .bool) x46)]) (obs := []) (by kernel_rfl) (by kernel_rfl) (by kernel_rfl) allP0 ?_
    refine seqQ_norm ?_
    refine W_seq (by kernel_rfl) ?_
    refine W_cond (o := .tmp 8) (b := decide (i45 < (5 : Int))) (by kernel_rfl) (by kernel_rfl) (fun h48 => ?_) (fun h48 => ?_)
    · replace h := stepI_true h48 h
      obtain ⟨_, h, rfl⟩ := h
      refine W_skip [3, 6, 7] [3] (fr' := [(3, .one (.ptr 3 0)), (6, aD (.arr 5 tI) a0), (7, aI i45)]) (L' := [(3, .one (.arr 5 .bool) x46)]) (by kernel_rfl) (by kernel_rfl) ?_
      refine seqQ_norm ?_
      refine W_seq (by kernel_rfl) ?_
      refine W_block (id := 1) (by kernel_rfl) ?_
      refine W_seq (by kernel_rfl) ?_
      obtain ⟨v49, h50, h⟩ := bind_of h
      refine W_run 2 [(1, .val (.dat tI v49))] [3, 5, 6, 7] [3] (fr' := [(3, .one (.ptr 3 0)), (5, aI v49), (6, aD (.arr 5 tI) a0), (7, aI i45)]) (L' := [(3, .one (.arr 5 .bool) x46)]) (obs := [Idx a0 i45 v49]) (by kernel_rfl) (by kernel_rfl) (by kernel_rfl) (allP1 (Idx.of h50)) ?_
      refine seqQ_norm ?_
      refine W_seq (by kernel_rfl) ?_
      refine W_seq (by kernel_rfl) ?_
      obtain ⟨v63, h64, h⟩ := bind_of h
      refine W_cutK (Q' := (exQ .normal (wide_is_s6 a0 i45 x46 v49)) v63) ?_ ?_
      · replace h := h64
        refine W_region (by kernel_rfl) ?_
        refine WO_run (j := 7) (k := 7) (orcs := []) (kF := [3, 5, 6, 7, 16]) (kL := [3]) (fr' := [(3, .one (.ptr 3 0)), (5, aI v49), (6, aD (.arr 5 tI) a0), (7, aI i45), (16, aB ((decide (v49 < (0 : Int))) || (decide (v49 > (4 : Int)))))]) (L' := [(3, .one (.arr 5 .bool) x46)]) (obs := []) rfl (by kernel_rfl) allP0 ?_
        rcases Bool.eq_false_or_eq_true ((decide (v49 < (0 : Int))) || (decide (v49 > (4 : Int)))) with h59 | h59
        · replace h := ofT h59 h
          refine WO_run (j := 11) (k := 4) (orcs := [(14, .known true), (16, .known true), (18, .known true), (21, .val (.dat .bool true))]) (kF := [3, 5, 6, 7, 20]) (kL := [3]) (fr' := [(3, .one (.ptr 3 0)), (5, aI v49), (6, aD (.arr 5 tI) a0), (7, aI i45), (20, aB true)]) (L' := [(3, .one (.arr 5 .bool) x46)]) (obs := [(((decide (v49 < (0 : Int))) || (decide (v49 > (4 : Int)))) = true), (((decide (v49 < (0 : Int))) || (decide (v49 > (4 : Int)))) = true), (((decide (v49 < (0 : Int))) || (decide (v49 > (4 : Int)))) = true), (((decide (v49 < (0 : Int))) || (decide (v49 > (4 : Int)))) = true)]) rfl (by kernel_rfl) (allP2 h59 (allP2 h59 (allP2 h59 (allP1 h59)))) ?_
          obtain rfl := Option.some.inj h
          refine WO_fin [3, 5, 6, 7, 20] [3] (fr' := [(3, .one (.ptr 3 0)), (5, aI v49), (6, aD (.arr 5 tI) a0), (7, aI i45), (20, aB true)]) (L' := [(3, .one (.arr 5 .bool) x46)]) (by kernel_rfl) (by kernel_rfl) ?_
          exact exQ_mk (by kernel_rfl) (by kernel_rfl)
        · replace h := ofF h59 h
          obtain ⟨_, h60, h⟩ := bind_of h
          replace h60 := ck_some h60
          obtain ⟨v61, h62, h⟩ := bind_of h
          refine WO_run (j := 11) (k := 4) (orcs := [(14, .known false), (16, .known false), (18, .known false), (19, .val (.dat .bool v61)), (21, .val (.dat .bool false))]) (kF := [3, 5, 6, 7, 20]) (kL := [3]) (fr' := [(3, .one (.ptr 3 0)), (5, aI v49), (6, aD (.arr 5 tI) a0), (7, aI i45), (20, aB v61)]) (L' := [(3, .one (.arr 5 .bool) x46)]) (obs := [(((decide (v49 < (0 : Int))) || (decide (v49 > (4 : Int)))) = false), (((decide (v49 < (0 : Int))) || (decide (v49 > (4 : Int)))) = false), InR v49 5, (((decide (v49 < (0 : Int))) || (decide (v49 > (4 : Int)))) = false), Idx x46 v49 v61, (((decide (v49 < (0 : Int))) || (decide (v49 > (4 : Int)))) = false)]) rfl (by kernel_rfl) (allP2 h59 (allP2 h59 (allP2 h60 (allP2 h59 (allP2 (Idx.of h62) (allP1 h59)))))) ?_
          obtain rfl := Option.some.inj h
          refine WO_fin [3, 5, 6, 7, 20] [3] (fr' := [(3, .one (.ptr 3 0)), (5, aI v49), (6, aD (.arr 5 tI) a0), (7, aI i45), (20, aB v61)]) (L' := [(3, .one (.arr 5 .bool) x46)]) (by kernel_rfl) (by kernel_rfl) ?_
          exact exQ_mk (by kernel_rfl) (by kernel_rfl)
      · intro e fr L hJ
        obtain ⟨rfl, rfl, rfl⟩ := hJ
        refine LT_keep [3, 5, 6, 7, 20] [3] (fr' := [(3, .one (.ptr 3 0)), (5, aI v49), (6, aD (.arr 5 tI) a0), (7, aI i45), (20, aB v63)]) (L' := [(3, .one (.arr 5 .bool) x46)]) (by kernel_rfl) ?_
        refine seqQ_norm ?_
        refine W_cond (o := .tmp 20) (b := v63) (by kernel_rfl) (by kernel_rfl) (fun h65 => ?_) (fun h65 => ?_)
        · replace h := ofT h65 h
          refine W_seq (by kernel_rfl) ?_
          refine W_run 1 [] [2] [] (fr' := [(2, aB false)]) (L' := []) (obs := []) (by kernel_rfl) (by kernel_rfl) (by kernel_rfl) allP0 ?_
          refine seqQ_norm ?_
          obtain rfl := Option.some.inj h
          refine W_ret [2] [] (fr' := [(2, aB false)]) (L' := []) (by kernel_rfl) (by kernel_rfl) ?_
          refine seqQ_ret ?_
          refine blockQ_ret ?_
          refine seqQ_ret ?_
          refine round_ret ?_
          refine escQ_ret ?_
          exact exQ_mk (by kernel_rfl) (by kernel_rfl)
        · replace h := ofF h65 h
          refine W_skip [3, 5, 6, 7] [3] (fr' := [(3, .one (.ptr 3 0)), (5, aI v49), (6, aD (.arr 5 tI) a0), (7, aI i45)]) (L' := [(3, .one (.arr 5 .bool) x46)]) (by kernel_rfl) (by kernel_rfl) ?_
          refine seqQ_norm ?_
          obtain ⟨_, h66, h⟩ := bind_of h
          replace h66 := ck_some h66
          obtain ⟨v67, h68, h⟩ := bind_of h
          refine W_run 3 [] [3, 6, 7] [3] (fr' := [(3, .one (.ptr 3 0)), (6, aD (.arr 5 tI) a0), (7, aI i45)]) (L' := [(3, .one (.arr 5 .bool) (List.set x46 (Int.toNat v49) true))]) (obs := [InR v49 5, InR v49 (List.length x46)]) (by kernel_rfl) (by kernel_rfl) (by kernel_rfl) (allP2 h66 (allP1 (InR.of h68))) ?_
          refine blockQ_norm ?_
          refine seqQ_norm ?_
          obtain rfl := Option.some.inj h
          refine W_run 2 [] [3, 6, 7] [3] (fr' := [(3, .one (.ptr 3 0)), (6, aD (.arr 5 tI) a0), (7, aI (w64 (i45 + (1 : Int))))]) (L' := [(3, .one (.arr 5 .bool) (List.set x46 (Int.toNat v49) true))]) (obs := []) (by kernel_rfl) (by kernel_rfl) (by kernel_rfl) allP0 ?_
          exact round_next' (by kernel_rfl) (by kernel_rfl)
    · obtain rfl := stepI_false h48 h
      refine W_exit (id := 0) [] [] (fr' := []) (L' := []) (by kernel_rfl) (by kernel_rfl) ?_
      refine seqQ_exit ?_
      refine round_exit ?_
      refine escQ_brk ?_
      exact exQ_mk (by kernel_rfl) (by kernel_rfl)
  · intro e fr L hJ
    rcases v70 with v74 | v75
    · obtain ⟨rfl, rfl, rfl⟩ := hJ
      obtain rfl := Option.some.inj h
      refine LT_keep [2] [] (fr' := [(2, aB v74)]) (L' := []) (by kernel_rfl) ?_
      refine blockQ_ret ?_
      refine seqQ_ret ?_
      exact retQ_mk (by kernel_rfl) (by kernel_rfl) (by kernel_rfl)
    · obtain ⟨rfl, rfl, rfl⟩ := hJ
      refine LT_keep [] [] (fr' := []) (L' := []) (by kernel_rfl) ?_
      refine blockQ_hit ?_
      refine seqQ_norm ?_
      refine W_seq (by kernel_rfl) ?_
      refine W_run 1 [] [2] [] (fr' := [(2, aB true)]) (L' := []) (obs := []) (by kernel_rfl) (by kernel_rfl) (by kernel_rfl) allP0 ?_
      refine seqQ_norm ?_
      obtain rfl := Option.some.inj h
      refine W_ret [2] [] (fr' := [(2, aB true)]) (L' := []) (by kernel_rfl) (by kernel_rfl) ?_
      exact retQ_mk (by kernel_rfl) (by kernel_rfl) (by kernel_rfl)
end Go.Proofs.Ythjdegeajfhakaa.topFive
