/- What the functions that GateBuilds calls compute, as models, and that they compute it: written by a program of mine. -/
import Derived.Test.YthjdegeajfhakaaProg
import Derived.Test.YthjdegeajfhakaaSl5
set_option linter.all false
set_option maxRecDepth 100000
namespace Go.Proofs.Ythjdegeajfhakaa.gateBuilds
open Go Go.Sl
def slices_Index_Lboolbool_b1 (a1 : Bool) (i11 : Int) (v14 : Bool) (x12 : Unit) : Option (Flow Unit (Esc Int Unit)) :=
bif a1 == v14 then
(some (.done (.ret i11)))
else
(some (.next ()))
@[reducible] def slices_Index_Lboolbool_s2 (a0 : (List Bool)) (a1 : Bool) (v : Int × Unit) : Fr × LL := ([(0, aD (.slice .bool) a0), (1, aB a1), (7, aI (List.length a0 : Int)), (8, aI v.1)], [])
@[reducible] def slices_Index_Lboolbool_s3 (v : Int) : Fr × LL := ([(4, aI v)], [])
@[reducible] def slices_Index_Lboolbool_s4 (v : Unit) : Fr × LL := ([], [])
def slices_Index_Lboolbool (a0 : (List Bool)) (a1 : Bool) : Option Int :=
(forL (slices_Index_Lboolbool_b1 a1) (fun x12 => (.brk ())) a0 0 ()).bind fun v19 =>
match v19 with
| .ret v24 =>
(some v24)
| .brk v25 =>
(some (-1 : Int))
theorem slices_Index_Lboolbool_ok {a0 : (List Bool)} {a1 : Bool} {r : Int} (h : slices_Index_Lboolbool a0 a1 = some r) : FnC Try.prog 47 [aD (.slice .bool) a0, aB a1] [] (aI r) [] := by
  refine fnC_of_W (B := bodyOf Try.f47) (n := 19) Try.func47 (by kernel_rfl) (by kernel_rfl) (by kernel_rfl) (by kernel_rfl) (by kernel_rfl) ?_
  intro K
  refine W_seq (by kernel_rfl) ?_
  refine W_run 1 [] [0, 1] [] (fr' := [(0, aD (.slice .bool) a0), (1, aB a1)]) (L' := []) (obs := []) (by kernel_rfl) (by kernel_rfl) (by kernel_rfl) allP0 ?_
  refine seqQ_norm ?_
  refine W_seq (by kernel_rfl) ?_
  refine W_seq (by kernel_rfl) ?_
  refine W_run 3 [] [0, 1, 7, 8] [] (fr' := [(0, aD (.slice .bool) a0), (1, aB a1), (7, aI (List.length a0 : Int)), (8, aI (0 : Int))]) (L' := []) (obs := []) (by kernel_rfl) (by kernel_rfl) (by kernel_rfl) allP0 ?_
  refine seqQ_norm ?_
  refine W_block (id := 0) (by kernel_rfl) ?_
  obtain ⟨v19, h20, h⟩ := bind_of h
  refine W_len (t := 0) (u := .bool) (xs := a0) (by kernel_rfl) (fun h23 => ?_)
  obtain ⟨h21, h22⟩ := forL_iter h23 h20
  refine W_weaken [0, 1, 7, 8] [] (fr' := ((slices_Index_Lboolbool_s2 a0 a1) ((0 : Int), ())).1) (L' := ((slices_Index_Lboolbool_s2 a0 a1) ((0 : Int), ())).2) (by kernel_rfl) ?_
  refine W_cutK (W_loop (S := (slices_Index_Lboolbool_s2 a0 a1)) (J := (escQ (exQ .ret slices_Index_Lboolbool_s3) (exQ (.exit 0) slices_Index_Lboolbool_s4))) (by kernel_rfl) ?_ h21 _ v19 h22) ?_
  · rintro ⟨i11, x12⟩ s h
    refine W_seq (by kernel_rfl) ?_
    refine W_run 1 [] [0, 1, 7, 8, 9] [] (fr' := [(0, aD (.slice .bool) a0), (1, aB a1), (7, aI (List.length a0 : Int)), (8, aI i11), (9, aB (decide (i11 < (List.length a0 : Int))))]) (L' := []) (obs := []) (by kernel_rfl) (by kernel_rfl) (by kernel_rfl) allP0 ?_
    refine seqQ_norm ?_
    refine W_seq (by kernel_rfl) ?_
    refine W_cond (o := .tmp 9) (b := decide (i11 < (List.length a0 : Int))) (by kernel_rfl) (by kernel_rfl) (fun h16 => ?_) (fun h16 => ?_)
    · replace h := stepL_true h16 h
      obtain ⟨v14, _, h15, h, rfl⟩ := h
      refine W_skip [0, 1, 7, 8] [] (fr' := [(0, aD (.slice .bool) a0), (1, aB a1), (7, aI (List.length a0 : Int)), (8, aI i11)]) (L' := []) (by kernel_rfl) (by kernel_rfl) ?_
      refine seqQ_norm ?_
      refine W_seq (by kernel_rfl) ?_
      refine W_block (id := 1) (by kernel_rfl) ?_
      refine W_seq (by kernel_rfl) ?_
      refine W_run 2 [] [0, 1, 5, 7, 8] [] (fr' := [(0, aD (.slice .bool) a0), (1, aB a1), (5, aI i11), (7, aI (List.length a0 : Int)), (8, aI i11)]) (L' := []) (obs := []) (by kernel_rfl) (by kernel_rfl) (by kernel_rfl) allP0 ?_
      refine seqQ_norm ?_
      refine W_seq (by kernel_rfl) ?_
      refine W_run 6 [(7, .val (.dat .bool v14))] [0, 1, 5, 7, 8, 16] [] (fr' := [(0, aD (.slice .bool) a0), (1, aB a1), (5, aI i11), (7, aI (List.length a0 : Int)), (8, aI i11), (16, aB (a1 == v14))]) (L' := []) (obs := [Idx a0 i11 v14]) (by kernel_rfl) (by kernel_rfl) (by kernel_rfl) (allP1 (Idx.of h15)) ?_
      refine seqQ_norm ?_
      refine W_cond (o := .tmp 16) (b := a1 == v14) (by kernel_rfl) (by kernel_rfl) (fun h17 => ?_) (fun h17 => ?_)
      · replace h := ofT h17 h
        refine W_seq (by kernel_rfl) ?_
        refine W_run 2 [] [4] [] (fr' := [(4, aI i11)]) (L' := []) (obs := []) (by kernel_rfl) (by kernel_rfl) (by kernel_rfl) allP0 ?_
        refine seqQ_norm ?_
        obtain rfl := Option.some.inj h
        refine W_ret [4] [] (fr' := [(4, aI i11)]) (L' := []) (by kernel_rfl) (by kernel_rfl) ?_
        refine blockQ_ret ?_
        refine seqQ_ret ?_
        refine round_ret ?_
        refine escQ_ret ?_
        exact exQ_mk (by kernel_rfl) (by kernel_rfl)
      · replace h := ofF h17 h
        refine W_skip [0, 1, 7, 8] [] (fr' := [(0, aD (.slice .bool) a0), (1, aB a1), (7, aI (List.length a0 : Int)), (8, aI i11)]) (L' := []) (by kernel_rfl) (by kernel_rfl) ?_
        refine blockQ_norm ?_
        refine seqQ_norm ?_
        obtain rfl := Option.some.inj h
        refine W_run 2 [] [0, 1, 7, 8] [] (fr' := [(0, aD (.slice .bool) a0), (1, aB a1), (7, aI (List.length a0 : Int)), (8, aI (w64 (i11 + (1 : Int))))]) (L' := []) (obs := []) (by kernel_rfl) (by kernel_rfl) (by kernel_rfl) allP0 ?_
        exact round_next' (by kernel_rfl) (by kernel_rfl)
    · obtain rfl := stepL_false h16 h
      refine W_exit (id := 0) [] [] (fr' := []) (L' := []) (by kernel_rfl) (by kernel_rfl) ?_
      refine seqQ_exit ?_
      refine round_exit ?_
      refine escQ_brk ?_
      exact exQ_mk (by kernel_rfl) (by kernel_rfl)
  · intro e fr L hJ
    rcases v19 with v24 | v25
    · obtain ⟨rfl, rfl, rfl⟩ := hJ
      obtain rfl := Option.some.inj h
      refine LT_keep [4] [] (fr' := [(4, aI v24)]) (L' := []) (by kernel_rfl) ?_
      refine blockQ_ret ?_
      refine seqQ_ret ?_
      exact retQ_mk (by kernel_rfl) (by kernel_rfl) (by kernel_rfl)
    · obtain ⟨rfl, rfl, rfl⟩ := hJ
      refine LT_keep [] [] (fr' := []) (L' := []) (by kernel_rfl) ?_
      refine blockQ_hit ?_
      refine seqQ_norm ?_
      refine W_seq (by kernel_rfl) ?_
      refine W_run 1 [] [4] [] (fr' := [(4, aI (-1 : Int))]) (L' := []) (obs := []) (by kernel_rfl) (by kernel_rfl) (by kernel_rfl) allP0 ?_
      refine seqQ_norm ?_
      obtain rfl := Option.some.inj h
      refine W_ret [4] [] (fr' := [(4, aI (-1 : Int))]) (L' := []) (by kernel_rfl) (by kernel_rfl) ?_
      exact retQ_mk (by kernel_rfl) (by kernel_rfl) (by kernel_rfl)

def slices_Contains_Lboolbool (a0 : (List Bool)) (a1 : Bool) : Option Bool :=
(slices_Index_Lboolbool a0 a1).bind fun r1 =>
some (decide (r1 ≥ (0 : Int)))
theorem slices_Contains_Lboolbool_ok {a0 : (List Bool)} {a1 : Bool} {r : Bool} (h : slices_Contains_Lboolbool a0 a1 = some r) : FnC Try.prog 40 [aD (.slice .bool) a0, aB a1] [] (aB r) [] := by
  refine fnC_of_W (B := bodyOf Try.f40) (n := 9) Try.func40 (by kernel_rfl) (by kernel_rfl) (by kernel_rfl) (by kernel_rfl) (by kernel_rfl) ?_
  intro K
  refine W_seq (by kernel_rfl) ?_
  refine W_run 1 [] [0, 1] [] (fr' := [(0, aD (.slice .bool) a0), (1, aB a1)]) (L' := []) (obs := []) (by kernel_rfl) (by kernel_rfl) (by kernel_rfl) allP0 ?_
  refine seqQ_norm ?_
  refine W_seq (by kernel_rfl) ?_
  refine W_region (by kernel_rfl) ?_
  refine WO_run (j := 2) (k := 2) (orcs := []) (kF := [5, 6]) (kL := []) (fr' := [(5, aD (.slice .bool) a0), (6, aB a1)]) (L' := []) (obs := []) rfl (by kernel_rfl) allP0 ?_
  obtain ⟨r1, h2, h⟩ := bind_of h
  refine WO_call0 (us := [none, none]) (d := 7) (p := True) (j := 3) rfl ⟨by kernel_rfl, by kernel_rfl, by kernel_rfl⟩ trivial (slices_Index_Lboolbool_ok h2) (by kernel_rfl) ?_
  refine WO_run (j := 5) (k := 2) (orcs := []) (kF := [4]) (kL := []) (fr' := [(4, aB (decide (r1 ≥ (0 : Int))))]) (L' := []) (obs := []) rfl (by kernel_rfl) allP0 ?_
  refine WO_fin [4] [] (fr' := [(4, aB (decide (r1 ≥ (0 : Int))))]) (L' := []) (by kernel_rfl) (by kernel_rfl) ?_
  refine seqQ_norm ?_
  obtain rfl := Option.some.inj h
  refine W_ret [4] [] (fr' := [(4, aB (decide (r1 ≥ (0 : Int))))]) (L' := []) (by kernel_rfl) (by kernel_rfl) ?_
  exact retQ_mk (by kernel_rfl) (by kernel_rfl) (by kernel_rfl)

def gate_Maker_Put_i2_g1 (a1 : Int) (a2 : Int) (a3 : Int) (c0 : (List (Int × (Int × Int)))) (v4 : (Option (List ((Int × (Int × Int)) × Int)))) : Option (Int × (List (Int × (Int × Int))) × (Option (List ((Int × (Int × Int)) × Int)))) :=
bif !(Option.isSome (mGet (deqT (.pair tI (.pair tI tI))) (Option.getD v4 []) (a1, a2, a3))) then
((ck ((List.length c0 : Int) + 1 ≤ 4294967296)).bind fun _ =>
(ck (Option.isSome v4 = true)).bind fun _ =>
some ((List.length c0 : Int), c0 ++ [(a1, a2, a3)], Option.map (fun l => mPut (deqT (.pair tI (.pair tI tI))) l (a1, a2, a3) (List.length c0 : Int)) v4))
else
(some (Option.getD (mGet (deqT (.pair tI (.pair tI tI))) (Option.getD v4 []) (a1, a2, a3)) (0 : Int), c0, v4))
@[reducible] def gate_Maker_Put_i2_s2 (v : (Int × (List (Int × (Int × Int))) × (Option (List ((Int × (Int × Int)) × Int))))) : Fr × LL := ([(10, aI v.1)], [(1000, .cells [.slc 2001, .slc 2002]), (2001, .seq (.pair tI (.pair tI tI)) v.2.1), (2002, .map (.pair tI (.pair tI tI)) tI v.2.2)])
@[reducible] def gate_Maker_Put_i2_s3 (a1 : Int) (a2 : Int) (a3 : Int) (c0 : (List (Int × (Int × Int)))) (v : (Option (List ((Int × (Int × Int)) × Int)))) : Fr × LL := ([(0, .one (.ptr 1000 0)), (9, .one (.ptr 9 0))], [(1000, .cells [.slc 2001, .slc 2002]), (9, .one (.pair tI (.pair tI tI)) (a1, a2, a3)), (2001, .seq (.pair tI (.pair tI tI)) c0), (2002, .map (.pair tI (.pair tI tI)) tI v)])
def gate_Maker_Put_i2 (a1 : Int) (a2 : Int) (a3 : Int) (c0 : (List (Int × (Int × Int)))) (c1 : (Option (List ((Int × (Int × Int)) × Int)))) : Option (Int × (List (Int × (Int × Int))) × (Option (List ((Int × (Int × Int)) × Int)))) :=
(bif Option.isNone c1 then
(some (some [] : Option (List ((Int × (Int × Int)) × Int))))
else
(some c1)).bind fun v4 =>
(gate_Maker_Put_i2_g1 a1 a2 a3 c0 v4).bind fun v15 =>
some (v15.1, v15.2.1, v15.2.2)
theorem gate_Maker_Put_i2_ok {a1 : Int} {a2 : Int} {a3 : Int} {c0 : (List (Int × (Int × Int)))} {c1 : (Option (List ((Int × (Int × Int)) × Int)))} {r : (Int × (List (Int × (Int × Int))) × (Option (List ((Int × (Int × Int)) × Int))))} (h : gate_Maker_Put_i2 a1 a2 a3 c0 c1 = some r) : FnC Try.prog 30 [.one (.ptr 1000 0), aI a1, aI a2, aI a3] [(1000, .cells [.slc 2001, .slc 2002]), (2001, .seq (.pair tI (.pair tI tI)) c0), (2002, .map (.pair tI (.pair tI tI)) tI c1)] (aI r.1) [(1000, .cells [.slc 2001, .slc 2002]), (2001, .seq (.pair tI (.pair tI tI)) r.2.1), (2002, .map (.pair tI (.pair tI tI)) tI r.2.2)] := by
  refine fnC_of_W (B := bodyOf Try.f30) (n := 58) Try.func30 (by kernel_rfl) (by kernel_rfl) (by kernel_rfl) (by kernel_rfl) (by kernel_rfl) ?_
  intro K
  refine W_seq (by kernel_rfl) ?_
  refine W_run 1 [] [0, 1, 2, 3] [1000, 2001, 2002] (fr' := [(0, .one (.ptr 1000 0)), (1, aI a1), (2, aI a2), (3, aI a3)]) (L' := [(1000, .cells [.slc 2001, .slc 2002]), (2001, .seq (.pair tI (.pair tI tI)) c0), (2002, .map (.pair tI (.pair tI tI)) tI c1)]) (obs := []) (by kernel_rfl) (by kernel_rfl) (by kernel_rfl) allP0 ?_
  refine seqQ_norm ?_
  refine W_seq (by kernel_rfl) ?_
  refine W_run 6 [(9, .typed)] [0, 9] [1000, 9, 2001, 2002] (fr' := [(0, .one (.ptr 1000 0)), (9, .one (.ptr 9 0))]) (L' := [(1000, .cells [.slc 2001, .slc 2002]), (9, .one (.pair tI (.pair tI tI)) (a1, a2, a3)), (2001, .seq (.pair tI (.pair tI tI)) c0), (2002, .map (.pair tI (.pair tI tI)) tI c1)]) (obs := [True]) (by kernel_rfl) (by kernel_rfl) (by kernel_rfl) (allP1 trivial) ?_
  refine seqQ_norm ?_
  refine W_seq (by kernel_rfl) ?_
  obtain ⟨v4, h5, h⟩ := bind_of h
  refine W_cutK (Q' := (exQ .normal (gate_Maker_Put_i2_s3 a1 a2 a3 c0)) v4) ?_ ?_
  · replace h := h5
    refine W_seq (by kernel_rfl) ?_
    refine W_run 5 [] [0, 9, 20] [1000, 9, 2001, 2002] (fr' := [(0, .one (.ptr 1000 0)), (9, .one (.ptr 9 0)), (20, aB (Option.isNone c1))]) (L' := [(1000, .cells [.slc 2001, .slc 2002]), (9, .one (.pair tI (.pair tI tI)) (a1, a2, a3)), (2001, .seq (.pair tI (.pair tI tI)) c0), (2002, .map (.pair tI (.pair tI tI)) tI c1)]) (obs := []) (by kernel_rfl) (by kernel_rfl) (by kernel_rfl) allP0 ?_
    refine seqQ_norm ?_
    refine W_cond (o := .tmp 20) (b := Option.isNone c1) (by kernel_rfl) (by kernel_rfl) (fun h3 => ?_) (fun h3 => ?_)
    · replace h := ofT h3 h
      refine W_region (by kernel_rfl) ?_
      refine WO_run (j := 5) (k := 5) (orcs := []) (kF := [0, 9]) (kL := [9, 22, 1000, 2001, 2002]) (fr' := [(0, .one (.ptr 1000 0)), (9, .one (.ptr 9 0))]) (L' := [(9, .one (.pair tI (.pair tI tI)) (a1, a2, a3)), (22, .map (.pair tI (.pair tI tI)) tI (some [] : Option (List ((Int × (Int × Int)) × Int)))), (1000, .cells [.slc 2001, .slc 22]), (2001, .seq (.pair tI (.pair tI tI)) c0), (2002, .map (.pair tI (.pair tI tI)) tI c1)]) (obs := [True]) rfl (by kernel_rfl) (allP1 trivial) ?_
      obtain rfl := Option.some.inj h
      refine WO_ren 22 2002 (by kernel_rfl) ?_
      refine WO_fin [0, 9] [1000, 9, 2001, 2002] (fr' := [(0, .one (.ptr 1000 0)), (9, .one (.ptr 9 0))]) (L' := [(1000, .cells [.slc 2001, .slc 2002]), (9, .one (.pair tI (.pair tI tI)) (a1, a2, a3)), (2001, .seq (.pair tI (.pair tI tI)) c0), (2002, .map (.pair tI (.pair tI tI)) tI (some [] : Option (List ((Int × (Int × Int)) × Int))))]) (by kernel_rfl) (by kernel_rfl) ?_
      exact exQ_mk (by kernel_rfl) (by kernel_rfl)
    · replace h := ofF h3 h
      obtain rfl := Option.some.inj h
      refine W_skip [0, 9] [1000, 9, 2001, 2002] (fr' := [(0, .one (.ptr 1000 0)), (9, .one (.ptr 9 0))]) (L' := [(1000, .cells [.slc 2001, .slc 2002]), (9, .one (.pair tI (.pair tI tI)) (a1, a2, a3)), (2001, .seq (.pair tI (.pair tI tI)) c0), (2002, .map (.pair tI (.pair tI tI)) tI c1)]) (by kernel_rfl) (by kernel_rfl) ?_
      exact exQ_mk (by kernel_rfl) (by kernel_rfl)
  · intro e fr L hJ
    obtain ⟨rfl, rfl, rfl⟩ := hJ
    refine LT_keep [0, 9] [1000, 9, 2001, 2002] (fr' := [(0, .one (.ptr 1000 0)), (9, .one (.ptr 9 0))]) (L' := [(1000, .cells [.slc 2001, .slc 2002]), (9, .one (.pair tI (.pair tI tI)) (a1, a2, a3)), (2001, .seq (.pair tI (.pair tI tI)) c0), (2002, .map (.pair tI (.pair tI tI)) tI v4)]) (by kernel_rfl) ?_
    refine seqQ_norm ?_
    refine W_seq (by kernel_rfl) ?_
    refine W_draw2 10 [] [] [0, 9, 10, 11] [1000, 9, 2001, 2002] (fr' := [(0, .one (.ptr 1000 0)), (9, .one (.ptr 9 0)), (10, aI (Option.getD (mGet (deqT (.pair tI (.pair tI tI))) (Option.getD v4 []) (a1, a2, a3)) (0 : Int))), (11, aB (Option.isSome (mGet (deqT (.pair tI (.pair tI tI))) (Option.getD v4 []) (a1, a2, a3))))]) (L' := [(1000, .cells [.slc 2001, .slc 2002]), (9, .one (.pair tI (.pair tI tI)) (a1, a2, a3)), (2001, .seq (.pair tI (.pair tI tI)) c0), (2002, .map (.pair tI (.pair tI tI)) tI v4)]) (out := [(26, .one (.ptr 1000 0)), (27, .one (.ptr 1000 0)), (28, .one (.ptr 1000 1)), (29, .one (.slc 2002)), (30, aD (.pair tI (.pair tI tI)) (a1, a2, a3)), (31, .tup [.dat tI (Option.getD (mGet (deqT (.pair tI (.pair tI tI))) (Option.getD v4 []) (a1, a2, a3)) (0 : Int)), .dat .bool (Option.isSome (mGet (deqT (.pair tI (.pair tI tI))) (Option.getD v4 []) (a1, a2, a3)))]), (25, .tup [.dat tI (Option.getD (mGet (deqT (.pair tI (.pair tI tI))) (Option.getD v4 []) (a1, a2, a3)) (0 : Int)), .dat .bool (Option.isSome (mGet (deqT (.pair tI (.pair tI tI))) (Option.getD v4 []) (a1, a2, a3)))]), (32, aI (Option.getD (mGet (deqT (.pair tI (.pair tI tI))) (Option.getD v4 []) (a1, a2, a3)) (0 : Int))), (33, aB (Option.isSome (mGet (deqT (.pair tI (.pair tI tI))) (Option.getD v4 []) (a1, a2, a3)))), (10, aI (Option.getD (mGet (deqT (.pair tI (.pair tI tI))) (Option.getD v4 []) (a1, a2, a3)) (0 : Int)))]) (obs := []) (obs2 := []) (calls := []) (by kernel_rfl) (by kernel_rfl) (by kernel_rfl) (by kernel_rfl) allP0 allC0 (by kernel_rfl) allP0 ?_
    refine seqQ_norm ?_
    refine W_seq (by kernel_rfl) ?_
    obtain ⟨v15, h16, h⟩ := bind_of h
    refine W_cutK (Q' := (exQ .normal gate_Maker_Put_i2_s2) v15) ?_ ?_
    · replace h := h16
      refine W_seq (by kernel_rfl) ?_
      refine W_run 2 [] [0, 9, 10, 35] [1000, 9, 2001, 2002] (fr' := [(0, .one (.ptr 1000 0)), (9, .one (.ptr 9 0)), (10, aI (Option.getD (mGet (deqT (.pair tI (.pair tI tI))) (Option.getD v4 []) (a1, a2, a3)) (0 : Int))), (35, aB (!(Option.isSome (mGet (deqT (.pair tI (.pair tI tI))) (Option.getD v4 []) (a1, a2, a3)))))]) (L' := [(1000, .cells [.slc 2001, .slc 2002]), (9, .one (.pair tI (.pair tI tI)) (a1, a2, a3)), (2001, .seq (.pair tI (.pair tI tI)) c0), (2002, .map (.pair tI (.pair tI tI)) tI v4)]) (obs := []) (by kernel_rfl) (by kernel_rfl) (by kernel_rfl) allP0 ?_
      refine seqQ_norm ?_
      refine W_cond (o := .tmp 35) (b := !(Option.isSome (mGet (deqT (.pair tI (.pair tI tI))) (Option.getD v4 []) (a1, a2, a3)))) (by kernel_rfl) (by kernel_rfl) (fun h12 => ?_) (fun h12 => ?_)
      · replace h := ofT h12 h
        refine W_seq (by kernel_rfl) ?_
        refine W_run 6 [] [0, 9, 10] [1000, 9, 2001, 2002] (fr' := [(0, .one (.ptr 1000 0)), (9, .one (.ptr 9 0)), (10, aI (List.length c0 : Int))]) (L' := [(1000, .cells [.slc 2001, .slc 2002]), (9, .one (.pair tI (.pair tI tI)) (a1, a2, a3)), (2001, .seq (.pair tI (.pair tI tI)) c0), (2002, .map (.pair tI (.pair tI tI)) tI v4)]) (obs := []) (by kernel_rfl) (by kernel_rfl) (by kernel_rfl) allP0 ?_
        refine seqQ_norm ?_
        refine W_seq (by kernel_rfl) ?_
        obtain ⟨_, h13, h⟩ := bind_of h
        replace h13 := ck_some h13
        refine W_draw5 7 [0] [] [] [0, 9, 10] [1000, 9, 2001, 2002] (fr' := [(0, .one (.ptr 1000 0)), (9, .one (.ptr 9 0)), (10, aI (List.length c0 : Int))]) (L' := [(1000, .cells [.slc 2001, .slc 2002]), (9, .one (.pair tI (.pair tI tI)) (a1, a2, a3)), (2001, .seq (.pair tI (.pair tI tI)) (c0 ++ [(a1, a2, a3)])), (2002, .map (.pair tI (.pair tI tI)) tI v4)]) (out := [(41, .one (.ptr 1000 0)), (42, .one (.ptr 1000 0)), (43, .one (.ptr 1000 0)), (44, .one (.ptr 1000 0)), (45, .one (.slc 2001)), (46, aD (.pair tI (.pair tI tI)) (a1, a2, a3)), (47, aD (.slice (.pair tI (.pair tI tI))) [(a1, a2, a3)])]) (obs := [True]) (obs2 := [SmallLen (List.length c0 + List.length [(a1, a2, a3)]), True]) (calls := []) (by kernel_rfl) (by kernel_rfl) (by kernel_rfl) (by kernel_rfl) (allP1 trivial) allD0 (by kernel_rfl) (allP2 h13 (allP1 trivial)) ?_
        refine seqQ_norm ?_
        obtain ⟨_, h14, h⟩ := bind_of h
        replace h14 := ck_some h14
        obtain rfl := Option.some.inj h
        refine W_draw2 6 [] [] [10] [1000, 2001, 2002] (fr' := [(10, aI (List.length c0 : Int))]) (L' := [(1000, .cells [.slc 2001, .slc 2002]), (2001, .seq (.pair tI (.pair tI tI)) (c0 ++ [(a1, a2, a3)])), (2002, .map (.pair tI (.pair tI tI)) tI (Option.map (fun l => mPut (deqT (.pair tI (.pair tI tI))) l (a1, a2, a3) (List.length c0 : Int)) v4))]) (out := [(51, .one (.ptr 1000 0)), (52, .one (.ptr 1000 0)), (53, .one (.ptr 1000 1)), (54, .one (.slc 2002)), (55, aD (.pair tI (.pair tI tI)) (a1, a2, a3)), (56, aI (List.length c0 : Int))]) (obs := []) (obs2 := [Option.isSome v4 = true]) (calls := []) (by kernel_rfl) (by kernel_rfl) (by kernel_rfl) (by kernel_rfl) allP0 allC0 (by kernel_rfl) (allP1 h14) ?_
        exact exQ_mk (by kernel_rfl) (by kernel_rfl)
      · replace h := ofF h12 h
        obtain rfl := Option.some.inj h
        refine W_skip [10] [1000, 2001, 2002] (fr' := [(10, aI (Option.getD (mGet (deqT (.pair tI (.pair tI tI))) (Option.getD v4 []) (a1, a2, a3)) (0 : Int)))]) (L' := [(1000, .cells [.slc 2001, .slc 2002]), (2001, .seq (.pair tI (.pair tI tI)) c0), (2002, .map (.pair tI (.pair tI tI)) tI v4)]) (by kernel_rfl) (by kernel_rfl) ?_
        exact exQ_mk (by kernel_rfl) (by kernel_rfl)
    · intro e fr L hJ
      obtain ⟨rfl, rfl, rfl⟩ := hJ
      refine LT_keep [10] [1000, 2001, 2002] (fr' := [(10, aI v15.1)]) (L' := [(1000, .cells [.slc 2001, .slc 2002]), (2001, .seq (.pair tI (.pair tI tI)) v15.2.1), (2002, .map (.pair tI (.pair tI tI)) tI v15.2.2)]) (by kernel_rfl) ?_
      refine seqQ_norm ?_
      refine W_seq (by kernel_rfl) ?_
      refine W_run 2 [] [8] [1000, 2001, 2002] (fr' := [(8, aI v15.1)]) (L' := [(1000, .cells [.slc 2001, .slc 2002]), (2001, .seq (.pair tI (.pair tI tI)) v15.2.1), (2002, .map (.pair tI (.pair tI tI)) tI v15.2.2)]) (obs := []) (by kernel_rfl) (by kernel_rfl) (by kernel_rfl) allP0 ?_
      refine seqQ_norm ?_
      obtain rfl := Option.some.inj h
      refine W_ret [8] [1000, 2001, 2002] (fr' := [(8, aI v15.1)]) (L' := [(1000, .cells [.slc 2001, .slc 2002]), (2001, .seq (.pair tI (.pair tI tI)) v15.2.1), (2002, .map (.pair tI (.pair tI tI)) tI v15.2.2)]) (by kernel_rfl) (by kernel_rfl) ?_
      exact retQ_mk (by kernel_rfl) (by kernel_rfl) (by kernel_rfl)

def gate_Maker_constant_i2 (a1 : Bool) (c0 : (List (Int × (Int × Int)))) (c1 : (Option (List ((Int × (Int × Int)) × Int)))) : Option (Int × (List (Int × (Int × Int))) × (Option (List ((Int × (Int × Int)) × Int)))) :=
(gate_Maker_Put_i2 (1 : Int) (0 : Int) (0 : Int) c0 c1).bind fun r1 =>
(gate_Maker_Put_i2 (2 : Int) r1.1 (0 : Int) r1.2.1 r1.2.2).bind fun r3 =>
bif a1 then
((gate_Maker_Put_i2 (4 : Int) r1.1 r3.1 r3.2.1 r3.2.2).bind fun r6 =>
some (r6.1, r6.2.1, r6.2.2))
else
((gate_Maker_Put_i2 (3 : Int) r1.1 r3.1 r3.2.1 r3.2.2).bind fun r8 =>
some (r8.1, r8.2.1, r8.2.2))
theorem gate_Maker_constant_i2_ok {a1 : Bool} {c0 : (List (Int × (Int × Int)))} {c1 : (Option (List ((Int × (Int × Int)) × Int)))} {r : (Int × (List (Int × (Int × Int))) × (Option (List ((Int × (Int × Int)) × Int))))} (h : gate_Maker_constant_i2 a1 c0 c1 = some r) : FnC Try.prog 41 [.one (.ptr 1000 0), aB a1] [(1000, .cells [.slc 2001, .slc 2002]), (2001, .seq (.pair tI (.pair tI tI)) c0), (2002, .map (.pair tI (.pair tI tI)) tI c1)] (aI r.1) [(1000, .cells [.slc 2001, .slc 2002]), (2001, .seq (.pair tI (.pair tI tI)) r.2.1), (2002, .map (.pair tI (.pair tI tI)) tI r.2.2)] := by
  refine fnC_of_W (B := bodyOf Try.f41) (n := 21) Try.func41 (by kernel_rfl) (by kernel_rfl) (by kernel_rfl) (by kernel_rfl) (by kernel_rfl) ?_
  intro K
  refine W_seq (by kernel_rfl) ?_
  refine W_run 1 [] [0, 1] [1000, 2001, 2002] (fr' := [(0, .one (.ptr 1000 0)), (1, aB a1)]) (L' := [(1000, .cells [.slc 2001, .slc 2002]), (2001, .seq (.pair tI (.pair tI tI)) c0), (2002, .map (.pair tI (.pair tI tI)) tI c1)]) (obs := []) (by kernel_rfl) (by kernel_rfl) (by kernel_rfl) allP0 ?_
  refine seqQ_norm ?_
  refine W_seq (by kernel_rfl) ?_
  refine W_region (by kernel_rfl) ?_
  refine WO_run (j := 1) (k := 1) (orcs := []) (kF := [0, 1, 7]) (kL := [1000, 2001, 2002]) (fr' := [(0, .one (.ptr 1000 0)), (1, aB a1), (7, .one (.ptr 1000 0))]) (L' := [(1000, .cells [.slc 2001, .slc 2002]), (2001, .seq (.pair tI (.pair tI tI)) c0), (2002, .map (.pair tI (.pair tI tI)) tI c1)]) (obs := []) rfl (by kernel_rfl) allP0 ?_
  obtain ⟨r1, h2, h⟩ := bind_of h
  refine WO_lend2 [(1000, 1000), (2001, 2001), (2002, 2002)] (us := [none, none, none, none]) (d := 8) (p := True) (j := 2) rfl ⟨by kernel_rfl, by kernel_rfl, by kernel_rfl⟩ trivial (gate_Maker_Put_i2_ok h2) (by kernel_rfl) (by kernel_rfl) ?_
  refine WO_run (j := 3) (k := 1) (orcs := []) (kF := [0, 1, 5]) (kL := [1000, 2001, 2002]) (fr' := [(0, .one (.ptr 1000 0)), (1, aB a1), (5, aI r1.1)]) (L' := [(1000, .cells [.slc 2001, .slc 2002]), (2001, .seq (.pair tI (.pair tI tI)) r1.2.1), (2002, .map (.pair tI (.pair tI tI)) tI r1.2.2)]) (obs := []) rfl (by kernel_rfl) allP0 ?_
  refine WO_fin [0, 1, 5] [1000, 2001, 2002] (fr' := [(0, .one (.ptr 1000 0)), (1, aB a1), (5, aI r1.1)]) (L' := [(1000, .cells [.slc 2001, .slc 2002]), (2001, .seq (.pair tI (.pair tI tI)) r1.2.1), (2002, .map (.pair tI (.pair tI tI)) tI r1.2.2)]) (by kernel_rfl) (by kernel_rfl) ?_
  refine seqQ_norm ?_
  refine W_seq (by kernel_rfl) ?_
  refine W_region (by kernel_rfl) ?_
  refine WO_run (j := 2) (k := 2) (orcs := []) (kF := [0, 1, 5, 9, 10]) (kL := [1000, 2001, 2002]) (fr' := [(0, .one (.ptr 1000 0)), (1, aB a1), (5, aI r1.1), (9, .one (.ptr 1000 0)), (10, aI r1.1)]) (L' := [(1000, .cells [.slc 2001, .slc 2002]), (2001, .seq (.pair tI (.pair tI tI)) r1.2.1), (2002, .map (.pair tI (.pair tI tI)) tI r1.2.2)]) (obs := []) rfl (by kernel_rfl) allP0 ?_
  obtain ⟨r3, h4, h⟩ := bind_of h
  refine WO_lend2 [(1000, 1000), (2001, 2001), (2002, 2002)] (us := [none, none, none, none]) (d := 11) (p := True) (j := 3) rfl ⟨by kernel_rfl, by kernel_rfl, by kernel_rfl⟩ trivial (gate_Maker_Put_i2_ok h4) (by kernel_rfl) (by kernel_rfl) ?_
  refine WO_run (j := 4) (k := 1) (orcs := []) (kF := [0, 1, 5, 6]) (kL := [1000, 2001, 2002]) (fr' := [(0, .one (.ptr 1000 0)), (1, aB a1), (5, aI r1.1), (6, aI r3.1)]) (L' := [(1000, .cells [.slc 2001, .slc 2002]), (2001, .seq (.pair tI (.pair tI tI)) r3.2.1), (2002, .map (.pair tI (.pair tI tI)) tI r3.2.2)]) (obs := []) rfl (by kernel_rfl) allP0 ?_
  refine WO_fin [0, 1, 5, 6] [1000, 2001, 2002] (fr' := [(0, .one (.ptr 1000 0)), (1, aB a1), (5, aI r1.1), (6, aI r3.1)]) (L' := [(1000, .cells [.slc 2001, .slc 2002]), (2001, .seq (.pair tI (.pair tI tI)) r3.2.1), (2002, .map (.pair tI (.pair tI tI)) tI r3.2.2)]) (by kernel_rfl) (by kernel_rfl) ?_
  refine seqQ_norm ?_
  refine W_seq (by kernel_rfl) ?_
  refine W_seq (by kernel_rfl) ?_
  refine W_run 1 [] [0, 5, 6, 12] [1000, 2001, 2002] (fr' := [(0, .one (.ptr 1000 0)), (5, aI r1.1), (6, aI r3.1), (12, aB a1)]) (L' := [(1000, .cells [.slc 2001, .slc 2002]), (2001, .seq (.pair tI (.pair tI tI)) r3.2.1), (2002, .map (.pair tI (.pair tI tI)) tI r3.2.2)]) (obs := []) (by kernel_rfl) (by kernel_rfl) (by kernel_rfl) allP0 ?_
  refine seqQ_norm ?_
  refine W_cond (o := .tmp 12) (b := a1) (by kernel_rfl) (by kernel_rfl) (fun h5 => ?_) (fun h5 => ?_)
  · replace h := ofT h5 h
    refine W_seq (by kernel_rfl) ?_
    refine W_region (by kernel_rfl) ?_
    refine WO_run (j := 3) (k := 3) (orcs := []) (kF := [13, 14, 15]) (kL := [1000, 2001, 2002]) (fr' := [(13, .one (.ptr 1000 0)), (14, aI r1.1), (15, aI r3.1)]) (L' := [(1000, .cells [.slc 2001, .slc 2002]), (2001, .seq (.pair tI (.pair tI tI)) r3.2.1), (2002, .map (.pair tI (.pair tI tI)) tI r3.2.2)]) (obs := []) rfl (by kernel_rfl) allP0 ?_
    obtain ⟨r6, h7, h⟩ := bind_of h
    refine WO_lend2 [(1000, 1000), (2001, 2001), (2002, 2002)] (us := [none, none, none, none]) (d := 16) (p := True) (j := 4) rfl ⟨by kernel_rfl, by kernel_rfl, by kernel_rfl⟩ trivial (gate_Maker_Put_i2_ok h7) (by kernel_rfl) (by kernel_rfl) ?_
    refine WO_run (j := 5) (k := 1) (orcs := []) (kF := [4]) (kL := [1000, 2001, 2002]) (fr' := [(4, aI r6.1)]) (L' := [(1000, .cells [.slc 2001, .slc 2002]), (2001, .seq (.pair tI (.pair tI tI)) r6.2.1), (2002, .map (.pair tI (.pair tI tI)) tI r6.2.2)]) (obs := []) rfl (by kernel_rfl) allP0 ?_
    refine WO_fin [4] [1000, 2001, 2002] (fr' := [(4, aI r6.1)]) (L' := [(1000, .cells [.slc 2001, .slc 2002]), (2001, .seq (.pair tI (.pair tI tI)) r6.2.1), (2002, .map (.pair tI (.pair tI tI)) tI r6.2.2)]) (by kernel_rfl) (by kernel_rfl) ?_
    refine seqQ_norm ?_
    obtain rfl := Option.some.inj h
    refine W_ret [4] [1000, 2001, 2002] (fr' := [(4, aI r6.1)]) (L' := [(1000, .cells [.slc 2001, .slc 2002]), (2001, .seq (.pair tI (.pair tI tI)) r6.2.1), (2002, .map (.pair tI (.pair tI tI)) tI r6.2.2)]) (by kernel_rfl) (by kernel_rfl) ?_
    refine seqQ_ret ?_
    exact retQ_mk (by kernel_rfl) (by kernel_rfl) (by kernel_rfl)
  · replace h := ofF h5 h
    refine W_skip [0, 5, 6] [1000, 2001, 2002] (fr' := [(0, .one (.ptr 1000 0)), (5, aI r1.1), (6, aI r3.1)]) (L' := [(1000, .cells [.slc 2001, .slc 2002]), (2001, .seq (.pair tI (.pair tI tI)) r3.2.1), (2002, .map (.pair tI (.pair tI tI)) tI r3.2.2)]) (by kernel_rfl) (by kernel_rfl) ?_
    refine seqQ_norm ?_
    refine W_seq (by kernel_rfl) ?_
    refine W_region (by kernel_rfl) ?_
    refine WO_run (j := 3) (k := 3) (orcs := []) (kF := [17, 18, 19]) (kL := [1000, 2001, 2002]) (fr' := [(17, .one (.ptr 1000 0)), (18, aI r1.1), (19, aI r3.1)]) (L' := [(1000, .cells [.slc 2001, .slc 2002]), (2001, .seq (.pair tI (.pair tI tI)) r3.2.1), (2002, .map (.pair tI (.pair tI tI)) tI r3.2.2)]) (obs := []) rfl (by kernel_rfl) allP0 ?_
    obtain ⟨r8, h9, h⟩ := bind_of h
    refine WO_lend2 [(1000, 1000), (2001, 2001), (2002, 2002)] (us := [none, none, none, none]) (d := 20) (p := True) (j := 4) rfl ⟨by kernel_rfl, by kernel_rfl, by kernel_rfl⟩ trivial (gate_Maker_Put_i2_ok h9) (by kernel_rfl) (by kernel_rfl) ?_
    refine WO_run (j := 5) (k := 1) (orcs := []) (kF := [4]) (kL := [1000, 2001, 2002]) (fr' := [(4, aI r8.1)]) (L' := [(1000, .cells [.slc 2001, .slc 2002]), (2001, .seq (.pair tI (.pair tI tI)) r8.2.1), (2002, .map (.pair tI (.pair tI tI)) tI r8.2.2)]) (obs := []) rfl (by kernel_rfl) allP0 ?_
    refine WO_fin [4] [1000, 2001, 2002] (fr' := [(4, aI r8.1)]) (L' := [(1000, .cells [.slc 2001, .slc 2002]), (2001, .seq (.pair tI (.pair tI tI)) r8.2.1), (2002, .map (.pair tI (.pair tI tI)) tI r8.2.2)]) (by kernel_rfl) (by kernel_rfl) ?_
    refine seqQ_norm ?_
    obtain rfl := Option.some.inj h
    refine W_ret [4] [1000, 2001, 2002] (fr' := [(4, aI r8.1)]) (L' := [(1000, .cells [.slc 2001, .slc 2002]), (2001, .seq (.pair tI (.pair tI tI)) r8.2.1), (2002, .map (.pair tI (.pair tI tI)) tI r8.2.2)]) (by kernel_rfl) (by kernel_rfl) ?_
    exact retQ_mk (by kernel_rfl) (by kernel_rfl) (by kernel_rfl)

def slices_Equal_Lboolbool_b1 (a1 : (List Bool)) (i16 : Int) (v19 : Bool) (x17 : Unit) : Option (Flow Unit (Esc Bool Unit)) :=
(idx a1 i16).bind fun v22 =>
bif !(v19 == v22) then
(some (.done (.ret false)))
else
(some (.next ()))
@[reducible] def slices_Equal_Lboolbool_s2 (a0 : (List Bool)) (a1 : (List Bool)) (v : Int × Unit) : Fr × LL := ([(0, aD (.slice .bool) a0), (1, aD (.slice .bool) a1), (12, aI (List.length a0 : Int)), (13, aI v.1)], [])
@[reducible] def slices_Equal_Lboolbool_s3 (v : Bool) : Fr × LL := ([(4, aB v)], [])
@[reducible] def slices_Equal_Lboolbool_s4 (v : Unit) : Fr × LL := ([], [])
def slices_Equal_Lboolbool (a0 : (List Bool)) (a1 : (List Bool)) : Option Bool :=
bif (List.length a0 : Int) != (List.length a1 : Int) then
(some false)
else
((forL (slices_Equal_Lboolbool_b1 a1) (fun x17 => (.brk ())) a0 0 ()).bind fun v26 =>
match v26 with
| .ret v31 =>
(some v31)
| .brk v32 =>
(some true))
theorem slices_Equal_Lboolbool_ok {a0 : (List Bool)} {a1 : (List Bool)} {r : Bool} (h : slices_Equal_Lboolbool a0 a1 = some r) : FnC Try.prog 42 [aD (.slice .bool) a0, aD (.slice .bool) a1] [] (aB r) [] := by
  refine fnC_of_W (B := bodyOf Try.f42) (n := 26) Try.func42 (by kernel_rfl) (by kernel_rfl) (by kernel_rfl) (by kernel_rfl) (by kernel_rfl) ?_
  intro K
  refine W_seq (by kernel_rfl) ?_
  refine W_run 1 [] [0, 1] [] (fr' := [(0, aD (.slice .bool) a0), (1, aD (.slice .bool) a1)]) (L' := []) (obs := []) (by kernel_rfl) (by kernel_rfl) (by kernel_rfl) allP0 ?_
  refine seqQ_norm ?_
  refine W_seq (by kernel_rfl) ?_
  refine W_seq (by kernel_rfl) ?_
  refine W_run 5 [] [0, 1, 10] [] (fr' := [(0, aD (.slice .bool) a0), (1, aD (.slice .bool) a1), (10, aB ((List.length a0 : Int) != (List.length a1 : Int)))]) (L' := []) (obs := []) (by kernel_rfl) (by kernel_rfl) (by kernel_rfl) allP0 ?_
  refine seqQ_norm ?_
  refine W_cond (o := .tmp 10) (b := (List.length a0 : Int) != (List.length a1 : Int)) (by kernel_rfl) (by kernel_rfl) (fun h1 => ?_) (fun h1 => ?_)
  · replace h := ofT h1 h
    refine W_seq (by kernel_rfl) ?_
    refine W_run 1 [] [4] [] (fr' := [(4, aB false)]) (L' := []) (obs := []) (by kernel_rfl) (by kernel_rfl) (by kernel_rfl) allP0 ?_
    refine seqQ_norm ?_
    obtain rfl := Option.some.inj h
    refine W_ret [4] [] (fr' := [(4, aB false)]) (L' := []) (by kernel_rfl) (by kernel_rfl) ?_
    refine seqQ_ret ?_
    exact retQ_mk (by kernel_rfl) (by kernel_rfl) (by kernel_rfl)
  · replace h := ofF h1 h
    refine W_skip [0, 1] [] (fr' := [(0, aD (.slice .bool) a0), (1, aD (.slice .bool) a1)]) (L' := []) (by kernel_rfl) (by kernel_rfl) ?_
    refine seqQ_norm ?_
    refine W_seq (by kernel_rfl) ?_
    refine W_seq (by kernel_rfl) ?_
    refine W_run 3 [] [0, 1, 12, 13] [] (fr' := [(0, aD (.slice .bool) a0), (1, aD (.slice .bool) a1), (12, aI (List.length a0 : Int)), (13, aI (0 : Int))]) (L' := []) (obs := []) (by kernel_rfl) (by kernel_rfl) (by kernel_rfl) allP0 ?_
    refine seqQ_norm ?_
    refine W_block (id := 0) (by kernel_rfl) ?_
    obtain ⟨v26, h27, h⟩ := bind_of h
    refine W_len (t := 0) (u := .bool) (xs := a0) (by kernel_rfl) (fun h30 => ?_)
    obtain ⟨h28, h29⟩ := forL_iter h30 h27
    refine W_weaken [0, 1, 12, 13] [] (fr' := ((slices_Equal_Lboolbool_s2 a0 a1) ((0 : Int), ())).1) (L' := ((slices_Equal_Lboolbool_s2 a0 a1) ((0 : Int), ())).2) (by kernel_rfl) ?_
    refine W_cutK (W_loop (S := (slices_Equal_Lboolbool_s2 a0 a1)) (J := (escQ (exQ .ret slices_Equal_Lboolbool_s3) (exQ (.exit 0) slices_Equal_Lboolbool_s4))) (by kernel_rfl) ?_ h28 _ v26 h29) ?_
    · rintro ⟨i16, x17⟩ s h
      refine W_seq (by kernel_rfl) ?_
      refine W_run 1 [] [0, 1, 12, 13, 14] [] (fr' := [(0, aD (.slice .bool) a0), (1, aD (.slice .bool) a1), (12, aI (List.length a0 : Int)), (13, aI i16), (14, aB (decide (i16 < (List.length a0 : Int))))]) (L' := []) (obs := []) (by kernel_rfl) (by kernel_rfl) (by kernel_rfl) allP0 ?_
      refine seqQ_norm ?_
      refine W_seq (by kernel_rfl) ?_
      refine W_cond (o := .tmp 14) (b := decide (i16 < (List.length a0 : Int))) (by kernel_rfl) (by kernel_rfl) (fun h21 => ?_) (fun h21 => ?_)
      · replace h := stepL_true h21 h
        obtain ⟨v19, _, h20, h, rfl⟩ := h
        refine W_skip [0, 1, 12, 13] [] (fr' := [(0, aD (.slice .bool) a0), (1, aD (.slice .bool) a1), (12, aI (List.length a0 : Int)), (13, aI i16)]) (L' := []) (by kernel_rfl) (by kernel_rfl) ?_
        refine seqQ_norm ?_
        refine W_seq (by kernel_rfl) ?_
        refine W_block (id := 1) (by kernel_rfl) ?_
        refine W_seq (by kernel_rfl) ?_
        refine W_run 2 [] [0, 1, 5, 12, 13] [] (fr' := [(0, aD (.slice .bool) a0), (1, aD (.slice .bool) a1), (5, aI i16), (12, aI (List.length a0 : Int)), (13, aI i16)]) (L' := []) (obs := []) (by kernel_rfl) (by kernel_rfl) (by kernel_rfl) allP0 ?_
        refine seqQ_norm ?_
        refine W_seq (by kernel_rfl) ?_
        obtain ⟨v22, h23, h⟩ := bind_of h
        refine W_draw2 9 [(5, .val (.dat .bool v19)), (13, .val (.dat .bool v22))] [] [0, 1, 12, 13, 24] [] (fr' := [(0, aD (.slice .bool) a0), (1, aD (.slice .bool) a1), (12, aI (List.length a0 : Int)), (13, aI i16), (24, aB (!(v19 == v22)))]) (L' := []) (out := [(16, aD (.slice .bool) a0), (17, aI i16), (18, .one (.dptr .bool v19)), (19, aB v19), (20, aD (.slice .bool) a1), (21, aI i16), (22, .one (.dptr .bool v22)), (23, aB v22), (24, aB (!(v19 == v22)))]) (obs := [Idx a0 i16 v19, Idx a1 i16 v22]) (obs2 := []) (calls := []) (by kernel_rfl) (by kernel_rfl) (by kernel_rfl) (by kernel_rfl) (allP2 (Idx.of h20) (allP1 (Idx.of h23))) allC0 (by kernel_rfl) allP0 ?_
        refine seqQ_norm ?_
        refine W_cond (o := .tmp 24) (b := !(v19 == v22)) (by kernel_rfl) (by kernel_rfl) (fun h24 => ?_) (fun h24 => ?_)
        · replace h := ofT h24 h
          refine W_seq (by kernel_rfl) ?_
          refine W_run 1 [] [4] [] (fr' := [(4, aB false)]) (L' := []) (obs := []) (by kernel_rfl) (by kernel_rfl) (by kernel_rfl) allP0 ?_
          refine seqQ_norm ?_
          obtain rfl := Option.some.inj h
          refine W_ret [4] [] (fr' := [(4, aB false)]) (L' := []) (by kernel_rfl) (by kernel_rfl) ?_
          refine blockQ_ret ?_
          refine seqQ_ret ?_
          refine round_ret ?_
          refine escQ_ret ?_
          exact exQ_mk (by kernel_rfl) (by kernel_rfl)
        · replace h := ofF h24 h
          refine W_skip [0, 1, 12, 13] [] (fr' := [(0, aD (.slice .bool) a0), (1, aD (.slice .bool) a1), (12, aI (List.length a0 : Int)), (13, aI i16)]) (L' := []) (by kernel_rfl) (by kernel_rfl) ?_
          refine blockQ_norm ?_
          refine seqQ_norm ?_
          obtain rfl := Option.some.inj h
          refine W_run 2 [] [0, 1, 12, 13] [] (fr' := [(0, aD (.slice .bool) a0), (1, aD (.slice .bool) a1), (12, aI (List.length a0 : Int)), (13, aI (w64 (i16 + (1 : Int))))]) (L' := []) (obs := []) (by kernel_rfl) (by kernel_rfl) (by kernel_rfl) allP0 ?_
          exact round_next' (by kernel_rfl) (by kernel_rfl)
      · obtain rfl := stepL_false h21 h
        refine W_exit (id := 0) [] [] (fr' := []) (L' := []) (by kernel_rfl) (by kernel_rfl) ?_
        refine seqQ_exit ?_
        refine round_exit ?_
        refine escQ_brk ?_
        exact exQ_mk (by kernel_rfl) (by kernel_rfl)
    · intro e fr L hJ
      rcases v26 with v31 | v32
      · obtain ⟨rfl, rfl, rfl⟩ := hJ
        obtain rfl := Option.some.inj h
        refine LT_keep [4] [] (fr' := [(4, aB v31)]) (L' := []) (by kernel_rfl) ?_
        refine blockQ_ret ?_
        refine seqQ_ret ?_
        exact retQ_mk (by kernel_rfl) (by kernel_rfl) (by kernel_rfl)
      · obtain ⟨rfl, rfl, rfl⟩ := hJ
        refine LT_keep [] [] (fr' := []) (L' := []) (by kernel_rfl) ?_
        refine blockQ_hit ?_
        refine seqQ_norm ?_
        refine W_seq (by kernel_rfl) ?_
        refine W_run 1 [] [4] [] (fr' := [(4, aB true)]) (L' := []) (obs := []) (by kernel_rfl) (by kernel_rfl) (by kernel_rfl) allP0 ?_
        refine seqQ_norm ?_
        obtain rfl := Option.some.inj h
        refine W_ret [4] [] (fr' := [(4, aB true)]) (L' := []) (by kernel_rfl) (by kernel_rfl) ?_
        exact retQ_mk (by kernel_rfl) (by kernel_rfl) (by kernel_rfl)

def gate_Maker_table_i2_step (rf_gate_Maker_table_i2 : Int → (List Bool) → (List (Int × (Int × Int))) → (Option (List ((Int × (Int × Int)) × Int))) → Option (Int × (List (Int × (Int × Int))) × (Option (List ((Int × (Int × Int)) × Int))))) (fuel : Nat) (a1 : Int) (a2 : (List Bool)) (c0 : (List (Int × (Int × Int)))) (c1 : (Option (List ((Int × (Int × Int)) × Int)))) : Option (Int × (List (Int × (Int × Int))) × (Option (List ((Int × (Int × Int)) × Int)))) :=
(idx a2 (0 : Int)).bind fun v1 =>
(slices_Contains_Lboolbool a2 (!v1)).bind fun r3 =>
bif !r3 then
((gate_Maker_constant_i2 v1 c0 c1).bind fun r6 =>
some (r6.1, r6.2.1, r6.2.2))
else
((ck (0 ≤ (0 : Int) ∧ (0 : Int) ≤ w64 (Int.tdiv (List.length a2 : Int) (2 : Int)) ∧ w64 (Int.tdiv (List.length a2 : Int) (2 : Int)) ≤ (List.length a2 : Int))).bind fun _ =>
(ck (0 ≤ w64 (Int.tdiv (List.length a2 : Int) (2 : Int)) ∧ w64 (Int.tdiv (List.length a2 : Int) (2 : Int)) ≤ (List.length a2 : Int) ∧ (List.length a2 : Int) ≤ (List.length a2 : Int))).bind fun _ =>
(slices_Equal_Lboolbool (sub a2 (0 : Int) (w64 (Int.tdiv (List.length a2 : Int) (2 : Int)))) (sub a2 (w64 (Int.tdiv (List.length a2 : Int) (2 : Int))) (List.length a2 : Int))).bind fun r10 =>
bif r10 then
((rf_gate_Maker_table_i2 (w64 (a1 - (1 : Int))) (sub a2 (0 : Int) (w64 (Int.tdiv (List.length a2 : Int) (2 : Int)))) c0 c1).bind fun r13 =>
some (r13.1, r13.2.1, r13.2.2))
else
((gate_Maker_Put_i2 (1 : Int) (w64 (a1 - (1 : Int))) (0 : Int) c0 c1).bind fun r15 =>
bif a1 == (1 : Int) then
((idx (sub a2 (0 : Int) (w64 (Int.tdiv (List.length a2 : Int) (2 : Int)))) (0 : Int)).bind fun v18 =>
bif v18 then
((gate_Maker_Put_i2 (2 : Int) r15.1 (0 : Int) r15.2.1 r15.2.2).bind fun r21 =>
some (r21.1, r21.2.1, r21.2.2))
else
(some (r15.1, r15.2.1, r15.2.2)))
else
((gate_Maker_Put_i2 (2 : Int) r15.1 (0 : Int) r15.2.1 r15.2.2).bind fun r23 =>
(rf_gate_Maker_table_i2 (w64 (a1 - (1 : Int))) (sub a2 (0 : Int) (w64 (Int.tdiv (List.length a2 : Int) (2 : Int)))) r23.2.1 r23.2.2).bind fun r25 =>
(rf_gate_Maker_table_i2 (w64 (a1 - (1 : Int))) (sub a2 (w64 (Int.tdiv (List.length a2 : Int) (2 : Int))) (List.length a2 : Int)) r25.2.1 r25.2.2).bind fun r27 =>
(gate_Maker_Put_i2 (3 : Int) r23.1 r25.1 r27.2.1 r27.2.2).bind fun r29 =>
(gate_Maker_Put_i2 (3 : Int) r15.1 r27.1 r29.2.1 r29.2.2).bind fun r31 =>
(gate_Maker_Put_i2 (4 : Int) r29.1 r31.1 r31.2.1 r31.2.2).bind fun r33 =>
some (r33.1, r33.2.1, r33.2.2))))
def gate_Maker_table_i2 : Nat → Int → (List Bool) → (List (Int × (Int × Int))) → (Option (List ((Int × (Int × Int)) × Int))) → Option (Int × (List (Int × (Int × Int))) × (Option (List ((Int × (Int × Int)) × Int))))
  | 0 => fun _ _ _ _ => none
  | fuel + 1 => fun a1 a2 c0 c1 => gate_Maker_table_i2_step (gate_Maker_table_i2 fuel) fuel a1 a2 c0 c1
theorem gate_Maker_table_i2_step_ok {rf_gate_Maker_table_i2 : Int → (List Bool) → (List (Int × (Int × Int))) → (Option (List ((Int × (Int × Int)) × Int))) → Option (Int × (List (Int × (Int × Int))) × (Option (List ((Int × (Int × Int)) × Int))))} (ih_gate_Maker_table_i2 : ∀ {a1 : Int} {a2 : (List Bool)} {c0 : (List (Int × (Int × Int)))} {c1 : (Option (List ((Int × (Int × Int)) × Int)))} {r : (Int × (List (Int × (Int × Int))) × (Option (List ((Int × (Int × Int)) × Int))))}, rf_gate_Maker_table_i2 a1 a2 c0 c1 = some r → FnC Try.prog 33 [.one (.ptr 1000 0), aI a1, aD (.slice .bool) a2] [(1000, .cells [.slc 2001, .slc 2002]), (2001, .seq (.pair tI (.pair tI tI)) c0), (2002, .map (.pair tI (.pair tI tI)) tI c1)] (aI r.1) [(1000, .cells [.slc 2001, .slc 2002]), (2001, .seq (.pair tI (.pair tI tI)) r.2.1), (2002, .map (.pair tI (.pair tI tI)) tI r.2.2)]) {fuel : Nat} {a1 : Int} {a2 : (List Bool)} {c0 : (List (Int × (Int × Int)))} {c1 : (Option (List ((Int × (Int × Int)) × Int)))} {r : (Int × (List (Int × (Int × Int))) × (Option (List ((Int × (Int × Int)) × Int))))} (h : gate_Maker_table_i2_step rf_gate_Maker_table_i2 fuel a1 a2 c0 c1 = some r) : FnC Try.prog 33 [.one (.ptr 1000 0), aI a1, aD (.slice .bool) a2] [(1000, .cells [.slc 2001, .slc 2002]), (2001, .seq (.pair tI (.pair tI tI)) c0), (2002, .map (.pair tI (.pair tI tI)) tI c1)] (aI r.1) [(1000, .cells [.slc 2001, .slc 2002]), (2001, .seq (.pair tI (.pair tI tI)) r.2.1), (2002, .map (.pair tI (.pair tI tI)) tI r.2.2)] := by
  refine fnC_of_W (B := bodyOf Try.f33) (n := 87) Try.func33 (by kernel_rfl) (by kernel_rfl) (by kernel_rfl) (by kernel_rfl) (by kernel_rfl) ?_
  intro K
  refine W_seq (by kernel_rfl) ?_
  refine W_run 1 [] [0, 1, 2] [1000, 2001, 2002] (fr' := [(0, .one (.ptr 1000 0)), (1, aI a1), (2, aD (.slice .bool) a2)]) (L' := [(1000, .cells [.slc 2001, .slc 2002]), (2001, .seq (.pair tI (.pair tI tI)) c0), (2002, .map (.pair tI (.pair tI tI)) tI c1)]) (obs := []) (by kernel_rfl) (by kernel_rfl) (by kernel_rfl) allP0 ?_
  refine seqQ_norm ?_
  refine W_seq (by kernel_rfl) ?_
  refine W_run 4 [] [0, 1, 2, 7] [1000, 2001, 2002] (fr' := [(0, .one (.ptr 1000 0)), (1, aI a1), (2, aD (.slice .bool) a2), (7, aI (w64 (Int.tdiv (List.length a2 : Int) (2 : Int))))]) (L' := [(1000, .cells [.slc 2001, .slc 2002]), (2001, .seq (.pair tI (.pair tI tI)) c0), (2002, .map (.pair tI (.pair tI tI)) tI c1)]) (obs := [((2 : Int) ≠ 0)]) (by kernel_rfl) (by kernel_rfl) (by kernel_rfl) (allP1 (by decide)) ?_
  refine seqQ_norm ?_
  refine W_seq (by kernel_rfl) ?_
  refine W_block (id := 0) (by kernel_rfl) ?_
  refine W_seq (by kernel_rfl) ?_
  obtain ⟨v1, h2, h⟩ := bind_of h
  refine W_region (by kernel_rfl) ?_
  refine WO_run (j := 5) (k := 5) (orcs := [(5, .val (.dat .bool v1))]) (kF := [0, 1, 2, 7, 18, 22]) (kL := [1000, 2001, 2002]) (fr' := [(0, .one (.ptr 1000 0)), (1, aI a1), (2, aD (.slice .bool) a2), (7, aI (w64 (Int.tdiv (List.length a2 : Int) (2 : Int)))), (18, aD (.slice .bool) a2), (22, aB (!v1))]) (L' := [(1000, .cells [.slc 2001, .slc 2002]), (2001, .seq (.pair tI (.pair tI tI)) c0), (2002, .map (.pair tI (.pair tI tI)) tI c1)]) (obs := [Idx a2 (0 : Int) v1]) rfl (by kernel_rfl) (allP1 (Idx.of h2)) ?_
  obtain ⟨r3, h4, h⟩ := bind_of h
  refine WO_call0 (us := [none, none]) (d := 23) (p := True) (j := 6) rfl ⟨by kernel_rfl, by kernel_rfl, by kernel_rfl⟩ trivial (slices_Contains_Lboolbool_ok h4) (by kernel_rfl) ?_
  refine WO_run (j := 8) (k := 2) (orcs := []) (kF := [0, 1, 2, 7, 17]) (kL := [1000, 2001, 2002]) (fr' := [(0, .one (.ptr 1000 0)), (1, aI a1), (2, aD (.slice .bool) a2), (7, aI (w64 (Int.tdiv (List.length a2 : Int) (2 : Int)))), (17, aB (!r3))]) (L' := [(1000, .cells [.slc 2001, .slc 2002]), (2001, .seq (.pair tI (.pair tI tI)) c0), (2002, .map (.pair tI (.pair tI tI)) tI c1)]) (obs := []) rfl (by kernel_rfl) allP0 ?_
  refine WO_fin [0, 1, 2, 7, 17] [1000, 2001, 2002] (fr' := [(0, .one (.ptr 1000 0)), (1, aI a1), (2, aD (.slice .bool) a2), (7, aI (w64 (Int.tdiv (List.length a2 : Int) (2 : Int)))), (17, aB (!r3))]) (L' := [(1000, .cells [.slc 2001, .slc 2002]), (2001, .seq (.pair tI (.pair tI tI)) c0), (2002, .map (.pair tI (.pair tI tI)) tI c1)]) (by kernel_rfl) (by kernel_rfl) ?_
  refine seqQ_norm ?_
  refine W_cond (o := .tmp 17) (b := !r3) (by kernel_rfl) (by kernel_rfl) (fun h5 => ?_) (fun h5 => ?_)
  · replace h := ofT h5 h
    refine W_seq (by kernel_rfl) ?_
    refine W_region (by kernel_rfl) ?_
    refine WO_run (j := 4) (k := 4) (orcs := [(5, .val (.dat .bool v1))]) (kF := [25, 28]) (kL := [1000, 2001, 2002]) (fr' := [(25, .one (.ptr 1000 0)), (28, aB v1)]) (L' := [(1000, .cells [.slc 2001, .slc 2002]), (2001, .seq (.pair tI (.pair tI tI)) c0), (2002, .map (.pair tI (.pair tI tI)) tI c1)]) (obs := [Idx a2 (0 : Int) v1]) rfl (by kernel_rfl) (allP1 (Idx.of h2)) ?_
    obtain ⟨r6, h7, h⟩ := bind_of h
    refine WO_lend2 [(1000, 1000), (2001, 2001), (2002, 2002)] (us := [none, none]) (d := 29) (p := True) (j := 5) rfl ⟨by kernel_rfl, by kernel_rfl, by kernel_rfl⟩ trivial (gate_Maker_constant_i2_ok h7) (by kernel_rfl) (by kernel_rfl) ?_
    refine WO_run (j := 6) (k := 1) (orcs := []) (kF := [6]) (kL := [1000, 2001, 2002]) (fr' := [(6, aI r6.1)]) (L' := [(1000, .cells [.slc 2001, .slc 2002]), (2001, .seq (.pair tI (.pair tI tI)) r6.2.1), (2002, .map (.pair tI (.pair tI tI)) tI r6.2.2)]) (obs := []) rfl (by kernel_rfl) allP0 ?_
    refine WO_fin [6] [1000, 2001, 2002] (fr' := [(6, aI r6.1)]) (L' := [(1000, .cells [.slc 2001, .slc 2002]), (2001, .seq (.pair tI (.pair tI tI)) r6.2.1), (2002, .map (.pair tI (.pair tI tI)) tI r6.2.2)]) (by kernel_rfl) (by kernel_rfl) ?_
    refine seqQ_norm ?_
    obtain rfl := Option.some.inj h
    refine W_ret [6] [1000, 2001, 2002] (fr' := [(6, aI r6.1)]) (L' := [(1000, .cells [.slc 2001, .slc 2002]), (2001, .seq (.pair tI (.pair tI tI)) r6.2.1), (2002, .map (.pair tI (.pair tI tI)) tI r6.2.2)]) (by kernel_rfl) (by kernel_rfl) ?_
    refine blockQ_ret ?_
    refine seqQ_ret ?_
    exact retQ_mk (by kernel_rfl) (by kernel_rfl) (by kernel_rfl)
  · replace h := ofF h5 h
    refine W_seq (by kernel_rfl) ?_
    obtain ⟨_, h8, h⟩ := bind_of h
    replace h8 := ck_some h8
    obtain ⟨_, h9, h⟩ := bind_of h
    replace h9 := ck_some h9
    obtain ⟨r10, h11, h⟩ := bind_of h
    refine W_draw2 8 [] [(6, [none, none], aB r10)] [0, 1, 2, 7, 30] [1000, 2001, 2002] (fr' := [(0, .one (.ptr 1000 0)), (1, aI a1), (2, aD (.slice .bool) a2), (7, aI (w64 (Int.tdiv (List.length a2 : Int) (2 : Int)))), (30, aB r10)]) (L' := [(1000, .cells [.slc 2001, .slc 2002]), (2001, .seq (.pair tI (.pair tI tI)) c0), (2002, .map (.pair tI (.pair tI tI)) tI c1)]) (out := [(31, aD (.slice .bool) a2), (32, aI (w64 (Int.tdiv (List.length a2 : Int) (2 : Int)))), (33, aD (.slice .bool) (sub a2 (0 : Int) (w64 (Int.tdiv (List.length a2 : Int) (2 : Int))))), (34, aD (.slice .bool) a2), (35, aI (w64 (Int.tdiv (List.length a2 : Int) (2 : Int)))), (36, aD (.slice .bool) (sub a2 (w64 (Int.tdiv (List.length a2 : Int) (2 : Int))) (List.length a2 : Int))), (37, aB r10), (30, aB r10)]) (obs := [Cuts (0 : Int) (w64 (Int.tdiv (List.length a2 : Int) (2 : Int))) (List.length a2), Cuts (w64 (Int.tdiv (List.length a2 : Int) (2 : Int))) (List.length a2 : Int) (List.length a2), True]) (obs2 := []) (calls := [(42, [aD (.slice .bool) (sub a2 (0 : Int) (w64 (Int.tdiv (List.length a2 : Int) (2 : Int)))), aD (.slice .bool) (sub a2 (w64 (Int.tdiv (List.length a2 : Int) (2 : Int))) (List.length a2 : Int))], aB r10)]) (by kernel_rfl) (by kernel_rfl) (by kernel_rfl) (by kernel_rfl) (allP2 h8 (allP2 h9 (allP1 trivial))) (allC1 (by kernel_rfl) (slices_Equal_Lboolbool_ok h11) (by kernel_rfl) allC0) (by kernel_rfl) allP0 ?_
    refine seqQ_norm ?_
    refine W_cond (o := .tmp 30) (b := r10) (by kernel_rfl) (by kernel_rfl) (fun h12 => ?_) (fun h12 => ?_)
    · replace h := ofT h12 h
      refine W_seq (by kernel_rfl) ?_
      refine W_region (by kernel_rfl) ?_
      refine WO_run (j := 6) (k := 6) (orcs := []) (kF := [38, 40, 43]) (kL := [1000, 2001, 2002]) (fr' := [(38, .one (.ptr 1000 0)), (40, aI (w64 (a1 - (1 : Int)))), (43, aD (.slice .bool) (sub a2 (0 : Int) (w64 (Int.tdiv (List.length a2 : Int) (2 : Int)))))]) (L' := [(1000, .cells [.slc 2001, .slc 2002]), (2001, .seq (.pair tI (.pair tI tI)) c0), (2002, .map (.pair tI (.pair tI tI)) tI c1)]) (obs := [Cuts (0 : Int) (w64 (Int.tdiv (List.length a2 : Int) (2 : Int))) (List.length a2)]) rfl (by kernel_rfl) (allP1 h8) ?_
      obtain ⟨r13, h14, h⟩ := bind_of h
      refine WO_lend2 [(1000, 1000), (2001, 2001), (2002, 2002)] (us := [none, none, none]) (d := 44) (p := True) (j := 7) rfl ⟨by kernel_rfl, by kernel_rfl, by kernel_rfl⟩ trivial (ih_gate_Maker_table_i2 h14) (by kernel_rfl) (by kernel_rfl) ?_
      refine WO_run (j := 8) (k := 1) (orcs := []) (kF := [6]) (kL := [1000, 2001, 2002]) (fr' := [(6, aI r13.1)]) (L' := [(1000, .cells [.slc 2001, .slc 2002]), (2001, .seq (.pair tI (.pair tI tI)) r13.2.1), (2002, .map (.pair tI (.pair tI tI)) tI r13.2.2)]) (obs := []) rfl (by kernel_rfl) allP0 ?_
      refine WO_fin [6] [1000, 2001, 2002] (fr' := [(6, aI r13.1)]) (L' := [(1000, .cells [.slc 2001, .slc 2002]), (2001, .seq (.pair tI (.pair tI tI)) r13.2.1), (2002, .map (.pair tI (.pair tI tI)) tI r13.2.2)]) (by kernel_rfl) (by kernel_rfl) ?_
      refine seqQ_norm ?_
      obtain rfl := Option.some.inj h
      refine W_ret [6] [1000, 2001, 2002] (fr' := [(6, aI r13.1)]) (L' := [(1000, .cells [.slc 2001, .slc 2002]), (2001, .seq (.pair tI (.pair tI tI)) r13.2.1), (2002, .map (.pair tI (.pair tI tI)) tI r13.2.2)]) (by kernel_rfl) (by kernel_rfl) ?_
      refine blockQ_ret ?_
      refine seqQ_ret ?_
      exact retQ_mk (by kernel_rfl) (by kernel_rfl) (by kernel_rfl)
    · replace h := ofF h12 h
      refine W_skip [0, 1, 2, 7] [1000, 2001, 2002] (fr' := [(0, .one (.ptr 1000 0)), (1, aI a1), (2, aD (.slice .bool) a2), (7, aI (w64 (Int.tdiv (List.length a2 : Int) (2 : Int))))]) (L' := [(1000, .cells [.slc 2001, .slc 2002]), (2001, .seq (.pair tI (.pair tI tI)) c0), (2002, .map (.pair tI (.pair tI tI)) tI c1)]) (by kernel_rfl) (by kernel_rfl) ?_
      refine blockQ_norm ?_
      refine seqQ_norm ?_
      refine W_seq (by kernel_rfl) ?_
      refine W_region (by kernel_rfl) ?_
      refine WO_run (j := 3) (k := 3) (orcs := []) (kF := [0, 1, 2, 7, 45, 47]) (kL := [1000, 2001, 2002]) (fr' := [(0, .one (.ptr 1000 0)), (1, aI a1), (2, aD (.slice .bool) a2), (7, aI (w64 (Int.tdiv (List.length a2 : Int) (2 : Int)))), (45, .one (.ptr 1000 0)), (47, aI (w64 (a1 - (1 : Int))))]) (L' := [(1000, .cells [.slc 2001, .slc 2002]), (2001, .seq (.pair tI (.pair tI tI)) c0), (2002, .map (.pair tI (.pair tI tI)) tI c1)]) (obs := []) rfl (by kernel_rfl) allP0 ?_
      obtain ⟨r15, h16, h⟩ := bind_of h
      refine WO_lend2 [(1000, 1000), (2001, 2001), (2002, 2002)] (us := [none, none, none, none]) (d := 48) (p := True) (j := 4) rfl ⟨by kernel_rfl, by kernel_rfl, by kernel_rfl⟩ trivial (gate_Maker_Put_i2_ok h16) (by kernel_rfl) (by kernel_rfl) ?_
      refine WO_run (j := 5) (k := 1) (orcs := []) (kF := [0, 1, 2, 7, 8]) (kL := [1000, 2001, 2002]) (fr' := [(0, .one (.ptr 1000 0)), (1, aI a1), (2, aD (.slice .bool) a2), (7, aI (w64 (Int.tdiv (List.length a2 : Int) (2 : Int)))), (8, aI r15.1)]) (L' := [(1000, .cells [.slc 2001, .slc 2002]), (2001, .seq (.pair tI (.pair tI tI)) r15.2.1), (2002, .map (.pair tI (.pair tI tI)) tI r15.2.2)]) (obs := []) rfl (by kernel_rfl) allP0 ?_
      refine WO_fin [0, 1, 2, 7, 8] [1000, 2001, 2002] (fr' := [(0, .one (.ptr 1000 0)), (1, aI a1), (2, aD (.slice .bool) a2), (7, aI (w64 (Int.tdiv (List.length a2 : Int) (2 : Int)))), (8, aI r15.1)]) (L' := [(1000, .cells [.slc 2001, .slc 2002]), (2001, .seq (.pair tI (.pair tI tI)) r15.2.1), (2002, .map (.pair tI (.pair tI tI)) tI r15.2.2)]) (by kernel_rfl) (by kernel_rfl) ?_
      refine seqQ_norm ?_
      refine W_seq (by kernel_rfl) ?_
      refine W_draw2 7 [] [] [0, 1, 8, 9, 10] [1000, 2001, 2002] (fr' := [(0, .one (.ptr 1000 0)), (1, aI a1), (8, aI r15.1), (9, aD (.slice .bool) (sub a2 (0 : Int) (w64 (Int.tdiv (List.length a2 : Int) (2 : Int))))), (10, aD (.slice .bool) (sub a2 (w64 (Int.tdiv (List.length a2 : Int) (2 : Int))) (List.length a2 : Int)))]) (L' := [(1000, .cells [.slc 2001, .slc 2002]), (2001, .seq (.pair tI (.pair tI tI)) r15.2.1), (2002, .map (.pair tI (.pair tI tI)) tI r15.2.2)]) (out := [(49, aD (.slice .bool) a2), (50, aI (w64 (Int.tdiv (List.length a2 : Int) (2 : Int)))), (51, aD (.slice .bool) (sub a2 (0 : Int) (w64 (Int.tdiv (List.length a2 : Int) (2 : Int))))), (52, aD (.slice .bool) a2), (53, aI (w64 (Int.tdiv (List.length a2 : Int) (2 : Int)))), (54, aD (.slice .bool) (sub a2 (w64 (Int.tdiv (List.length a2 : Int) (2 : Int))) (List.length a2 : Int))), (9, aD (.slice .bool) (sub a2 (0 : Int) (w64 (Int.tdiv (List.length a2 : Int) (2 : Int)))))]) (obs := [Cuts (0 : Int) (w64 (Int.tdiv (List.length a2 : Int) (2 : Int))) (List.length a2), Cuts (w64 (Int.tdiv (List.length a2 : Int) (2 : Int))) (List.length a2 : Int) (List.length a2)]) (obs2 := []) (calls := []) (by kernel_rfl) (by kernel_rfl) (by kernel_rfl) (by kernel_rfl) (allP2 h8 (allP1 h9)) allC0 (by kernel_rfl) allP0 ?_
      refine seqQ_norm ?_
      refine W_seq (by kernel_rfl) ?_
      refine W_seq (by kernel_rfl) ?_
      refine W_run 2 [] [0, 1, 8, 9, 10, 56] [1000, 2001, 2002] (fr' := [(0, .one (.ptr 1000 0)), (1, aI a1), (8, aI r15.1), (9, aD (.slice .bool) (sub a2 (0 : Int) (w64 (Int.tdiv (List.length a2 : Int) (2 : Int))))), (10, aD (.slice .bool) (sub a2 (w64 (Int.tdiv (List.length a2 : Int) (2 : Int))) (List.length a2 : Int))), (56, aB (a1 == (1 : Int)))]) (L' := [(1000, .cells [.slc 2001, .slc 2002]), (2001, .seq (.pair tI (.pair tI tI)) r15.2.1), (2002, .map (.pair tI (.pair tI tI)) tI r15.2.2)]) (obs := []) (by kernel_rfl) (by kernel_rfl) (by kernel_rfl) allP0 ?_
      refine seqQ_norm ?_
      refine W_cond (o := .tmp 56) (b := a1 == (1 : Int)) (by kernel_rfl) (by kernel_rfl) (fun h17 => ?_) (fun h17 => ?_)
      · replace h := ofT h17 h
        refine W_seq (by kernel_rfl) ?_
        refine W_seq (by kernel_rfl) ?_
        obtain ⟨v18, h19, h⟩ := bind_of h
        refine W_run 3 [(3, .val (.dat .bool v18))] [0, 8, 59] [1000, 2001, 2002] (fr' := [(0, .one (.ptr 1000 0)), (8, aI r15.1), (59, aB v18)]) (L' := [(1000, .cells [.slc 2001, .slc 2002]), (2001, .seq (.pair tI (.pair tI tI)) r15.2.1), (2002, .map (.pair tI (.pair tI tI)) tI r15.2.2)]) (obs := [Idx (sub a2 (0 : Int) (w64 (Int.tdiv (List.length a2 : Int) (2 : Int)))) (0 : Int) v18]) (by kernel_rfl) (by kernel_rfl) (by kernel_rfl) (allP1 (Idx.of h19)) ?_
        refine seqQ_norm ?_
        refine W_cond (o := .tmp 59) (b := v18) (by kernel_rfl) (by kernel_rfl) (fun h20 => ?_) (fun h20 => ?_)
        · replace h := ofT h20 h
          refine W_seq (by kernel_rfl) ?_
          refine W_region (by kernel_rfl) ?_
          refine WO_run (j := 2) (k := 2) (orcs := []) (kF := [60, 61]) (kL := [1000, 2001, 2002]) (fr' := [(60, .one (.ptr 1000 0)), (61, aI r15.1)]) (L' := [(1000, .cells [.slc 2001, .slc 2002]), (2001, .seq (.pair tI (.pair tI tI)) r15.2.1), (2002, .map (.pair tI (.pair tI tI)) tI r15.2.2)]) (obs := []) rfl (by kernel_rfl) allP0 ?_
          obtain ⟨r21, h22, h⟩ := bind_of h
          refine WO_lend2 [(1000, 1000), (2001, 2001), (2002, 2002)] (us := [none, none, none, none]) (d := 62) (p := True) (j := 3) rfl ⟨by kernel_rfl, by kernel_rfl, by kernel_rfl⟩ trivial (gate_Maker_Put_i2_ok h22) (by kernel_rfl) (by kernel_rfl) ?_
          refine WO_run (j := 4) (k := 1) (orcs := []) (kF := [6]) (kL := [1000, 2001, 2002]) (fr' := [(6, aI r21.1)]) (L' := [(1000, .cells [.slc 2001, .slc 2002]), (2001, .seq (.pair tI (.pair tI tI)) r21.2.1), (2002, .map (.pair tI (.pair tI tI)) tI r21.2.2)]) (obs := []) rfl (by kernel_rfl) allP0 ?_
          refine WO_fin [6] [1000, 2001, 2002] (fr' := [(6, aI r21.1)]) (L' := [(1000, .cells [.slc 2001, .slc 2002]), (2001, .seq (.pair tI (.pair tI tI)) r21.2.1), (2002, .map (.pair tI (.pair tI tI)) tI r21.2.2)]) (by kernel_rfl) (by kernel_rfl) ?_
          refine seqQ_norm ?_
          obtain rfl := Option.some.inj h
          refine W_ret [6] [1000, 2001, 2002] (fr' := [(6, aI r21.1)]) (L' := [(1000, .cells [.slc 2001, .slc 2002]), (2001, .seq (.pair tI (.pair tI tI)) r21.2.1), (2002, .map (.pair tI (.pair tI tI)) tI r21.2.2)]) (by kernel_rfl) (by kernel_rfl) ?_
          refine seqQ_ret ?_
          refine seqQ_ret ?_
          exact retQ_mk (by kernel_rfl) (by kernel_rfl) (by kernel_rfl)
        · replace h := ofF h20 h
          refine W_skip [8] [1000, 2001, 2002] (fr' := [(8, aI r15.1)]) (L' := [(1000, .cells [.slc 2001, .slc 2002]), (2001, .seq (.pair tI (.pair tI tI)) r15.2.1), (2002, .map (.pair tI (.pair tI tI)) tI r15.2.2)]) (by kernel_rfl) (by kernel_rfl) ?_
          refine seqQ_norm ?_
          refine W_seq (by kernel_rfl) ?_
          refine W_run 2 [] [6] [1000, 2001, 2002] (fr' := [(6, aI r15.1)]) (L' := [(1000, .cells [.slc 2001, .slc 2002]), (2001, .seq (.pair tI (.pair tI tI)) r15.2.1), (2002, .map (.pair tI (.pair tI tI)) tI r15.2.2)]) (obs := []) (by kernel_rfl) (by kernel_rfl) (by kernel_rfl) allP0 ?_
          refine seqQ_norm ?_
          obtain rfl := Option.some.inj h
          refine W_ret [6] [1000, 2001, 2002] (fr' := [(6, aI r15.1)]) (L' := [(1000, .cells [.slc 2001, .slc 2002]), (2001, .seq (.pair tI (.pair tI tI)) r15.2.1), (2002, .map (.pair tI (.pair tI tI)) tI r15.2.2)]) (by kernel_rfl) (by kernel_rfl) ?_
          refine seqQ_ret ?_
          exact retQ_mk (by kernel_rfl) (by kernel_rfl) (by kernel_rfl)
      · replace h := ofF h17 h
        refine W_skip [0, 1, 8, 9, 10] [1000, 2001, 2002] (fr' := [(0, .one (.ptr 1000 0)), (1, aI a1), (8, aI r15.1), (9, aD (.slice .bool) (sub a2 (0 : Int) (w64 (Int.tdiv (List.length a2 : Int) (2 : Int))))), (10, aD (.slice .bool) (sub a2 (w64 (Int.tdiv (List.length a2 : Int) (2 : Int))) (List.length a2 : Int)))]) (L' := [(1000, .cells [.slc 2001, .slc 2002]), (2001, .seq (.pair tI (.pair tI tI)) r15.2.1), (2002, .map (.pair tI (.pair tI tI)) tI r15.2.2)]) (by kernel_rfl) (by kernel_rfl) ?_
        refine seqQ_norm ?_
        refine W_seq (by kernel_rfl) ?_
        refine W_region (by kernel_rfl) ?_
        refine WO_run (j := 2) (k := 2) (orcs := []) (kF := [0, 1, 8, 9, 10, 64, 65]) (kL := [1000, 2001, 2002]) (fr' := [(0, .one (.ptr 1000 0)), (1, aI a1), (8, aI r15.1), (9, aD (.slice .bool) (sub a2 (0 : Int) (w64 (Int.tdiv (List.length a2 : Int) (2 : Int))))), (10, aD (.slice .bool) (sub a2 (w64 (Int.tdiv (List.length a2 : Int) (2 : Int))) (List.length a2 : Int))), (64, .one (.ptr 1000 0)), (65, aI r15.1)]) (L' := [(1000, .cells [.slc 2001, .slc 2002]), (2001, .seq (.pair tI (.pair tI tI)) r15.2.1), (2002, .map (.pair tI (.pair tI tI)) tI r15.2.2)]) (obs := []) rfl (by kernel_rfl) allP0 ?_
        obtain ⟨r23, h24, h⟩ := bind_of h
        refine WO_lend2 [(1000, 1000), (2001, 2001), (2002, 2002)] (us := [none, none, none, none]) (d := 66) (p := True) (j := 3) rfl ⟨by kernel_rfl, by kernel_rfl, by kernel_rfl⟩ trivial (gate_Maker_Put_i2_ok h24) (by kernel_rfl) (by kernel_rfl) ?_
        refine WO_run (j := 4) (k := 1) (orcs := []) (kF := [0, 1, 8, 9, 10, 11]) (kL := [1000, 2001, 2002]) (fr' := [(0, .one (.ptr 1000 0)), (1, aI a1), (8, aI r15.1), (9, aD (.slice .bool) (sub a2 (0 : Int) (w64 (Int.tdiv (List.length a2 : Int) (2 : Int))))), (10, aD (.slice .bool) (sub a2 (w64 (Int.tdiv (List.length a2 : Int) (2 : Int))) (List.length a2 : Int))), (11, aI r23.1)]) (L' := [(1000, .cells [.slc 2001, .slc 2002]), (2001, .seq (.pair tI (.pair tI tI)) r23.2.1), (2002, .map (.pair tI (.pair tI tI)) tI r23.2.2)]) (obs := []) rfl (by kernel_rfl) allP0 ?_
        refine WO_fin [0, 1, 8, 9, 10, 11] [1000, 2001, 2002] (fr' := [(0, .one (.ptr 1000 0)), (1, aI a1), (8, aI r15.1), (9, aD (.slice .bool) (sub a2 (0 : Int) (w64 (Int.tdiv (List.length a2 : Int) (2 : Int))))), (10, aD (.slice .bool) (sub a2 (w64 (Int.tdiv (List.length a2 : Int) (2 : Int))) (List.length a2 : Int))), (11, aI r23.1)]) (L' := [(1000, .cells [.slc 2001, .slc 2002]), (2001, .seq (.pair tI (.pair tI tI)) r23.2.1), (2002, .map (.pair tI (.pair tI tI)) tI r23.2.2)]) (by kernel_rfl) (by kernel_rfl) ?_
        refine seqQ_norm ?_
        refine W_seq (by kernel_rfl) ?_
        refine W_region (by kernel_rfl) ?_
        refine WO_run (j := 4) (k := 4) (orcs := []) (kF := [0, 1, 8, 10, 11, 67, 69, 70]) (kL := [1000, 2001, 2002]) (fr' := [(0, .one (.ptr 1000 0)), (1, aI a1), (8, aI r15.1), (10, aD (.slice .bool) (sub a2 (w64 (Int.tdiv (List.length a2 : Int) (2 : Int))) (List.length a2 : Int))), (11, aI r23.1), (67, .one (.ptr 1000 0)), (69, aI (w64 (a1 - (1 : Int)))), (70, aD (.slice .bool) (sub a2 (0 : Int) (w64 (Int.tdiv (List.length a2 : Int) (2 : Int)))))]) (L' := [(1000, .cells [.slc 2001, .slc 2002]), (2001, .seq (.pair tI (.pair tI tI)) r23.2.1), (2002, .map (.pair tI (.pair tI tI)) tI r23.2.2)]) (obs := []) rfl (by kernel_rfl) allP0 ?_
        obtain ⟨r25, h26, h⟩ := bind_of h
        refine WO_lend2 [(1000, 1000), (2001, 2001), (2002, 2002)] (us := [none, none, none]) (d := 71) (p := True) (j := 5) rfl ⟨by kernel_rfl, by kernel_rfl, by kernel_rfl⟩ trivial (ih_gate_Maker_table_i2 h26) (by kernel_rfl) (by kernel_rfl) ?_
        refine WO_run (j := 9) (k := 4) (orcs := []) (kF := [0, 8, 11, 71, 72, 74, 75]) (kL := [1000, 2001, 2002]) (fr' := [(0, .one (.ptr 1000 0)), (8, aI r15.1), (11, aI r23.1), (71, aI r25.1), (72, .one (.ptr 1000 0)), (74, aI (w64 (a1 - (1 : Int)))), (75, aD (.slice .bool) (sub a2 (w64 (Int.tdiv (List.length a2 : Int) (2 : Int))) (List.length a2 : Int)))]) (L' := [(1000, .cells [.slc 2001, .slc 2002]), (2001, .seq (.pair tI (.pair tI tI)) r25.2.1), (2002, .map (.pair tI (.pair tI tI)) tI r25.2.2)]) (obs := []) rfl (by kernel_rfl) allP0 ?_
        obtain ⟨r27, h28, h⟩ := bind_of h
        refine WO_lend2 [(1000, 1000), (2001, 2001), (2002, 2002)] (us := [none, none, none]) (d := 76) (p := True) (j := 10) rfl ⟨by kernel_rfl, by kernel_rfl, by kernel_rfl⟩ trivial (ih_gate_Maker_table_i2 h28) (by kernel_rfl) (by kernel_rfl) ?_
        refine WO_run (j := 12) (k := 2) (orcs := []) (kF := [0, 8, 11, 12, 13]) (kL := [1000, 2001, 2002]) (fr' := [(0, .one (.ptr 1000 0)), (8, aI r15.1), (11, aI r23.1), (12, aI r25.1), (13, aI r27.1)]) (L' := [(1000, .cells [.slc 2001, .slc 2002]), (2001, .seq (.pair tI (.pair tI tI)) r27.2.1), (2002, .map (.pair tI (.pair tI tI)) tI r27.2.2)]) (obs := []) rfl (by kernel_rfl) allP0 ?_
        refine WO_fin [0, 8, 11, 12, 13] [1000, 2001, 2002] (fr' := [(0, .one (.ptr 1000 0)), (8, aI r15.1), (11, aI r23.1), (12, aI r25.1), (13, aI r27.1)]) (L' := [(1000, .cells [.slc 2001, .slc 2002]), (2001, .seq (.pair tI (.pair tI tI)) r27.2.1), (2002, .map (.pair tI (.pair tI tI)) tI r27.2.2)]) (by kernel_rfl) (by kernel_rfl) ?_
        refine seqQ_norm ?_
        refine W_seq (by kernel_rfl) ?_
        refine W_region (by kernel_rfl) ?_
        refine WO_run (j := 4) (k := 4) (orcs := []) (kF := [0, 8, 13, 77, 78, 79, 80]) (kL := [1000, 2001, 2002]) (fr' := [(0, .one (.ptr 1000 0)), (8, aI r15.1), (13, aI r27.1), (77, .one (.ptr 1000 0)), (78, .one (.ptr 1000 0)), (79, aI r23.1), (80, aI r25.1)]) (L' := [(1000, .cells [.slc 2001, .slc 2002]), (2001, .seq (.pair tI (.pair tI tI)) r27.2.1), (2002, .map (.pair tI (.pair tI tI)) tI r27.2.2)]) (obs := []) rfl (by kernel_rfl) allP0 ?_
        obtain ⟨r29, h30, h⟩ := bind_of h
        refine WO_lend2 [(1000, 1000), (2001, 2001), (2002, 2002)] (us := [none, none, none, none]) (d := 81) (p := True) (j := 5) rfl ⟨by kernel_rfl, by kernel_rfl, by kernel_rfl⟩ trivial (gate_Maker_Put_i2_ok h30) (by kernel_rfl) (by kernel_rfl) ?_
        refine WO_run (j := 8) (k := 3) (orcs := []) (kF := [77, 81, 82, 83, 84]) (kL := [1000, 2001, 2002]) (fr' := [(77, .one (.ptr 1000 0)), (81, aI r29.1), (82, .one (.ptr 1000 0)), (83, aI r15.1), (84, aI r27.1)]) (L' := [(1000, .cells [.slc 2001, .slc 2002]), (2001, .seq (.pair tI (.pair tI tI)) r29.2.1), (2002, .map (.pair tI (.pair tI tI)) tI r29.2.2)]) (obs := []) rfl (by kernel_rfl) allP0 ?_
        obtain ⟨r31, h32, h⟩ := bind_of h
        refine WO_lend2 [(1000, 1000), (2001, 2001), (2002, 2002)] (us := [none, none, none, none]) (d := 85) (p := True) (j := 9) rfl ⟨by kernel_rfl, by kernel_rfl, by kernel_rfl⟩ trivial (gate_Maker_Put_i2_ok h32) (by kernel_rfl) (by kernel_rfl) ?_
        obtain ⟨r33, h34, h⟩ := bind_of h
        refine WO_lend2 [(1000, 1000), (2001, 2001), (2002, 2002)] (us := [none, none, none, none]) (d := 86) (p := True) (j := 10) rfl ⟨by kernel_rfl, by kernel_rfl, by kernel_rfl⟩ trivial (gate_Maker_Put_i2_ok h34) (by kernel_rfl) (by kernel_rfl) ?_
        refine WO_run (j := 11) (k := 1) (orcs := []) (kF := [6]) (kL := [1000, 2001, 2002]) (fr' := [(6, aI r33.1)]) (L' := [(1000, .cells [.slc 2001, .slc 2002]), (2001, .seq (.pair tI (.pair tI tI)) r33.2.1), (2002, .map (.pair tI (.pair tI tI)) tI r33.2.2)]) (obs := []) rfl (by kernel_rfl) allP0 ?_
        refine WO_fin [6] [1000, 2001, 2002] (fr' := [(6, aI r33.1)]) (L' := [(1000, .cells [.slc 2001, .slc 2002]), (2001, .seq (.pair tI (.pair tI tI)) r33.2.1), (2002, .map (.pair tI (.pair tI tI)) tI r33.2.2)]) (by kernel_rfl) (by kernel_rfl) ?_
        refine seqQ_norm ?_
        obtain rfl := Option.some.inj h
        refine W_ret [6] [1000, 2001, 2002] (fr' := [(6, aI r33.1)]) (L' := [(1000, .cells [.slc 2001, .slc 2002]), (2001, .seq (.pair tI (.pair tI tI)) r33.2.1), (2002, .map (.pair tI (.pair tI tI)) tI r33.2.2)]) (by kernel_rfl) (by kernel_rfl) ?_
        exact retQ_mk (by kernel_rfl) (by kernel_rfl) (by kernel_rfl)
theorem gate_Maker_table_i2_ok : ∀ {fuel : Nat} {a1 : Int} {a2 : (List Bool)} {c0 : (List (Int × (Int × Int)))} {c1 : (Option (List ((Int × (Int × Int)) × Int)))} {r : (Int × (List (Int × (Int × Int))) × (Option (List ((Int × (Int × Int)) × Int))))}, gate_Maker_table_i2 fuel a1 a2 c0 c1 = some r → FnC Try.prog 33 [.one (.ptr 1000 0), aI a1, aD (.slice .bool) a2] [(1000, .cells [.slc 2001, .slc 2002]), (2001, .seq (.pair tI (.pair tI tI)) c0), (2002, .map (.pair tI (.pair tI tI)) tI c1)] (aI r.1) [(1000, .cells [.slc 2001, .slc 2002]), (2001, .seq (.pair tI (.pair tI tI)) r.2.1), (2002, .map (.pair tI (.pair tI tI)) tI r.2.2)] := by
  intro fuel
  induction fuel with
  | zero => intros a1 a2 c0 c1 r h; cases h
  | succ fuel ih => intros a1 a2 c0 c1 r h; exact gate_Maker_table_i2_step_ok (fun h => ih h) (show gate_Maker_table_i2_step (gate_Maker_table_i2 fuel) fuel a1 a2 c0 c1 = some r from h)

def slices_Clone_LapiGateapiGate (a0 : (List (Int × (Int × Int)))) : Option (List (Int × (Int × Int))) :=
(ck ((0 : Int) + (List.length a0 : Int) ≤ 4294967296)).bind fun _ =>
some ([] ++ a0)
theorem slices_Clone_LapiGateapiGate_ok {a0 : (List (Int × (Int × Int)))} {r : (List (Int × (Int × Int)))} (h : slices_Clone_LapiGateapiGate a0 = some r) : FnC Try.prog 31 [aD (.slice (.pair tI (.pair tI tI))) a0] [] (.one (.slc 5)) [(5, .seq (.pair tI (.pair tI tI)) r)] := by
  refine fnC_of_W (B := bodyOf Try.f31) (n := 8) Try.func31 (by kernel_rfl) (by kernel_rfl) (by kernel_rfl) (by kernel_rfl) (by kernel_rfl) ?_
  intro K
  refine W_seq (by kernel_rfl) ?_
  refine W_run 1 [] [0] [] (fr' := [(0, aD (.slice (.pair tI (.pair tI tI))) a0)]) (L' := []) (obs := []) (by kernel_rfl) (by kernel_rfl) (by kernel_rfl) allP0 ?_
  refine seqQ_norm ?_
  refine W_seq (by kernel_rfl) ?_
  refine W_seq (by kernel_rfl) ?_
  refine W_region (by kernel_rfl) ?_
  refine WO_run (j := 1) (k := 1) (orcs := []) (kF := [0, 3]) (kL := []) (fr' := [(0, aD (.slice (.pair tI (.pair tI tI))) a0), (3, aD (.slice (.pair tI (.pair tI tI))) a0)]) (L' := []) (obs := []) rfl (by kernel_rfl) allP0 ?_
  refine WO_nilcmp (u := (.pair tI (.pair tI tI))) (xs := a0) (d := 4) (j := 2) rfl (by kernel_rfl) (by kernel_rfl) (fun h12 h10 => ?_)
  cases h12
  · refine WO_fin [0, 4] [] (fr' := [(0, aD (.slice (.pair tI (.pair tI tI))) a0), (4, aB false)]) (L' := []) (by kernel_rfl) (by kernel_rfl) ?_
    refine seqQ_norm ?_
    refine W_cond (o := .tmp 4) (b := false) (by kernel_rfl) (by kernel_rfl) (fun h7 => by have := (rfl : false = false).symm.trans h7; cases this) (fun h7 => ?_)
    refine W_skip [0] [] (fr' := [(0, aD (.slice (.pair tI (.pair tI tI))) a0)]) (L' := []) (by kernel_rfl) (by kernel_rfl) ?_
    refine seqQ_norm ?_
    refine W_seq (by kernel_rfl) ?_
    obtain ⟨_, h8, h⟩ := bind_of h
    replace h8 := ck_some h8
    refine W_run 4 [] [2] [5] (fr' := [(2, .one (.slc 5))]) (L' := [(5, .seq (.pair tI (.pair tI tI)) ([] ++ a0))]) (obs := [SmallLen (List.length ([] : (List (Int × (Int × Int)))) + List.length a0)]) (by kernel_rfl) (by kernel_rfl) (by kernel_rfl) (allP1 h8) ?_
    refine seqQ_norm ?_
    obtain rfl := Option.some.inj h
    refine W_ret [2] [5] (fr' := [(2, .one (.slc 5))]) (L' := [(5, .seq (.pair tI (.pair tI tI)) ([] ++ a0))]) (by kernel_rfl) (by kernel_rfl) ?_
    exact retQ_mk (by kernel_rfl) (by kernel_rfl) (by kernel_rfl)
  · replace h10 := h10 rfl
    have h11 : (some [] : Option (List (Int × (Int × Int)))) = ((ck ((0 : Int) + (List.length a0 : Int) ≤ 4294967296)).bind fun _ => some ([] ++ a0)) := by rw [h10]; simp [ck]
    replace h := h11.trans h
    refine WO_fin [0, 4] [] (fr' := [(0, aD (.slice (.pair tI (.pair tI tI))) a0), (4, aB true)]) (L' := []) (by kernel_rfl) (by kernel_rfl) ?_
    refine seqQ_norm ?_
    refine W_cond (o := .tmp 4) (b := true) (by kernel_rfl) (by kernel_rfl) (fun h9 => ?_) (fun h9 => by have := (rfl : true = true).symm.trans h9; cases this)
    refine W_seq (by kernel_rfl) ?_
    refine W_run 1 [] [2] [] (fr' := [(2, .one (.nilS))]) (L' := []) (obs := []) (by kernel_rfl) (by kernel_rfl) (by kernel_rfl) allP0 ?_
    refine seqQ_norm ?_
    obtain rfl := Option.some.inj h
    refine W_mine 2 5 (.pair tI (.pair tI tI)) (by kernel_rfl) ?_
    refine W_ret [2] [5] (fr' := [(2, .one (.slc 5))]) (L' := [(5, .seq (.pair tI (.pair tI tI)) [])]) (by kernel_rfl) (by kernel_rfl) ?_
    refine seqQ_ret ?_
    exact retQ_mk (by kernel_rfl) (by kernel_rfl) (by kernel_rfl)

def gate_Build (fuel : Nat) (a0 : Int) (a1 : (List Bool)) : Option ((List (Int × (Int × Int))) × Int) :=
bif (decide (a0 < (1 : Int))) || (decide (a0 > (5 : Int))) then
(some ([], (1 : Int)))
else
((ck (0 ≤ a0)).bind fun _ =>
bif (List.length a1 : Int) != (bShl .i64 (1 : Int) a0) then
(some ([], (3 : Int)))
else
((gate_Maker_table_i2 fuel a0 a1 [] (none : Option (List ((Int × (Int × Int)) × Int)))).bind fun r4 =>
(ck (0 ≤ (0 : Int) ∧ (0 : Int) ≤ w64 (r4.1 + (1 : Int)) ∧ w64 (r4.1 + (1 : Int)) ≤ (List.length r4.2.1 : Int))).bind fun _ =>
(slices_Clone_LapiGateapiGate (sub r4.2.1 (0 : Int) (w64 (r4.1 + (1 : Int))))).bind fun r7 =>
some (r7, (0 : Int))))
theorem gate_Build_ok {fuel : Nat} {a0 : Int} {a1 : (List Bool)} {r : ((List (Int × (Int × Int))) × Int)} (h : gate_Build fuel a0 a1 = some r) : FnC Try.prog 18 [aI a0, aD (.slice .bool) a1] [] (.tup [.dat (.slice (.pair tI (.pair tI tI))) r.1, .dat tI r.2]) [] := by
  refine fnC_of_W (B := bodyOf Try.f18) (n := 33) Try.func18 (by kernel_rfl) (by kernel_rfl) (by kernel_rfl) (by kernel_rfl) (by kernel_rfl) ?_
  intro K
  refine W_seq (by kernel_rfl) ?_
  refine W_run 2 [] [0, 1] [] (fr' := [(0, aI a0), (1, aD (.slice .bool) a1)]) (L' := []) (obs := []) (by kernel_rfl) (by kernel_rfl) (by kernel_rfl) allP0 ?_
  refine seqQ_norm ?_
  refine W_seq (by kernel_rfl) ?_
  refine W_seq (by kernel_rfl) ?_
  refine W_run 6 [] [0, 1, 13] [] (fr' := [(0, aI a0), (1, aD (.slice .bool) a1), (13, aB ((decide (a0 < (1 : Int))) || (decide (a0 > (5 : Int)))))]) (L' := []) (obs := []) (by kernel_rfl) (by kernel_rfl) (by kernel_rfl) allP0 ?_
  refine seqQ_norm ?_
  refine W_cond (o := .tmp 13) (b := (decide (a0 < (1 : Int))) || (decide (a0 > (5 : Int)))) (by kernel_rfl) (by kernel_rfl) (fun h1 => ?_) (fun h1 => ?_)
  · replace h := ofT h1 h
    refine W_seq (by kernel_rfl) ?_
    refine W_run 2 [] [4, 5] [] (fr' := [(4, .one (.nilS)), (5, aI (1 : Int))]) (L' := []) (obs := []) (by kernel_rfl) (by kernel_rfl) (by kernel_rfl) allP0 ?_
    refine seqQ_norm ?_
    obtain rfl := Option.some.inj h
    refine W_cnv 4 (.slice (.pair tI (.pair tI tI))) (by kernel_rfl) ?_
    refine W_ret [4, 5] [] (fr' := [(4, aD (.slice (.pair tI (.pair tI tI))) []), (5, aI (1 : Int))]) (L' := []) (by kernel_rfl) (by kernel_rfl) ?_
    refine seqQ_ret ?_
    exact retQ_mk (by kernel_rfl) (by kernel_rfl) (by kernel_rfl)
  · replace h := ofF h1 h
    refine W_skip [0, 1] [] (fr' := [(0, aI a0), (1, aD (.slice .bool) a1)]) (L' := []) (by kernel_rfl) (by kernel_rfl) ?_
    refine seqQ_norm ?_
    refine W_seq (by kernel_rfl) ?_
    refine W_seq (by kernel_rfl) ?_
    obtain ⟨_, h2, h⟩ := bind_of h
    replace h2 := ck_some h2
    refine W_run 5 [] [0, 1, 18] [] (fr' := [(0, aI a0), (1, aD (.slice .bool) a1), (18, aB ((List.length a1 : Int) != (bShl .i64 (1 : Int) a0)))]) (L' := []) (obs := [(0 ≤ a0)]) (by kernel_rfl) (by kernel_rfl) (by kernel_rfl) (allP1 h2) ?_
    refine seqQ_norm ?_
    refine W_cond (o := .tmp 18) (b := (List.length a1 : Int) != (bShl .i64 (1 : Int) a0)) (by kernel_rfl) (by kernel_rfl) (fun h3 => ?_) (fun h3 => ?_)
    · replace h := ofT h3 h
      refine W_seq (by kernel_rfl) ?_
      refine W_run 2 [] [4, 5] [] (fr' := [(4, .one (.nilS)), (5, aI (3 : Int))]) (L' := []) (obs := []) (by kernel_rfl) (by kernel_rfl) (by kernel_rfl) allP0 ?_
      refine seqQ_norm ?_
      obtain rfl := Option.some.inj h
      refine W_cnv 4 (.slice (.pair tI (.pair tI tI))) (by kernel_rfl) ?_
      refine W_ret [4, 5] [] (fr' := [(4, aD (.slice (.pair tI (.pair tI tI))) []), (5, aI (3 : Int))]) (L' := []) (by kernel_rfl) (by kernel_rfl) ?_
      refine seqQ_ret ?_
      exact retQ_mk (by kernel_rfl) (by kernel_rfl) (by kernel_rfl)
    · replace h := ofF h3 h
      refine W_skip [0, 1] [] (fr' := [(0, aI a0), (1, aD (.slice .bool) a1)]) (L' := []) (by kernel_rfl) (by kernel_rfl) ?_
      refine seqQ_norm ?_
      refine W_seq (by kernel_rfl) ?_
      refine W_run 3 [] [0, 1, 6] [20] (fr' := [(0, aI a0), (1, aD (.slice .bool) a1), (6, .one (.ptr 20 0))]) (L' := [(20, .cells [.nilS, .nilM])]) (obs := []) (by kernel_rfl) (by kernel_rfl) (by kernel_rfl) allP0 ?_
      refine seqQ_norm ?_
      refine W_seq (by kernel_rfl) ?_
      refine W_region (by kernel_rfl) ?_
      refine WO_run (j := 3) (k := 3) (orcs := []) (kF := [6, 21, 22, 23]) (kL := [20]) (fr' := [(6, .one (.ptr 20 0)), (21, .one (.ptr 20 0)), (22, aI a0), (23, aD (.slice .bool) a1)]) (L' := [(20, .cells [.nilS, .nilM])]) (obs := []) rfl (by kernel_rfl) allP0 ?_
      obtain ⟨r4, h5, h⟩ := bind_of h
      refine WO_cellown 20 0 998 (.pair tI (.pair tI tI)) (by kernel_rfl) ?_
      refine WO_cellownM 20 1 997 (.pair tI (.pair tI tI)) tI (by kernel_rfl) ?_
      refine WO_lend2 [(1000, 20), (2001, 998), (2002, 997)] (us := [none, none, none]) (d := 24) (p := True) (j := 4) rfl ⟨by kernel_rfl, by kernel_rfl, by kernel_rfl⟩ trivial (gate_Maker_table_i2_ok h5) (by kernel_rfl) (by kernel_rfl) ?_
      refine WO_run (j := 5) (k := 1) (orcs := []) (kF := [6, 7]) (kL := [20, 997, 998]) (fr' := [(6, .one (.ptr 20 0)), (7, aI r4.1)]) (L' := [(20, .cells [.slc 998, .slc 997]), (997, .map (.pair tI (.pair tI tI)) tI r4.2.2), (998, .seq (.pair tI (.pair tI tI)) r4.2.1)]) (obs := []) rfl (by kernel_rfl) allP0 ?_
      refine WO_fin [6, 7] [20, 997, 998] (fr' := [(6, .one (.ptr 20 0)), (7, aI r4.1)]) (L' := [(20, .cells [.slc 998, .slc 997]), (997, .map (.pair tI (.pair tI tI)) tI r4.2.2), (998, .seq (.pair tI (.pair tI tI)) r4.2.1)]) (by kernel_rfl) (by kernel_rfl) ?_
      refine seqQ_norm ?_
      refine W_seq (by kernel_rfl) ?_
      refine W_region (by kernel_rfl) ?_
      refine WO_run (j := 6) (k := 6) (orcs := []) (kF := [28, 30]) (kL := [20, 997, 998]) (fr' := [(28, .one (.slc 998)), (30, aI (w64 (r4.1 + (1 : Int))))]) (L' := [(20, .cells [.slc 998, .slc 997]), (997, .map (.pair tI (.pair tI tI)) tI r4.2.2), (998, .seq (.pair tI (.pair tI tI)) r4.2.1)]) (obs := []) rfl (by kernel_rfl) allP0 ?_
      refine WO_frz 998 (by kernel_rfl) ?_
      obtain ⟨_, h6, h⟩ := bind_of h
      replace h6 := ck_some h6
      refine WO_run (j := 7) (k := 1) (orcs := []) (kF := [31]) (kL := [20, 997]) (fr' := [(31, aD (.slice (.pair tI (.pair tI tI))) (sub r4.2.1 (0 : Int) (w64 (r4.1 + (1 : Int)))))]) (L' := [(20, .cells [.dat (.slice (.pair tI (.pair tI tI))) r4.2.1, .slc 997]), (997, .map (.pair tI (.pair tI tI)) tI r4.2.2)]) (obs := [Cuts (0 : Int) (w64 (r4.1 + (1 : Int))) (List.length r4.2.1)]) rfl (by kernel_rfl) (allP1 h6) ?_
      obtain ⟨r7, h8, h⟩ := bind_of h
      refine WO_call1 (us := [none]) (d := 32) (t := 32) (p := True) (j := 8) rfl ⟨by kernel_rfl, by kernel_rfl, by kernel_rfl⟩ trivial (slices_Clone_LapiGateapiGate_ok h8) (by kernel_rfl) ?_
      refine WO_run (j := 10) (k := 2) (orcs := []) (kF := [4, 5]) (kL := [20, 32, 997]) (fr' := [(4, .one (.slc 32)), (5, aI (0 : Int))]) (L' := [(20, .cells [.dat (.slice (.pair tI (.pair tI tI))) r4.2.1, .slc 997]), (32, .seq (.pair tI (.pair tI tI)) r7), (997, .map (.pair tI (.pair tI tI)) tI r4.2.2)]) (obs := []) rfl (by kernel_rfl) allP0 ?_
      refine WO_fin [4, 5] [32] (fr' := [(4, .one (.slc 32)), (5, aI (0 : Int))]) (L' := [(32, .seq (.pair tI (.pair tI tI)) r7)]) (by kernel_rfl) (by kernel_rfl) ?_
      refine seqQ_norm ?_
      obtain rfl := Option.some.inj h
      refine W_frz 32 (by kernel_rfl) ?_
      refine W_ret [4, 5] [] (fr' := [(4, aD (.slice (.pair tI (.pair tI tI))) r7), (5, aI (0 : Int))]) (L' := []) (by kernel_rfl) (by kernel_rfl) ?_
      exact retQ_mk (by kernel_rfl) (by kernel_rfl) (by kernel_rfl)

def ref_Within (a0 : Int) (a1 : Int) (a2 : Int) : Option Bool :=
some ((decide (a0 ≤ a1)) && (decide (a1 ≤ a2)))
theorem ref_Within_ok {a0 : Int} {a1 : Int} {a2 : Int} {r : Bool} (h : ref_Within a0 a1 a2 = some r) : FnC Try.prog 10 [aI a0, aI a1, aI a2] [] (aB r) [] := by
  refine fnC_of_W (B := bodyOf Try.f10) (n := 15) Try.func10 (by kernel_rfl) (by kernel_rfl) (by kernel_rfl) (by kernel_rfl) (by kernel_rfl) ?_
  intro K
  refine W_seq (by kernel_rfl) ?_
  refine W_run 1 [] [0, 1, 2] [] (fr' := [(0, aI a0), (1, aI a1), (2, aI a2)]) (L' := []) (obs := []) (by kernel_rfl) (by kernel_rfl) (by kernel_rfl) allP0 ?_
  refine seqQ_norm ?_
  refine W_seq (by kernel_rfl) ?_
  refine W_run 9 [] [6] [] (fr' := [(6, aB ((decide (a0 ≤ a1)) && (decide (a1 ≤ a2))))]) (L' := []) (obs := []) (by kernel_rfl) (by kernel_rfl) (by kernel_rfl) allP0 ?_
  refine seqQ_norm ?_
  obtain rfl := Option.some.inj h
  refine W_ret [6] [] (fr' := [(6, aB ((decide (a0 ≤ a1)) && (decide (a1 ≤ a2))))]) (L' := []) (by kernel_rfl) (by kernel_rfl) ?_
  exact retQ_mk (by kernel_rfl) (by kernel_rfl) (by kernel_rfl)

def ref_Inside_b1 (a0 : Int) (i11 : Int) (v14 : Int) (x12 : Unit) : Option (Flow Unit (Esc Bool Unit)) :=
bif (decide (v14 < (0 : Int))) || (decide (v14 ≥ a0)) then
(some (.done (.ret false)))
else
(some (.next ()))
@[reducible] def ref_Inside_s2 (a0 : Int) (a1 : (List Int)) (v : Int × Unit) : Fr × LL := ([(0, aI a0), (7, aD (.slice tI) a1), (8, aI (List.length a1 : Int)), (9, aI v.1)], [])
@[reducible] def ref_Inside_s3 (v : Bool) : Fr × LL := ([(4, aB v)], [])
@[reducible] def ref_Inside_s4 (v : Unit) : Fr × LL := ([], [])
def ref_Inside (a0 : Int) (a1 : (List Int)) : Option Bool :=
(forL (ref_Inside_b1 a0) (fun x12 => (.brk ())) a1 0 ()).bind fun v19 =>
match v19 with
| .ret v24 =>
(some v24)
| .brk v25 =>
(some true)
theorem ref_Inside_ok {a0 : Int} {a1 : (List Int)} {r : Bool} (h : ref_Inside a0 a1 = some r) : FnC Try.prog 28 [aI a0, aD (.slice tI) a1] [] (aB r) [] := by
  refine fnC_of_W (B := bodyOf Try.f28) (n := 21) Try.func28 (by kernel_rfl) (by kernel_rfl) (by kernel_rfl) (by kernel_rfl) (by kernel_rfl) ?_
  intro K
  refine W_seq (by kernel_rfl) ?_
  refine W_run 1 [] [0, 1] [] (fr' := [(0, aI a0), (1, aD (.slice tI) a1)]) (L' := []) (obs := []) (by kernel_rfl) (by kernel_rfl) (by kernel_rfl) allP0 ?_
  refine seqQ_norm ?_
  refine W_seq (by kernel_rfl) ?_
  refine W_seq (by kernel_rfl) ?_
  refine W_run 3 [] [0, 7, 8, 9] [] (fr' := [(0, aI a0), (7, aD (.slice tI) a1), (8, aI (List.length a1 : Int)), (9, aI (0 : Int))]) (L' := []) (obs := []) (by kernel_rfl) (by kernel_rfl) (by kernel_rfl) allP0 ?_
  refine seqQ_norm ?_
  refine W_block (id := 0) (by kernel_rfl) ?_
  obtain ⟨v19, h20, h⟩ := bind_of h
  refine W_len (t := 7) (u := tI) (xs := a1) (by kernel_rfl) (fun h23 => ?_)
  obtain ⟨h21, h22⟩ := forL_iter h23 h20
  refine W_weaken [0, 7, 8, 9] [] (fr' := ((ref_Inside_s2 a0 a1) ((0 : Int), ())).1) (L' := ((ref_Inside_s2 a0 a1) ((0 : Int), ())).2) (by kernel_rfl) ?_
  refine W_cutK (W_loop (S := (ref_Inside_s2 a0 a1)) (J := (escQ (exQ .ret ref_Inside_s3) (exQ (.exit 0) ref_Inside_s4))) (by kernel_rfl) ?_ h21 _ v19 h22) ?_
  · rintro ⟨i11, x12⟩ s h
    refine W_seq (by kernel_rfl) ?_
    refine W_run 1 [] [0, 7, 8, 9, 10] [] (fr' := [(0, aI a0), (7, aD (.slice tI) a1), (8, aI (List.length a1 : Int)), (9, aI i11), (10, aB (decide (i11 < (List.length a1 : Int))))]) (L' := []) (obs := []) (by kernel_rfl) (by kernel_rfl) (by kernel_rfl) allP0 ?_
    refine seqQ_norm ?_
    refine W_seq (by kernel_rfl) ?_
    refine W_cond (o := .tmp 10) (b := decide (i11 < (List.length a1 : Int))) (by kernel_rfl) (by kernel_rfl) (fun h16 => ?_) (fun h16 => ?_)
    · replace h := stepL_true h16 h
      obtain ⟨v14, _, h15, h, rfl⟩ := h
      refine W_skip [0, 7, 8, 9] [] (fr' := [(0, aI a0), (7, aD (.slice tI) a1), (8, aI (List.length a1 : Int)), (9, aI i11)]) (L' := []) (by kernel_rfl) (by kernel_rfl) ?_
      refine seqQ_norm ?_
      refine W_seq (by kernel_rfl) ?_
      refine W_block (id := 1) (by kernel_rfl) ?_
      refine W_seq (by kernel_rfl) ?_
      refine W_run 3 [(1, .val (.dat tI v14))] [0, 6, 7, 8, 9] [] (fr' := [(0, aI a0), (6, aI v14), (7, aD (.slice tI) a1), (8, aI (List.length a1 : Int)), (9, aI i11)]) (L' := []) (obs := [Idx a1 i11 v14]) (by kernel_rfl) (by kernel_rfl) (by kernel_rfl) (allP1 (Idx.of h15)) ?_
      refine seqQ_norm ?_
      refine W_seq (by kernel_rfl) ?_
      refine W_run 7 [] [0, 7, 8, 9, 19] [] (fr' := [(0, aI a0), (7, aD (.slice tI) a1), (8, aI (List.length a1 : Int)), (9, aI i11), (19, aB ((decide (v14 < (0 : Int))) || (decide (v14 ≥ a0))))]) (L' := []) (obs := []) (by kernel_rfl) (by kernel_rfl) (by kernel_rfl) allP0 ?_
      refine seqQ_norm ?_
      refine W_cond (o := .tmp 19) (b := (decide (v14 < (0 : Int))) || (decide (v14 ≥ a0))) (by kernel_rfl) (by kernel_rfl) (fun h17 => ?_) (fun h17 => ?_)
      · replace h := ofT h17 h
        refine W_seq (by kernel_rfl) ?_
        refine W_run 1 [] [4] [] (fr' := [(4, aB false)]) (L' := []) (obs := []) (by kernel_rfl) (by kernel_rfl) (by kernel_rfl) allP0 ?_
        refine seqQ_norm ?_
        obtain rfl := Option.some.inj h
        refine W_ret [4] [] (fr' := [(4, aB false)]) (L' := []) (by kernel_rfl) (by kernel_rfl) ?_
        refine blockQ_ret ?_
        refine seqQ_ret ?_
        refine round_ret ?_
        refine escQ_ret ?_
        exact exQ_mk (by kernel_rfl) (by kernel_rfl)
      · replace h := ofF h17 h
        refine W_skip [0, 7, 8, 9] [] (fr' := [(0, aI a0), (7, aD (.slice tI) a1), (8, aI (List.length a1 : Int)), (9, aI i11)]) (L' := []) (by kernel_rfl) (by kernel_rfl) ?_
        refine blockQ_norm ?_
        refine seqQ_norm ?_
        obtain rfl := Option.some.inj h
        refine W_run 2 [] [0, 7, 8, 9] [] (fr' := [(0, aI a0), (7, aD (.slice tI) a1), (8, aI (List.length a1 : Int)), (9, aI (w64 (i11 + (1 : Int))))]) (L' := []) (obs := []) (by kernel_rfl) (by kernel_rfl) (by kernel_rfl) allP0 ?_
        exact round_next' (by kernel_rfl) (by kernel_rfl)
    · obtain rfl := stepL_false h16 h
      refine W_exit (id := 0) [] [] (fr' := []) (L' := []) (by kernel_rfl) (by kernel_rfl) ?_
      refine seqQ_exit ?_
      refine round_exit ?_
      refine escQ_brk ?_
      exact exQ_mk (by kernel_rfl) (by kernel_rfl)
  · intro e fr L hJ
    rcases v19 with v24 | v25
    · obtain ⟨rfl, rfl, rfl⟩ := hJ
      obtain rfl := Option.some.inj h
      refine LT_keep [4] [] (fr' := [(4, aB v24)]) (L' := []) (by kernel_rfl) ?_
      refine blockQ_ret ?_
      refine seqQ_ret ?_
      exact retQ_mk (by kernel_rfl) (by kernel_rfl) (by kernel_rfl)
    · obtain ⟨rfl, rfl, rfl⟩ := hJ
      refine LT_keep [] [] (fr' := []) (L' := []) (by kernel_rfl) ?_
      refine blockQ_hit ?_
      refine seqQ_norm ?_
      refine W_seq (by kernel_rfl) ?_
      refine W_run 1 [] [4] [] (fr' := [(4, aB true)]) (L' := []) (obs := []) (by kernel_rfl) (by kernel_rfl) (by kernel_rfl) allP0 ?_
      refine seqQ_norm ?_
      obtain rfl := Option.some.inj h
      refine W_ret [4] [] (fr' := [(4, aB true)]) (L' := []) (by kernel_rfl) (by kernel_rfl) ?_
      exact retQ_mk (by kernel_rfl) (by kernel_rfl) (by kernel_rfl)

def ref_GatesCheck_g7 (i105 : Int) (v108 : (Int × (Int × Int))) : Option Bool :=
bif v108.1 != (1 : Int) then
((ref_Inside i105 [v108.2.1]).bind fun r147 =>
bif !r147 then
(some true)
else
(bif decide (v108.1 ≥ (3 : Int)) then
((ref_Inside i105 [v108.2.2]).bind fun r151 =>
some (!r151))
else
(some false)))
else
(bif decide (v108.1 ≥ (3 : Int)) then
((ref_Inside i105 [v108.2.2]).bind fun r154 =>
some (!r154))
else
(some false))
@[reducible] def ref_GatesCheck_s8 (a0 : Int) (a1 : (List (Int × (Int × Int)))) (i105 : Int) (v : Bool) : Fr × LL := ([(0, aI a0), (7, aD (.slice (.pair tI (.pair tI tI))) a1), (8, aI (List.length a1 : Int)), (9, aI i105), (52, aB v)], [])
@[reducible] def ref_GatesCheck_s9 (a0 : Int) (a1 : (List (Int × (Int × Int)))) (i105 : Int) (v108 : (Int × (Int × Int))) (v : Bool) : Fr × LL := ([(0, aI a0), (5, aI i105), (6, .one (.ptr 6 0)), (7, aD (.slice (.pair tI (.pair tI tI))) a1), (8, aI (List.length a1 : Int)), (9, aI i105), (28, aB v)], [(6, .one (.pair tI (.pair tI tI)) v108)])
def ref_GatesCheck_b10 (a0 : Int) (i105 : Int) (v108 : (Int × (Int × Int))) (x106 : Unit) : Option (Flow Unit (Esc Int Unit)) :=
(ref_Within (1 : Int) v108.1 (4 : Int)).bind fun r111 =>
bif !r111 then
(some (.done (.ret (6 : Int))))
else
((bif v108.1 == (1 : Int) then
((ref_Inside a0 [v108.2.1]).bind fun r121 =>
some (!r121))
else
(some false)).bind fun v123 =>
bif v123 then
(some (.done (.ret (4 : Int))))
else
((ref_GatesCheck_g7 i105 v108).bind fun v156 =>
bif v156 then
(some (.done (.ret (2 : Int))))
else
(some (.next ()))))
@[reducible] def ref_GatesCheck_s11 (a0 : Int) (a1 : (List (Int × (Int × Int)))) (v : Int × Unit) : Fr × LL := ([(0, aI a0), (7, aD (.slice (.pair tI (.pair tI tI))) a1), (8, aI (List.length a1 : Int)), (9, aI v.1)], [])
@[reducible] def ref_GatesCheck_s12 (v : Int) : Fr × LL := ([(4, aI v)], [])
@[reducible] def ref_GatesCheck_s13 (v : Unit) : Fr × LL := ([], [])
def ref_GatesCheck (a0 : Int) (a1 : (List (Int × (Int × Int)))) : Option Int :=
(forL (ref_GatesCheck_b10 a0) (fun x106 => (.brk ())) a1 0 ()).bind fun v160 =>
match v160 with
| .ret v165 =>
(some v165)
| .brk v166 =>
(some (0 : Int))
theorem ref_GatesCheck_ok {a0 : Int} {a1 : (List (Int × (Int × Int)))} {r : Int} (h : ref_GatesCheck a0 a1 = some r) : FnC Try.prog 16 [aI a0, aD (.slice (.pair tI (.pair tI tI))) a1] [] (aI r) [] := by
  refine fnC_of_W (B := bodyOf Try.f16) (n := 54) Try.func16 (by kernel_rfl) (by kernel_rfl) (by kernel_rfl) (by kernel_rfl) (by kernel_rfl) ?_
  intro K
  refine W_seq (by kernel_rfl) ?_
  refine W_run 1 [] [0, 1] [] (fr' := [(0, aI a0), (1, aD (.slice (.pair tI (.pair tI tI))) a1)]) (L' := []) (obs := []) (by kernel_rfl) (by kernel_rfl) (by kernel_rfl) allP0 ?_
  refine seqQ_norm ?_
  refine W_seq (by kernel_rfl) ?_
  refine W_seq (by kernel_rfl) ?_
  refine W_run 3 [] [0, 7, 8, 9] [] (fr' := [(0, aI a0), (7, aD (.slice (.pair tI (.pair tI tI))) a1), (8, aI (List.length a1 : Int)), (9, aI (0 : Int))]) (L' := []) (obs := []) (by kernel_rfl) (by kernel_rfl) (by kernel_rfl) allP0 ?_
  refine seqQ_norm ?_
  refine W_block (id := 0) (by kernel_rfl) ?_
  obtain ⟨v160, h161, h⟩ := bind_of h
  refine W_len (t := 7) (u := (.pair tI (.pair tI tI))) (xs := a1) (by kernel_rfl) (fun h164 => ?_)
  obtain ⟨h162, h163⟩ := forL_iter h164 h161
  refine W_weaken [0, 7, 8, 9] [] (fr' := ((ref_GatesCheck_s11 a0 a1) ((0 : Int), ())).1) (L' := ((ref_GatesCheck_s11 a0 a1) ((0 : Int), ())).2) (by kernel_rfl) ?_
  refine W_cutK (W_loop (S := (ref_GatesCheck_s11 a0 a1)) (J := (escQ (exQ .ret ref_GatesCheck_s12) (exQ (.exit 0) ref_GatesCheck_s13))) (by kernel_rfl) ?_ h162 _ v160 h163) ?_
  · rintro ⟨i105, x106⟩ s h
    refine W_seq (by kernel_rfl) ?_
    refine W_run 1 [] [0, 7, 8, 9, 10] [] (fr' := [(0, aI a0), (7, aD (.slice (.pair tI (.pair tI tI))) a1), (8, aI (List.length a1 : Int)), (9, aI i105), (10, aB (decide (i105 < (List.length a1 : Int))))]) (L' := []) (obs := []) (by kernel_rfl) (by kernel_rfl) (by kernel_rfl) allP0 ?_
    refine seqQ_norm ?_
    refine W_seq (by kernel_rfl) ?_
    refine W_cond (o := .tmp 10) (b := decide (i105 < (List.length a1 : Int))) (by kernel_rfl) (by kernel_rfl) (fun h110 => ?_) (fun h110 => ?_)
    · replace h := stepL_true h110 h
      obtain ⟨v108, _, h109, h, rfl⟩ := h
      refine W_skip [0, 7, 8, 9] [] (fr' := [(0, aI a0), (7, aD (.slice (.pair tI (.pair tI tI))) a1), (8, aI (List.length a1 : Int)), (9, aI i105)]) (L' := []) (by kernel_rfl) (by kernel_rfl) ?_
      refine seqQ_norm ?_
      refine W_seq (by kernel_rfl) ?_
      refine W_block (id := 1) (by kernel_rfl) ?_
      refine W_seq (by kernel_rfl) ?_
      refine W_run 6 [(3, .val (.dat (.pair tI (.pair tI tI)) v108)), (7, .typed)] [0, 5, 6, 7, 8, 9] [6] (fr' := [(0, aI a0), (5, aI i105), (6, .one (.ptr 6 0)), (7, aD (.slice (.pair tI (.pair tI tI))) a1), (8, aI (List.length a1 : Int)), (9, aI i105)]) (L' := [(6, .one (.pair tI (.pair tI tI)) v108)]) (obs := [Idx a1 i105 v108, True]) (by kernel_rfl) (by kernel_rfl) (by kernel_rfl) (allP2 (Idx.of h109) (allP1 trivial)) ?_
      refine seqQ_norm ?_
      refine W_seq (by kernel_rfl) ?_
      refine W_seq (by kernel_rfl) ?_
      refine W_region (by kernel_rfl) ?_
      refine WO_run (j := 2) (k := 2) (orcs := []) (kF := [0, 5, 6, 7, 8, 9, 15]) (kL := [6]) (fr' := [(0, aI a0), (5, aI i105), (6, .one (.ptr 6 0)), (7, aD (.slice (.pair tI (.pair tI tI))) a1), (8, aI (List.length a1 : Int)), (9, aI i105), (15, aI v108.1)]) (L' := [(6, .one (.pair tI (.pair tI tI)) v108)]) (obs := []) rfl (by kernel_rfl) allP0 ?_
      obtain ⟨r111, h112, h⟩ := bind_of h
      refine WO_call0 (us := [none, none, none]) (d := 16) (p := True) (j := 3) rfl ⟨by kernel_rfl, by kernel_rfl, by kernel_rfl⟩ trivial (ref_Within_ok h112) (by kernel_rfl) ?_
      refine WO_run (j := 4) (k := 1) (orcs := []) (kF := [0, 5, 6, 7, 8, 9, 17]) (kL := [6]) (fr' := [(0, aI a0), (5, aI i105), (6, .one (.ptr 6 0)), (7, aD (.slice (.pair tI (.pair tI tI))) a1), (8, aI (List.length a1 : Int)), (9, aI i105), (17, aB (!r111))]) (L' := [(6, .one (.pair tI (.pair tI tI)) v108)]) (obs := []) rfl (by kernel_rfl) allP0 ?_
      refine WO_fin [0, 5, 6, 7, 8, 9, 17] [6] (fr' := [(0, aI a0), (5, aI i105), (6, .one (.ptr 6 0)), (7, aD (.slice (.pair tI (.pair tI tI))) a1), (8, aI (List.length a1 : Int)), (9, aI i105), (17, aB (!r111))]) (L' := [(6, .one (.pair tI (.pair tI tI)) v108)]) (by kernel_rfl) (by kernel_rfl) ?_
      refine seqQ_norm ?_
      refine W_cond (o := .tmp 17) (b := !r111) (by kernel_rfl) (by kernel_rfl) (fun h113 => ?_) (fun h113 => ?_)
      · replace h := ofT h113 h
        refine W_seq (by kernel_rfl) ?_
        refine W_run 1 [] [4] [] (fr' := [(4, aI (6 : Int))]) (L' := []) (obs := []) (by kernel_rfl) (by kernel_rfl) (by kernel_rfl) allP0 ?_
        refine seqQ_norm ?_
        obtain rfl := Option.some.inj h
        refine W_ret [4] [] (fr' := [(4, aI (6 : Int))]) (L' := []) (by kernel_rfl) (by kernel_rfl) ?_
        refine seqQ_ret ?_
        refine blockQ_ret ?_
        refine seqQ_ret ?_
        refine round_ret ?_
        refine escQ_ret ?_
        exact exQ_mk (by kernel_rfl) (by kernel_rfl)
      · replace h := ofF h113 h
        refine W_skip [0, 5, 6, 7, 8, 9] [6] (fr' := [(0, aI a0), (5, aI i105), (6, .one (.ptr 6 0)), (7, aD (.slice (.pair tI (.pair tI tI))) a1), (8, aI (List.length a1 : Int)), (9, aI i105)]) (L' := [(6, .one (.pair tI (.pair tI tI)) v108)]) (by kernel_rfl) (by kernel_rfl) ?_
        refine seqQ_norm ?_
        refine W_seq (by kernel_rfl) ?_
        refine W_seq (by kernel_rfl) ?_
        obtain ⟨v123, h124, h⟩ := bind_of h
        refine W_cutK (Q' := (exQ .normal (ref_GatesCheck_s9 a0 a1 i105 v108)) v123) ?_ ?_
        · replace h := h124
          refine W_region (by kernel_rfl) ?_
          refine WO_run (j := 4) (k := 4) (orcs := []) (kF := [0, 5, 6, 7, 8, 9, 21]) (kL := [6]) (fr' := [(0, aI a0), (5, aI i105), (6, .one (.ptr 6 0)), (7, aD (.slice (.pair tI (.pair tI tI))) a1), (8, aI (List.length a1 : Int)), (9, aI i105), (21, aB (v108.1 == (1 : Int)))]) (L' := [(6, .one (.pair tI (.pair tI tI)) v108)]) (obs := []) rfl (by kernel_rfl) allP0 ?_
          rcases Bool.eq_false_or_eq_true (v108.1 == (1 : Int)) with h120 | h120
          · replace h := ofT h120 h
            refine WO_run (j := 8) (k := 4) (orcs := [(8, .known true), (10, .known true), (12, .known true), (14, .known true)]) (kF := [0, 5, 6, 7, 8, 9, 21, 22, 25]) (kL := [6, 25]) (fr' := [(0, aI a0), (5, aI i105), (6, .one (.ptr 6 0)), (7, aD (.slice (.pair tI (.pair tI tI))) a1), (8, aI (List.length a1 : Int)), (9, aI i105), (21, aB (v108.1 == (1 : Int))), (22, aI a0), (25, .one (.slc 25))]) (L' := [(6, .one (.pair tI (.pair tI tI)) v108), (25, .seq tI [v108.2.1])]) (obs := [((v108.1 == (1 : Int)) = true), ((v108.1 == (1 : Int)) = true), ((v108.1 == (1 : Int)) = true), ((v108.1 == (1 : Int)) = true)]) rfl (by kernel_rfl) (allP2 h120 (allP2 h120 (allP2 h120 (allP1 h120)))) ?_
            obtain ⟨r121, h122, h⟩ := bind_of h
            refine WO_frz 25 (by kernel_rfl) ?_
            refine WO_call0 (us := [none, none]) (d := 26) (p := ((v108.1 == (1 : Int)) = true)) (j := 9) rfl ⟨by kernel_rfl, by kernel_rfl, by kernel_rfl⟩ h120 (ref_Inside_ok h122) (by kernel_rfl) ?_
            refine WO_run (j := 11) (k := 2) (orcs := [(18, .known true), (21, .val (.dat .bool true))]) (kF := [0, 5, 6, 7, 8, 9, 28]) (kL := [6]) (fr' := [(0, aI a0), (5, aI i105), (6, .one (.ptr 6 0)), (7, aD (.slice (.pair tI (.pair tI tI))) a1), (8, aI (List.length a1 : Int)), (9, aI i105), (28, aB (!r121))]) (L' := [(6, .one (.pair tI (.pair tI tI)) v108)]) (obs := [((v108.1 == (1 : Int)) = true), ((v108.1 == (1 : Int)) = true)]) rfl (by kernel_rfl) (allP2 h120 (allP1 h120)) ?_
            obtain rfl := Option.some.inj h
            refine WO_fin [0, 5, 6, 7, 8, 9, 28] [6] (fr' := [(0, aI a0), (5, aI i105), (6, .one (.ptr 6 0)), (7, aD (.slice (.pair tI (.pair tI tI))) a1), (8, aI (List.length a1 : Int)), (9, aI i105), (28, aB (!r121))]) (L' := [(6, .one (.pair tI (.pair tI tI)) v108)]) (by kernel_rfl) (by kernel_rfl) ?_
            exact exQ_mk (by kernel_rfl) (by kernel_rfl)
          · replace h := ofF h120 h
            refine WO_run (j := 11) (k := 7) (orcs := [(8, .known false), (10, .known false), (12, .known false), (14, .known false), (16, .known false), (18, .known false), (21, .val (.dat .bool false))]) (kF := [0, 5, 6, 7, 8, 9, 28]) (kL := [6]) (fr' := [(0, aI a0), (5, aI i105), (6, .one (.ptr 6 0)), (7, aD (.slice (.pair tI (.pair tI tI))) a1), (8, aI (List.length a1 : Int)), (9, aI i105), (28, aB false)]) (L' := [(6, .one (.pair tI (.pair tI tI)) v108)]) (obs := [((v108.1 == (1 : Int)) = false), ((v108.1 == (1 : Int)) = false), ((v108.1 == (1 : Int)) = false), ((v108.1 == (1 : Int)) = false), ((v108.1 == (1 : Int)) = false), ((v108.1 == (1 : Int)) = false), ((v108.1 == (1 : Int)) = false)]) rfl (by kernel_rfl) (allP2 h120 (allP2 h120 (allP2 h120 (allP2 h120 (allP2 h120 (allP2 h120 (allP1 h120))))))) ?_
            obtain rfl := Option.some.inj h
            refine WO_fin [0, 5, 6, 7, 8, 9, 28] [6] (fr' := [(0, aI a0), (5, aI i105), (6, .one (.ptr 6 0)), (7, aD (.slice (.pair tI (.pair tI tI))) a1), (8, aI (List.length a1 : Int)), (9, aI i105), (28, aB false)]) (L' := [(6, .one (.pair tI (.pair tI tI)) v108)]) (by kernel_rfl) (by kernel_rfl) ?_
            exact exQ_mk (by kernel_rfl) (by kernel_rfl)
        · intro e fr L hJ
          obtain ⟨rfl, rfl, rfl⟩ := hJ
          refine LT_keep [0, 5, 6, 7, 8, 9, 28] [6] (fr' := [(0, aI a0), (5, aI i105), (6, .one (.ptr 6 0)), (7, aD (.slice (.pair tI (.pair tI tI))) a1), (8, aI (List.length a1 : Int)), (9, aI i105), (28, aB v123)]) (L' := [(6, .one (.pair tI (.pair tI tI)) v108)]) (by kernel_rfl) ?_
          refine seqQ_norm ?_
          refine W_cond (o := .tmp 28) (b := v123) (by kernel_rfl) (by kernel_rfl) (fun h125 => ?_) (fun h125 => ?_)
          · replace h := ofT h125 h
            refine W_seq (by kernel_rfl) ?_
            refine W_run 1 [] [4] [] (fr' := [(4, aI (4 : Int))]) (L' := []) (obs := []) (by kernel_rfl) (by kernel_rfl) (by kernel_rfl) allP0 ?_
            refine seqQ_norm ?_
            obtain rfl := Option.some.inj h
            refine W_ret [4] [] (fr' := [(4, aI (4 : Int))]) (L' := []) (by kernel_rfl) (by kernel_rfl) ?_
            refine seqQ_ret ?_
            refine blockQ_ret ?_
            refine seqQ_ret ?_
            refine round_ret ?_
            refine escQ_ret ?_
            exact exQ_mk (by kernel_rfl) (by kernel_rfl)
          · replace h := ofF h125 h
            refine W_skip [0, 5, 6, 7, 8, 9] [6] (fr' := [(0, aI a0), (5, aI i105), (6, .one (.ptr 6 0)), (7, aD (.slice (.pair tI (.pair tI tI))) a1), (8, aI (List.length a1 : Int)), (9, aI i105)]) (L' := [(6, .one (.pair tI (.pair tI tI)) v108)]) (by kernel_rfl) (by kernel_rfl) ?_
            refine seqQ_norm ?_
            refine W_seq (by kernel_rfl) ?_
            obtain ⟨v156, h157, h⟩ := bind_of h
            refine W_cutK (Q' := (exQ .normal (ref_GatesCheck_s8 a0 a1 i105)) v156) ?_ ?_
            · replace h := h157
              refine W_region (by kernel_rfl) ?_
              refine WO_run (j := 4) (k := 4) (orcs := []) (kF := [0, 5, 6, 7, 8, 9, 32]) (kL := [6]) (fr' := [(0, aI a0), (5, aI i105), (6, .one (.ptr 6 0)), (7, aD (.slice (.pair tI (.pair tI tI))) a1), (8, aI (List.length a1 : Int)), (9, aI i105), (32, aB (v108.1 != (1 : Int)))]) (L' := [(6, .one (.pair tI (.pair tI tI)) v108)]) (obs := []) rfl (by kernel_rfl) allP0 ?_
              rcases Bool.eq_false_or_eq_true (v108.1 != (1 : Int)) with h146 | h146
              · replace h := ofT h146 h
                refine WO_run (j := 8) (k := 4) (orcs := [(8, .known true), (10, .known true), (12, .known true), (14, .known true)]) (kF := [0, 5, 6, 7, 8, 9, 32, 33, 36]) (kL := [6, 36]) (fr' := [(0, aI a0), (5, aI i105), (6, .one (.ptr 6 0)), (7, aD (.slice (.pair tI (.pair tI tI))) a1), (8, aI (List.length a1 : Int)), (9, aI i105), (32, aB (v108.1 != (1 : Int))), (33, aI i105), (36, .one (.slc 36))]) (L' := [(6, .one (.pair tI (.pair tI tI)) v108), (36, .seq tI [v108.2.1])]) (obs := [((v108.1 != (1 : Int)) = true), ((v108.1 != (1 : Int)) = true), ((v108.1 != (1 : Int)) = true), ((v108.1 != (1 : Int)) = true)]) rfl (by kernel_rfl) (allP2 h146 (allP2 h146 (allP2 h146 (allP1 h146)))) ?_
                obtain ⟨r147, h148, h⟩ := bind_of h
                refine WO_frz 36 (by kernel_rfl) ?_
                refine WO_call0 (us := [none, none]) (d := 37) (p := ((v108.1 != (1 : Int)) = true)) (j := 9) rfl ⟨by kernel_rfl, by kernel_rfl, by kernel_rfl⟩ h146 (ref_Inside_ok h148) (by kernel_rfl) ?_
                refine WO_run (j := 12) (k := 3) (orcs := [(18, .known true), (21, .val (.dat .bool true))]) (kF := [0, 5, 6, 7, 8, 9, 40]) (kL := [6]) (fr' := [(0, aI a0), (5, aI i105), (6, .one (.ptr 6 0)), (7, aD (.slice (.pair tI (.pair tI tI))) a1), (8, aI (List.length a1 : Int)), (9, aI i105), (40, aB (!r147))]) (L' := [(6, .one (.pair tI (.pair tI tI)) v108)]) (obs := [((v108.1 != (1 : Int)) = true), ((v108.1 != (1 : Int)) = true)]) rfl (by kernel_rfl) (allP2 h146 (allP1 h146)) ?_
                rcases Bool.eq_false_or_eq_true (!r147) with h149 | h149
                · replace h := ofT h149 h
                  refine WO_run (j := 24) (k := 12) (orcs := [(24, .known true), (26, .known true), (28, .known true), (30, .known true), (32, .known true), (34, .known true), (36, .known true), (38, .known true), (40, .known true), (42, .known true), (44, .known true), (47, .val (.dat .bool true))]) (kF := [0, 7, 8, 9, 52]) (kL := [6]) (fr' := [(0, aI a0), (7, aD (.slice (.pair tI (.pair tI tI))) a1), (8, aI (List.length a1 : Int)), (9, aI i105), (52, aB true)]) (L' := [(6, .one (.pair tI (.pair tI tI)) v108)]) (obs := [((!r147) = true), ((!r147) = true), ((!r147) = true), ((!r147) = true), ((!r147) = true), ((!r147) = true)]) rfl (by kernel_rfl) (allP2 h149 (allP2 h149 (allP2 h149 (allP2 h149 (allP2 h149 (allP1 h149)))))) ?_
                  obtain rfl := Option.some.inj h
                  refine WO_fin [0, 7, 8, 9, 52] [] (fr' := [(0, aI a0), (7, aD (.slice (.pair tI (.pair tI tI))) a1), (8, aI (List.length a1 : Int)), (9, aI i105), (52, aB true)]) (L' := []) (by kernel_rfl) (by kernel_rfl) ?_
                  exact exQ_mk (by kernel_rfl) (by kernel_rfl)
                · replace h := ofF h149 h
                  refine WO_run (j := 16) (k := 4) (orcs := [(24, .known false), (26, .known false), (28, .known false), (30, .known false)]) (kF := [0, 5, 6, 7, 8, 9, 40, 44]) (kL := [6]) (fr' := [(0, aI a0), (5, aI i105), (6, .one (.ptr 6 0)), (7, aD (.slice (.pair tI (.pair tI tI))) a1), (8, aI (List.length a1 : Int)), (9, aI i105), (40, aB (!r147)), (44, aB (decide (v108.1 ≥ (3 : Int))))]) (L' := [(6, .one (.pair tI (.pair tI tI)) v108)]) (obs := [((!r147) = false), ((!r147) = false), ((!r147) = false), ((!r147) = false)]) rfl (by kernel_rfl) (allP2 h149 (allP2 h149 (allP2 h149 (allP1 h149)))) ?_
                  rcases Bool.eq_false_or_eq_true (decide (v108.1 ≥ (3 : Int))) with h150 | h150
                  · replace h := ofT h150 h
                    refine WO_run (j := 20) (k := 4) (orcs := [(32, .known true), (34, .known true), (36, .known true), (38, .known true)]) (kF := [0, 7, 8, 9, 40, 44, 45, 48]) (kL := [6, 48]) (fr' := [(0, aI a0), (7, aD (.slice (.pair tI (.pair tI tI))) a1), (8, aI (List.length a1 : Int)), (9, aI i105), (40, aB (!r147)), (44, aB (decide (v108.1 ≥ (3 : Int)))), (45, aI i105), (48, .one (.slc 48))]) (L' := [(6, .one (.pair tI (.pair tI tI)) v108), (48, .seq tI [v108.2.2])]) (obs := [((decide (v108.1 ≥ (3 : Int))) = true), ((decide (v108.1 ≥ (3 : Int))) = true), ((decide (v108.1 ≥ (3 : Int))) = true), ((decide (v108.1 ≥ (3 : Int))) = true)]) rfl (by kernel_rfl) (allP2 h150 (allP2 h150 (allP2 h150 (allP1 h150)))) ?_
                    obtain ⟨r151, h152, h⟩ := bind_of h
                    refine WO_frz 48 (by kernel_rfl) ?_
                    refine WO_call0 (us := [none, none]) (d := 49) (p := ((decide (v108.1 ≥ (3 : Int))) = true)) (j := 21) rfl ⟨by kernel_rfl, by kernel_rfl, by kernel_rfl⟩ h150 (ref_Inside_ok h152) (by kernel_rfl) ?_
                    refine WO_run (j := 24) (k := 3) (orcs := [(42, .known true), (44, .known false), (45, .val (.dat .bool true)), (47, .val (.dat .bool false))]) (kF := [0, 7, 8, 9, 52]) (kL := [6]) (fr' := [(0, aI a0), (7, aD (.slice (.pair tI (.pair tI tI))) a1), (8, aI (List.length a1 : Int)), (9, aI i105), (52, aB (!r151))]) (L' := [(6, .one (.pair tI (.pair tI tI)) v108)]) (obs := [((decide (v108.1 ≥ (3 : Int))) = true), ((!r147) = false), ((decide (v108.1 ≥ (3 : Int))) = true), ((!r147) = false)]) rfl (by kernel_rfl) (allP2 h150 (allP2 h149 (allP2 h150 (allP1 h149)))) ?_
                    obtain rfl := Option.some.inj h
                    refine WO_fin [0, 7, 8, 9, 52] [] (fr' := [(0, aI a0), (7, aD (.slice (.pair tI (.pair tI tI))) a1), (8, aI (List.length a1 : Int)), (9, aI i105), (52, aB (!r151))]) (L' := []) (by kernel_rfl) (by kernel_rfl) ?_
                    exact exQ_mk (by kernel_rfl) (by kernel_rfl)
                  · replace h := ofF h150 h
                    refine WO_run (j := 24) (k := 8) (orcs := [(32, .known false), (34, .known false), (36, .known false), (38, .known false), (40, .known false), (42, .known false), (44, .known false), (45, .val (.dat .bool false)), (47, .val (.dat .bool false))]) (kF := [0, 7, 8, 9, 52]) (kL := [6]) (fr' := [(0, aI a0), (7, aD (.slice (.pair tI (.pair tI tI))) a1), (8, aI (List.length a1 : Int)), (9, aI i105), (52, aB false)]) (L' := [(6, .one (.pair tI (.pair tI tI)) v108)]) (obs := [((decide (v108.1 ≥ (3 : Int))) = false), ((decide (v108.1 ≥ (3 : Int))) = false), ((decide (v108.1 ≥ (3 : Int))) = false), ((decide (v108.1 ≥ (3 : Int))) = false), ((decide (v108.1 ≥ (3 : Int))) = false), ((decide (v108.1 ≥ (3 : Int))) = false), ((!r147) = false), ((decide (v108.1 ≥ (3 : Int))) = false), ((!r147) = false)]) rfl (by kernel_rfl) (allP2 h150 (allP2 h150 (allP2 h150 (allP2 h150 (allP2 h150 (allP2 h150 (allP2 h149 (allP2 h150 (allP1 h149))))))))) ?_
                    obtain rfl := Option.some.inj h
                    refine WO_fin [0, 7, 8, 9, 52] [] (fr' := [(0, aI a0), (7, aD (.slice (.pair tI (.pair tI tI))) a1), (8, aI (List.length a1 : Int)), (9, aI i105), (52, aB false)]) (L' := []) (by kernel_rfl) (by kernel_rfl) ?_
                    exact exQ_mk (by kernel_rfl) (by kernel_rfl)
              · replace h := ofF h146 h
                refine WO_run (j := 16) (k := 12) (orcs := [(8, .known false), (10, .known false), (12, .known false), (14, .known false), (16, .known false), (18, .known false), (21, .val (.dat .bool false)), (24, .known false), (26, .known false), (28, .known false), (30, .known false)]) (kF := [0, 5, 6, 7, 8, 9, 40, 44]) (kL := [6]) (fr' := [(0, aI a0), (5, aI i105), (6, .one (.ptr 6 0)), (7, aD (.slice (.pair tI (.pair tI tI))) a1), (8, aI (List.length a1 : Int)), (9, aI i105), (40, aB false), (44, aB (decide (v108.1 ≥ (3 : Int))))]) (L' := [(6, .one (.pair tI (.pair tI tI)) v108)]) (obs := [((v108.1 != (1 : Int)) = false), ((v108.1 != (1 : Int)) = false), ((v108.1 != (1 : Int)) = false), ((v108.1 != (1 : Int)) = false), ((v108.1 != (1 : Int)) = false), ((v108.1 != (1 : Int)) = false), ((v108.1 != (1 : Int)) = false), (false = false), (false = false), (false = false), (false = false)]) rfl (by kernel_rfl) (allP2 h146 (allP2 h146 (allP2 h146 (allP2 h146 (allP2 h146 (allP2 h146 (allP2 h146 (allP2 rfl (allP2 rfl (allP2 rfl (allP1 rfl))))))))))) ?_
                rcases Bool.eq_false_or_eq_true (decide (v108.1 ≥ (3 : Int))) with h153 | h153
                · replace h := ofT h153 h
                  refine WO_run (j := 20) (k := 4) (orcs := [(32, .known true), (34, .known true), (36, .known true), (38, .known true)]) (kF := [0, 7, 8, 9, 40, 44, 45, 48]) (kL := [6, 48]) (fr' := [(0, aI a0), (7, aD (.slice (.pair tI (.pair tI tI))) a1), (8, aI (List.length a1 : Int)), (9, aI i105), (40, aB false), (44, aB (decide (v108.1 ≥ (3 : Int)))), (45, aI i105), (48, .one (.slc 48))]) (L' := [(6, .one (.pair tI (.pair tI tI)) v108), (48, .seq tI [v108.2.2])]) (obs := [((decide (v108.1 ≥ (3 : Int))) = true), ((decide (v108.1 ≥ (3 : Int))) = true), ((decide (v108.1 ≥ (3 : Int))) = true), ((decide (v108.1 ≥ (3 : Int))) = true)]) rfl (by kernel_rfl) (allP2 h153 (allP2 h153 (allP2 h153 (allP1 h153)))) ?_
                  obtain ⟨r154, h155, h⟩ := bind_of h
                  refine WO_frz 48 (by kernel_rfl) ?_
                  refine WO_call0 (us := [none, none]) (d := 49) (p := ((decide (v108.1 ≥ (3 : Int))) = true)) (j := 21) rfl ⟨by kernel_rfl, by kernel_rfl, by kernel_rfl⟩ h153 (ref_Inside_ok h155) (by kernel_rfl) ?_
                  refine WO_run (j := 24) (k := 3) (orcs := [(42, .known true), (44, .known false), (45, .val (.dat .bool true)), (47, .val (.dat .bool false))]) (kF := [0, 7, 8, 9, 52]) (kL := [6]) (fr' := [(0, aI a0), (7, aD (.slice (.pair tI (.pair tI tI))) a1), (8, aI (List.length a1 : Int)), (9, aI i105), (52, aB (!r154))]) (L' := [(6, .one (.pair tI (.pair tI tI)) v108)]) (obs := [((decide (v108.1 ≥ (3 : Int))) = true), (false = false), ((decide (v108.1 ≥ (3 : Int))) = true), (false = false)]) rfl (by kernel_rfl) (allP2 h153 (allP2 rfl (allP2 h153 (allP1 rfl)))) ?_
                  obtain rfl := Option.some.inj h
                  refine WO_fin [0, 7, 8, 9, 52] [] (fr' := [(0, aI a0), (7, aD (.slice (.pair tI (.pair tI tI))) a1), (8, aI (List.length a1 : Int)), (9, aI i105), (52, aB (!r154))]) (L' := []) (by kernel_rfl) (by kernel_rfl) ?_
                  exact exQ_mk (by kernel_rfl) (by kernel_rfl)
                · replace h := ofF h153 h
                  refine WO_run (j := 24) (k := 8) (orcs := [(32, .known false), (34, .known false), (36, .known false), (38, .known false), (40, .known false), (42, .known false), (44, .known false), (45, .val (.dat .bool false)), (47, .val (.dat .bool false))]) (kF := [0, 7, 8, 9, 52]) (kL := [6]) (fr' := [(0, aI a0), (7, aD (.slice (.pair tI (.pair tI tI))) a1), (8, aI (List.length a1 : Int)), (9, aI i105), (52, aB false)]) (L' := [(6, .one (.pair tI (.pair tI tI)) v108)]) (obs := [((decide (v108.1 ≥ (3 : Int))) = false), ((decide (v108.1 ≥ (3 : Int))) = false), ((decide (v108.1 ≥ (3 : Int))) = false), ((decide (v108.1 ≥ (3 : Int))) = false), ((decide (v108.1 ≥ (3 : Int))) = false), ((decide (v108.1 ≥ (3 : Int))) = false), (false = false), ((decide (v108.1 ≥ (3 : Int))) = false), (false = false)]) rfl (by kernel_rfl) (allP2 h153 (allP2 h153 (allP2 h153 (allP2 h153 (allP2 h153 (allP2 h153 (allP2 rfl (allP2 h153 (allP1 rfl))))))))) ?_
                  obtain rfl := Option.some.inj h
                  refine WO_fin [0, 7, 8, 9, 52] [] (fr' := [(0, aI a0), (7, aD (.slice (.pair tI (.pair tI tI))) a1), (8, aI (List.length a1 : Int)), (9, aI i105), (52, aB false)]) (L' := []) (by kernel_rfl) (by kernel_rfl) ?_
                  exact exQ_mk (by kernel_rfl) (by kernel_rfl)
            · intro e fr L hJ
              obtain ⟨rfl, rfl, rfl⟩ := hJ
              refine LT_keep [0, 7, 8, 9, 52] [] (fr' := [(0, aI a0), (7, aD (.slice (.pair tI (.pair tI tI))) a1), (8, aI (List.length a1 : Int)), (9, aI i105), (52, aB v156)]) (L' := []) (by kernel_rfl) ?_
              refine seqQ_norm ?_
              refine W_cond (o := .tmp 52) (b := v156) (by kernel_rfl) (by kernel_rfl) (fun h158 => ?_) (fun h158 => ?_)
              · replace h := ofT h158 h
                refine W_seq (by kernel_rfl) ?_
                refine W_run 1 [] [4] [] (fr' := [(4, aI (2 : Int))]) (L' := []) (obs := []) (by kernel_rfl) (by kernel_rfl) (by kernel_rfl) allP0 ?_
                refine seqQ_norm ?_
                obtain rfl := Option.some.inj h
                refine W_ret [4] [] (fr' := [(4, aI (2 : Int))]) (L' := []) (by kernel_rfl) (by kernel_rfl) ?_
                refine blockQ_ret ?_
                refine seqQ_ret ?_
                refine round_ret ?_
                refine escQ_ret ?_
                exact exQ_mk (by kernel_rfl) (by kernel_rfl)
              · replace h := ofF h158 h
                refine W_skip [0, 7, 8, 9] [] (fr' := [(0, aI a0), (7, aD (.slice (.pair tI (.pair tI tI))) a1), (8, aI (List.length a1 : Int)), (9, aI i105)]) (L' := []) (by kernel_rfl) (by kernel_rfl) ?_
                refine blockQ_norm ?_
                refine seqQ_norm ?_
                obtain rfl := Option.some.inj h
                refine W_run 2 [] [0, 7, 8, 9] [] (fr' := [(0, aI a0), (7, aD (.slice (.pair tI (.pair tI tI))) a1), (8, aI (List.length a1 : Int)), (9, aI (w64 (i105 + (1 : Int))))]) (L' := []) (obs := []) (by kernel_rfl) (by kernel_rfl) (by kernel_rfl) allP0 ?_
                exact round_next' (by kernel_rfl) (by kernel_rfl)
    · obtain rfl := stepL_false h110 h
      refine W_exit (id := 0) [] [] (fr' := []) (L' := []) (by kernel_rfl) (by kernel_rfl) ?_
      refine seqQ_exit ?_
      refine round_exit ?_
      refine escQ_brk ?_
      exact exQ_mk (by kernel_rfl) (by kernel_rfl)
  · intro e fr L hJ
    rcases v160 with v165 | v166
    · obtain ⟨rfl, rfl, rfl⟩ := hJ
      obtain rfl := Option.some.inj h
      refine LT_keep [4] [] (fr' := [(4, aI v165)]) (L' := []) (by kernel_rfl) ?_
      refine blockQ_ret ?_
      refine seqQ_ret ?_
      exact retQ_mk (by kernel_rfl) (by kernel_rfl) (by kernel_rfl)
    · obtain ⟨rfl, rfl, rfl⟩ := hJ
      refine LT_keep [] [] (fr' := []) (L' := []) (by kernel_rfl) ?_
      refine blockQ_hit ?_
      refine seqQ_norm ?_
      refine W_seq (by kernel_rfl) ?_
      refine W_run 1 [] [4] [] (fr' := [(4, aI (0 : Int))]) (L' := []) (obs := []) (by kernel_rfl) (by kernel_rfl) (by kernel_rfl) allP0 ?_
      refine seqQ_norm ?_
      obtain rfl := Option.some.inj h
      refine W_ret [4] [] (fr' := [(4, aI (0 : Int))]) (L' := []) (by kernel_rfl) (by kernel_rfl) ?_
      exact retQ_mk (by kernel_rfl) (by kernel_rfl) (by kernel_rfl)

def ref_Bit (a0 : Int) (a1 : Int) : Option Bool :=
bif (decide (a1 ≥ (0 : Int))) && (decide (a1 < (63 : Int))) then
((ck (0 ≤ IntKind.wrap .u64 (a1))).bind fun _ =>
some ((bAnd .i64 a0 (bShl .i64 (1 : Int) (IntKind.wrap .u64 (a1)))) != (0 : Int)))
else
(some false)
theorem ref_Bit_ok {a0 : Int} {a1 : Int} {r : Bool} (h : ref_Bit a0 a1 = some r) : FnC Try.prog 32 [aI a0, aI a1] [] (aB r) [] := by
  refine fnC_of_W (B := bodyOf Try.f32) (n := 19) Try.func32 (by kernel_rfl) (by kernel_rfl) (by kernel_rfl) (by kernel_rfl) (by kernel_rfl) ?_
  intro K
  refine W_seq (by kernel_rfl) ?_
  refine W_run 1 [] [0, 1] [] (fr' := [(0, aI a0), (1, aI a1)]) (L' := []) (obs := []) (by kernel_rfl) (by kernel_rfl) (by kernel_rfl) allP0 ?_
  refine seqQ_norm ?_
  refine W_seq (by kernel_rfl) ?_
  refine W_region (by kernel_rfl) ?_
  refine WO_run (j := 7) (k := 7) (orcs := []) (kF := [0, 1, 11]) (kL := []) (fr' := [(0, aI a0), (1, aI a1), (11, aB ((decide (a1 ≥ (0 : Int))) && (decide (a1 < (63 : Int)))))]) (L' := []) (obs := []) rfl (by kernel_rfl) allP0 ?_
  rcases Bool.eq_false_or_eq_true ((decide (a1 ≥ (0 : Int))) && (decide (a1 < (63 : Int)))) with h1 | h1
  · replace h := ofT h1 h
    obtain ⟨_, h2, h⟩ := bind_of h
    replace h2 := ck_some h2
    refine WO_run (j := 15) (k := 8) (orcs := [(14, .known true), (16, .known true), (18, .known true), (20, .known true), (22, .known true), (24, .known true), (27, .val (.dat .bool true))]) (kF := [4]) (kL := []) (fr' := [(4, aB ((bAnd .i64 a0 (bShl .i64 (1 : Int) (IntKind.wrap .u64 (a1)))) != (0 : Int)))]) (L' := []) (obs := [(((decide (a1 ≥ (0 : Int))) && (decide (a1 < (63 : Int)))) = true), (((decide (a1 ≥ (0 : Int))) && (decide (a1 < (63 : Int)))) = true), (((decide (a1 ≥ (0 : Int))) && (decide (a1 < (63 : Int)))) = true), (((decide (a1 ≥ (0 : Int))) && (decide (a1 < (63 : Int)))) = true), (0 ≤ IntKind.wrap .u64 (a1)), (((decide (a1 ≥ (0 : Int))) && (decide (a1 < (63 : Int)))) = true), (((decide (a1 ≥ (0 : Int))) && (decide (a1 < (63 : Int)))) = true), (((decide (a1 ≥ (0 : Int))) && (decide (a1 < (63 : Int)))) = true)]) rfl (by kernel_rfl) (allP2 h1 (allP2 h1 (allP2 h1 (allP2 h1 (allP2 h2 (allP2 h1 (allP2 h1 (allP1 h1)))))))) ?_
    refine WO_fin [4] [] (fr' := [(4, aB ((bAnd .i64 a0 (bShl .i64 (1 : Int) (IntKind.wrap .u64 (a1)))) != (0 : Int)))]) (L' := []) (by kernel_rfl) (by kernel_rfl) ?_
    refine seqQ_norm ?_
    obtain rfl := Option.some.inj h
    refine W_ret [4] [] (fr' := [(4, aB ((bAnd .i64 a0 (bShl .i64 (1 : Int) (IntKind.wrap .u64 (a1)))) != (0 : Int)))]) (L' := []) (by kernel_rfl) (by kernel_rfl) ?_
    exact retQ_mk (by kernel_rfl) (by kernel_rfl) (by kernel_rfl)
  · replace h := ofF h1 h
    refine WO_run (j := 15) (k := 8) (orcs := [(14, .known false), (16, .known false), (18, .known false), (20, .known false), (22, .known false), (24, .known false), (27, .val (.dat .bool false))]) (kF := [4]) (kL := []) (fr' := [(4, aB false)]) (L' := []) (obs := [(((decide (a1 ≥ (0 : Int))) && (decide (a1 < (63 : Int)))) = false), (((decide (a1 ≥ (0 : Int))) && (decide (a1 < (63 : Int)))) = false), (((decide (a1 ≥ (0 : Int))) && (decide (a1 < (63 : Int)))) = false), (((decide (a1 ≥ (0 : Int))) && (decide (a1 < (63 : Int)))) = false), (((decide (a1 ≥ (0 : Int))) && (decide (a1 < (63 : Int)))) = false), (((decide (a1 ≥ (0 : Int))) && (decide (a1 < (63 : Int)))) = false), (((decide (a1 ≥ (0 : Int))) && (decide (a1 < (63 : Int)))) = false)]) rfl (by kernel_rfl) (allP2 h1 (allP2 h1 (allP2 h1 (allP2 h1 (allP2 h1 (allP2 h1 (allP1 h1))))))) ?_
    refine WO_fin [4] [] (fr' := [(4, aB false)]) (L' := []) (by kernel_rfl) (by kernel_rfl) ?_
    refine seqQ_norm ?_
    obtain rfl := Option.some.inj h
    refine W_ret [4] [] (fr' := [(4, aB false)]) (L' := []) (by kernel_rfl) (by kernel_rfl) ?_
    exact retQ_mk (by kernel_rfl) (by kernel_rfl) (by kernel_rfl)

def ref_Gates_g5 (a1 : Int) (i202 : Int) (x203 : (List Bool)) (v205 : (Int × (Int × Int))) : Option (List Bool) :=
bif v205.1 == (1 : Int) then
((ref_Bit a1 v205.2.1).bind fun r269 =>
(idx x203 i202).bind fun v271 =>
some (List.set x203 (Int.toNat i202) r269))
else
(bif v205.1 == (2 : Int) then
((idx x203 v205.2.1).bind fun v274 =>
(idx x203 i202).bind fun v276 =>
some (List.set x203 (Int.toNat i202) (!v274)))
else
(bif v205.1 == (3 : Int) then
((idx x203 v205.2.1).bind fun v279 =>
bif v279 then
((idx x203 v205.2.2).bind fun v282 =>
(idx x203 i202).bind fun v284 =>
some (List.set x203 (Int.toNat i202) v282))
else
((idx x203 i202).bind fun v286 =>
some (List.set x203 (Int.toNat i202) false)))
else
(bif v205.1 == (4 : Int) then
((idx x203 v205.2.1).bind fun v289 =>
bif v289 then
((idx x203 i202).bind fun v292 =>
some (List.set x203 (Int.toNat i202) true))
else
((idx x203 v205.2.2).bind fun v294 =>
(idx x203 i202).bind fun v296 =>
some (List.set x203 (Int.toNat i202) v294)))
else
(some x203))))
@[reducible] def ref_Gates_s6 (a0 : (List (Int × (Int × Int)))) (a1 : Int) (i202 : Int) (v : (List Bool)) : Fr × LL := ([(1, aI a1), (5, .one (.slc 10)), (11, aD (.slice (.pair tI (.pair tI tI))) a0), (12, aI (List.length a0 : Int)), (13, aI i202)], [(10, .seq .bool v)])
def ref_Gates_b7 (a1 : Int) (i202 : Int) (v205 : (Int × (Int × Int))) (x203 : (List Bool)) : Option (Flow (List Bool) (List Bool)) :=
(ref_Gates_g5 a1 i202 x203 v205).bind fun v298 =>
some (.next v298)
@[reducible] def ref_Gates_s8 (a0 : (List (Int × (Int × Int)))) (a1 : Int) (v : Int × (List Bool)) : Fr × LL := ([(1, aI a1), (5, .one (.slc 10)), (11, aD (.slice (.pair tI (.pair tI tI))) a0), (12, aI (List.length a0 : Int)), (13, aI v.1)], [(10, .seq .bool v.2)])
@[reducible] def ref_Gates_s9 (v : (List Bool)) : Fr × LL := ([(5, .one (.slc 10))], [(10, .seq .bool v)])
def ref_Gates (a0 : (List (Int × (Int × Int)))) (a1 : Int) : Option (List Bool) :=
(ck (0 ≤ (List.length a0 : Int) ∧ (List.length a0 : Int) = (List.length a0 : Int) ∧ (List.length a0 : Int) ≤ 4294967296)).bind fun _ =>
(forL (ref_Gates_b7 a1) (fun x203 => x203) a0 0 (List.replicate (Int.toNat (List.length a0 : Int)) false)).bind fun v301 =>
some v301
theorem ref_Gates_ok {a0 : (List (Int × (Int × Int)))} {a1 : Int} {r : (List Bool)} (h : ref_Gates a0 a1 = some r) : FnC Try.prog 17 [aD (.slice (.pair tI (.pair tI tI))) a0, aI a1] [] (aD (.slice .bool) r) [] := by
  refine fnC_of_W (B := bodyOf Try.f17) (n := 76) Try.func17 (by kernel_rfl) (by kernel_rfl) (by kernel_rfl) (by kernel_rfl) (by kernel_rfl) ?_
  intro K
  refine W_seq (by kernel_rfl) ?_
  refine W_run 1 [] [0, 1] [] (fr' := [(0, aD (.slice (.pair tI (.pair tI tI))) a0), (1, aI a1)]) (L' := []) (obs := []) (by kernel_rfl) (by kernel_rfl) (by kernel_rfl) allP0 ?_
  refine seqQ_norm ?_
  refine W_seq (by kernel_rfl) ?_
  obtain ⟨_, h1, h⟩ := bind_of h
  replace h1 := ck_some h1
  refine W_run 4 [] [0, 1, 5] [10] (fr' := [(0, aD (.slice (.pair tI (.pair tI tI))) a0), (1, aI a1), (5, .one (.slc 10))]) (L' := [(10, .seq .bool (List.replicate (Int.toNat (List.length a0 : Int)) false))]) (obs := [0 ≤ (List.length a0 : Int) ∧ (List.length a0 : Int) = (List.length a0 : Int) ∧ SmallLen (List.length a0 : Int)]) (by kernel_rfl) (by kernel_rfl) (by kernel_rfl) (allP1 h1) ?_
  refine seqQ_norm ?_
  refine W_seq (by kernel_rfl) ?_
  refine W_seq (by kernel_rfl) ?_
  refine W_run 3 [] [1, 5, 11, 12, 13] [10] (fr' := [(1, aI a1), (5, .one (.slc 10)), (11, aD (.slice (.pair tI (.pair tI tI))) a0), (12, aI (List.length a0 : Int)), (13, aI (0 : Int))]) (L' := [(10, .seq .bool (List.replicate (Int.toNat (List.length a0 : Int)) false))]) (obs := []) (by kernel_rfl) (by kernel_rfl) (by kernel_rfl) allP0 ?_
  refine seqQ_norm ?_
  refine W_block (id := 0) (by kernel_rfl) ?_
  obtain ⟨v301, h302, h⟩ := bind_of h
  refine W_len (t := 11) (u := (.pair tI (.pair tI tI))) (xs := a0) (by kernel_rfl) (fun h305 => ?_)
  obtain ⟨h303, h304⟩ := forL_iter h305 h302
  refine W_weaken [1, 5, 11, 12, 13] [10] (fr' := ((ref_Gates_s8 a0 a1) ((0 : Int), List.replicate (Int.toNat (List.length a0 : Int)) false)).1) (L' := ((ref_Gates_s8 a0 a1) ((0 : Int), List.replicate (Int.toNat (List.length a0 : Int)) false)).2) (by kernel_rfl) ?_
  refine W_cutK (W_loop (S := (ref_Gates_s8 a0 a1)) (J := (exQ (.exit 0) ref_Gates_s9)) (by kernel_rfl) ?_ h303 _ v301 h304) ?_
  · rintro ⟨i202, x203⟩ s h
    refine W_seq (by kernel_rfl) ?_
    refine W_run 1 [] [1, 5, 11, 12, 13, 14] [10] (fr' := [(1, aI a1), (5, .one (.slc 10)), (11, aD (.slice (.pair tI (.pair tI tI))) a0), (12, aI (List.length a0 : Int)), (13, aI i202), (14, aB (decide (i202 < (List.length a0 : Int))))]) (L' := [(10, .seq .bool x203)]) (obs := []) (by kernel_rfl) (by kernel_rfl) (by kernel_rfl) allP0 ?_
    refine seqQ_norm ?_
    refine W_seq (by kernel_rfl) ?_
    refine W_cond (o := .tmp 14) (b := decide (i202 < (List.length a0 : Int))) (by kernel_rfl) (by kernel_rfl) (fun h207 => ?_) (fun h207 => ?_)
    · replace h := stepL_true h207 h
      obtain ⟨v205, _, h206, h, rfl⟩ := h
      refine W_skip [1, 5, 11, 12, 13] [10] (fr' := [(1, aI a1), (5, .one (.slc 10)), (11, aD (.slice (.pair tI (.pair tI tI))) a0), (12, aI (List.length a0 : Int)), (13, aI i202)]) (L' := [(10, .seq .bool x203)]) (by kernel_rfl) (by kernel_rfl) ?_
      refine seqQ_norm ?_
      refine W_seq (by kernel_rfl) ?_
      obtain ⟨v298, h299, h⟩ := bind_of h
      refine W_cutK (Q' := (exQ .normal (ref_Gates_s6 a0 a1 i202)) v298) ?_ ?_
      · replace h := h299
        refine W_block (id := 1) (by kernel_rfl) ?_
        refine W_seq (by kernel_rfl) ?_
        refine W_run 6 [(3, .val (.dat (.pair tI (.pair tI tI)) v205)), (7, .typed)] [1, 5, 6, 7, 11, 12, 13] [10, 7] (fr' := [(1, aI a1), (5, .one (.slc 10)), (6, aI i202), (7, .one (.ptr 7 0)), (11, aD (.slice (.pair tI (.pair tI tI))) a0), (12, aI (List.length a0 : Int)), (13, aI i202)]) (L' := [(10, .seq .bool x203), (7, .one (.pair tI (.pair tI tI)) v205)]) (obs := [Idx a0 i202 v205, True]) (by kernel_rfl) (by kernel_rfl) (by kernel_rfl) (allP2 (Idx.of h206) (allP1 trivial)) ?_
        refine seqQ_norm ?_
        refine W_seq (by kernel_rfl) ?_
        refine W_run 2 [] [1, 5, 6, 7, 11, 12, 13, 19] [10, 7] (fr' := [(1, aI a1), (5, .one (.slc 10)), (6, aI i202), (7, .one (.ptr 7 0)), (11, aD (.slice (.pair tI (.pair tI tI))) a0), (12, aI (List.length a0 : Int)), (13, aI i202), (19, aI v205.1)]) (L' := [(10, .seq .bool x203), (7, .one (.pair tI (.pair tI tI)) v205)]) (obs := []) (by kernel_rfl) (by kernel_rfl) (by kernel_rfl) allP0 ?_
        refine seqQ_norm ?_
        refine W_block (id := 2) (by kernel_rfl) ?_
        refine W_seq (by kernel_rfl) ?_
        refine W_run 2 [] [1, 5, 6, 7, 11, 12, 13, 19, 20] [10, 7] (fr' := [(1, aI a1), (5, .one (.slc 10)), (6, aI i202), (7, .one (.ptr 7 0)), (11, aD (.slice (.pair tI (.pair tI tI))) a0), (12, aI (List.length a0 : Int)), (13, aI i202), (19, aI v205.1), (20, aB (v205.1 == (1 : Int)))]) (L' := [(10, .seq .bool x203), (7, .one (.pair tI (.pair tI tI)) v205)]) (obs := []) (by kernel_rfl) (by kernel_rfl) (by kernel_rfl) allP0 ?_
        refine seqQ_norm ?_
        refine W_cond (o := .tmp 20) (b := v205.1 == (1 : Int)) (by kernel_rfl) (by kernel_rfl) (fun h268 => ?_) (fun h268 => ?_)
        · replace h := ofT h268 h
          refine W_region (by kernel_rfl) ?_
          refine WO_run (j := 5) (k := 5) (orcs := []) (kF := [1, 5, 11, 12, 13, 22, 23, 24, 26]) (kL := [7, 10]) (fr' := [(1, aI a1), (5, .one (.slc 10)), (11, aD (.slice (.pair tI (.pair tI tI))) a0), (12, aI (List.length a0 : Int)), (13, aI i202), (22, .one (.slc 10)), (23, aI i202), (24, aI a1), (26, aI v205.2.1)]) (L' := [(7, .one (.pair tI (.pair tI tI)) v205), (10, .seq .bool x203)]) (obs := []) rfl (by kernel_rfl) allP0 ?_
          obtain ⟨r269, h270, h⟩ := bind_of h
          refine WO_call0 (us := [none, none]) (d := 27) (p := True) (j := 6) rfl ⟨by kernel_rfl, by kernel_rfl, by kernel_rfl⟩ trivial (ref_Bit_ok h270) (by kernel_rfl) ?_
          obtain ⟨v271, h272, h⟩ := bind_of h
          refine WO_run (j := 8) (k := 2) (orcs := []) (kF := [1, 5, 11, 12, 13]) (kL := [7, 10]) (fr' := [(1, aI a1), (5, .one (.slc 10)), (11, aD (.slice (.pair tI (.pair tI tI))) a0), (12, aI (List.length a0 : Int)), (13, aI i202)]) (L' := [(7, .one (.pair tI (.pair tI tI)) v205), (10, .seq .bool (List.set x203 (Int.toNat i202) r269))]) (obs := [InR i202 (List.length x203), InR i202 (List.length x203)]) rfl (by kernel_rfl) (allP2 (InR.of h272) (allP1 (InR.of h272))) ?_
          obtain rfl := Option.some.inj h
          refine WO_fin [1, 5, 11, 12, 13] [10] (fr' := [(1, aI a1), (5, .one (.slc 10)), (11, aD (.slice (.pair tI (.pair tI tI))) a0), (12, aI (List.length a0 : Int)), (13, aI i202)]) (L' := [(10, .seq .bool (List.set x203 (Int.toNat i202) r269))]) (by kernel_rfl) (by kernel_rfl) ?_
          refine blockQ_norm ?_
          refine blockQ_norm ?_
          exact exQ_mk (by kernel_rfl) (by kernel_rfl)
        · replace h := ofF h268 h
          refine W_seq (by kernel_rfl) ?_
          refine W_run 2 [] [1, 5, 6, 7, 11, 12, 13, 19, 29] [10, 7] (fr' := [(1, aI a1), (5, .one (.slc 10)), (6, aI i202), (7, .one (.ptr 7 0)), (11, aD (.slice (.pair tI (.pair tI tI))) a0), (12, aI (List.length a0 : Int)), (13, aI i202), (19, aI v205.1), (29, aB (v205.1 == (2 : Int)))]) (L' := [(10, .seq .bool x203), (7, .one (.pair tI (.pair tI tI)) v205)]) (obs := []) (by kernel_rfl) (by kernel_rfl) (by kernel_rfl) allP0 ?_
          refine seqQ_norm ?_
          refine W_cond (o := .tmp 29) (b := v205.1 == (2 : Int)) (by kernel_rfl) (by kernel_rfl) (fun h273 => ?_) (fun h273 => ?_)
          · replace h := ofT h273 h
            obtain ⟨v274, h275, h⟩ := bind_of h
            obtain ⟨v276, h277, h⟩ := bind_of h
            obtain rfl := Option.some.inj h
            refine W_run 10 [(13, .val (.dat .bool v274))] [1, 5, 11, 12, 13] [10] (fr' := [(1, aI a1), (5, .one (.slc 10)), (11, aD (.slice (.pair tI (.pair tI tI))) a0), (12, aI (List.length a0 : Int)), (13, aI i202)]) (L' := [(10, .seq .bool (List.set x203 (Int.toNat i202) (!v274)))]) (obs := [InR v205.2.1 (List.length x203), Idx x203 v205.2.1 v274, InR i202 (List.length x203), InR i202 (List.length x203)]) (by kernel_rfl) (by kernel_rfl) (by kernel_rfl) (allP2 (InR.of h275) (allP2 (Idx.of h275) (allP2 (InR.of h277) (allP1 (InR.of h277))))) ?_
            refine blockQ_norm ?_
            refine blockQ_norm ?_
            exact exQ_mk (by kernel_rfl) (by kernel_rfl)
          · replace h := ofF h273 h
            refine W_seq (by kernel_rfl) ?_
            refine W_run 2 [] [1, 5, 6, 7, 11, 12, 13, 19, 40] [10, 7] (fr' := [(1, aI a1), (5, .one (.slc 10)), (6, aI i202), (7, .one (.ptr 7 0)), (11, aD (.slice (.pair tI (.pair tI tI))) a0), (12, aI (List.length a0 : Int)), (13, aI i202), (19, aI v205.1), (40, aB (v205.1 == (3 : Int)))]) (L' := [(10, .seq .bool x203), (7, .one (.pair tI (.pair tI tI)) v205)]) (obs := []) (by kernel_rfl) (by kernel_rfl) (by kernel_rfl) allP0 ?_
            refine seqQ_norm ?_
            refine W_cond (o := .tmp 40) (b := v205.1 == (3 : Int)) (by kernel_rfl) (by kernel_rfl) (fun h278 => ?_) (fun h278 => ?_)
            · replace h := ofT h278 h
              obtain ⟨v279, h280, h⟩ := bind_of h
              refine W_region (by kernel_rfl) ?_
              refine WO_run (j := 8) (k := 8) (orcs := [(13, .val (.dat .bool v279))]) (kF := [1, 5, 7, 11, 12, 13, 42, 43, 49]) (kL := [7, 10]) (fr' := [(1, aI a1), (5, .one (.slc 10)), (7, .one (.ptr 7 0)), (11, aD (.slice (.pair tI (.pair tI tI))) a0), (12, aI (List.length a0 : Int)), (13, aI i202), (42, .one (.slc 10)), (43, aI i202), (49, aB v279)]) (L' := [(7, .one (.pair tI (.pair tI tI)) v205), (10, .seq .bool x203)]) (obs := [InR v205.2.1 (List.length x203), Idx x203 v205.2.1 v279]) rfl (by kernel_rfl) (allP2 (InR.of h280) (allP1 (Idx.of h280))) ?_
              rcases Bool.eq_false_or_eq_true (v279) with h281 | h281
              · replace h := ofT h281 h
                obtain ⟨v282, h283, h⟩ := bind_of h
                obtain ⟨v284, h285, h⟩ := bind_of h
                refine WO_run (j := 16) (k := 8) (orcs := [(16, .known true), (18, .known true), (20, .known true), (22, .known true), (24, .known true), (25, .val (.dat .bool v282)), (27, .val (.dat .bool true))]) (kF := [1, 5, 11, 12, 13]) (kL := [7, 10]) (fr' := [(1, aI a1), (5, .one (.slc 10)), (11, aD (.slice (.pair tI (.pair tI tI))) a0), (12, aI (List.length a0 : Int)), (13, aI i202)]) (L' := [(7, .one (.pair tI (.pair tI tI)) v205), (10, .seq .bool (List.set x203 (Int.toNat i202) v282))]) (obs := [(v279 = true), (v279 = true), (v279 = true), (v279 = true), InR v205.2.2 (List.length x203), (v279 = true), Idx x203 v205.2.2 v282, (v279 = true), InR i202 (List.length x203), InR i202 (List.length x203)]) rfl (by kernel_rfl) (allP2 h281 (allP2 h281 (allP2 h281 (allP2 h281 (allP2 (InR.of h283) (allP2 h281 (allP2 (Idx.of h283) (allP2 h281 (allP2 (InR.of h285) (allP1 (InR.of h285))))))))))) ?_
                obtain rfl := Option.some.inj h
                refine WO_fin [1, 5, 11, 12, 13] [10] (fr' := [(1, aI a1), (5, .one (.slc 10)), (11, aD (.slice (.pair tI (.pair tI tI))) a0), (12, aI (List.length a0 : Int)), (13, aI i202)]) (L' := [(10, .seq .bool (List.set x203 (Int.toNat i202) v282))]) (by kernel_rfl) (by kernel_rfl) ?_
                refine blockQ_norm ?_
                refine blockQ_norm ?_
                exact exQ_mk (by kernel_rfl) (by kernel_rfl)
              · replace h := ofF h281 h
                obtain ⟨v286, h287, h⟩ := bind_of h
                refine WO_run (j := 16) (k := 8) (orcs := [(16, .known false), (18, .known false), (20, .known false), (22, .known false), (24, .known false), (27, .val (.dat .bool false))]) (kF := [1, 5, 11, 12, 13]) (kL := [7, 10]) (fr' := [(1, aI a1), (5, .one (.slc 10)), (11, aD (.slice (.pair tI (.pair tI tI))) a0), (12, aI (List.length a0 : Int)), (13, aI i202)]) (L' := [(7, .one (.pair tI (.pair tI tI)) v205), (10, .seq .bool (List.set x203 (Int.toNat i202) false))]) (obs := [(v279 = false), (v279 = false), (v279 = false), (v279 = false), (v279 = false), (v279 = false), InR i202 (List.length x203), InR i202 (List.length x203)]) rfl (by kernel_rfl) (allP2 h281 (allP2 h281 (allP2 h281 (allP2 h281 (allP2 h281 (allP2 h281 (allP2 (InR.of h287) (allP1 (InR.of h287))))))))) ?_
                obtain rfl := Option.some.inj h
                refine WO_fin [1, 5, 11, 12, 13] [10] (fr' := [(1, aI a1), (5, .one (.slc 10)), (11, aD (.slice (.pair tI (.pair tI tI))) a0), (12, aI (List.length a0 : Int)), (13, aI i202)]) (L' := [(10, .seq .bool (List.set x203 (Int.toNat i202) false))]) (by kernel_rfl) (by kernel_rfl) ?_
                refine blockQ_norm ?_
                refine blockQ_norm ?_
                exact exQ_mk (by kernel_rfl) (by kernel_rfl)
            · replace h := ofF h278 h
              refine W_seq (by kernel_rfl) ?_
              refine W_run 2 [] [1, 5, 6, 7, 11, 12, 13, 57] [10, 7] (fr' := [(1, aI a1), (5, .one (.slc 10)), (6, aI i202), (7, .one (.ptr 7 0)), (11, aD (.slice (.pair tI (.pair tI tI))) a0), (12, aI (List.length a0 : Int)), (13, aI i202), (57, aB (v205.1 == (4 : Int)))]) (L' := [(10, .seq .bool x203), (7, .one (.pair tI (.pair tI tI)) v205)]) (obs := []) (by kernel_rfl) (by kernel_rfl) (by kernel_rfl) allP0 ?_
              refine seqQ_norm ?_
              refine W_cond (o := .tmp 57) (b := v205.1 == (4 : Int)) (by kernel_rfl) (by kernel_rfl) (fun h288 => ?_) (fun h288 => ?_)
              · replace h := ofT h288 h
                obtain ⟨v289, h290, h⟩ := bind_of h
                refine W_region (by kernel_rfl) ?_
                refine WO_run (j := 8) (k := 8) (orcs := [(13, .val (.dat .bool v289))]) (kF := [1, 5, 7, 11, 12, 13, 59, 60, 66]) (kL := [7, 10]) (fr' := [(1, aI a1), (5, .one (.slc 10)), (7, .one (.ptr 7 0)), (11, aD (.slice (.pair tI (.pair tI tI))) a0), (12, aI (List.length a0 : Int)), (13, aI i202), (59, .one (.slc 10)), (60, aI i202), (66, aB v289)]) (L' := [(7, .one (.pair tI (.pair tI tI)) v205), (10, .seq .bool x203)]) (obs := [InR v205.2.1 (List.length x203), Idx x203 v205.2.1 v289]) rfl (by kernel_rfl) (allP2 (InR.of h290) (allP1 (Idx.of h290))) ?_
                rcases Bool.eq_false_or_eq_true (v289) with h291 | h291
                · replace h := ofT h291 h
                  obtain ⟨v292, h293, h⟩ := bind_of h
                  refine WO_run (j := 16) (k := 8) (orcs := [(16, .known true), (18, .known true), (20, .known true), (22, .known true), (24, .known true), (27, .val (.dat .bool true))]) (kF := [1, 5, 11, 12, 13]) (kL := [7, 10]) (fr' := [(1, aI a1), (5, .one (.slc 10)), (11, aD (.slice (.pair tI (.pair tI tI))) a0), (12, aI (List.length a0 : Int)), (13, aI i202)]) (L' := [(7, .one (.pair tI (.pair tI tI)) v205), (10, .seq .bool (List.set x203 (Int.toNat i202) true))]) (obs := [(v289 = true), (v289 = true), (v289 = true), (v289 = true), (v289 = true), (v289 = true), InR i202 (List.length x203), InR i202 (List.length x203)]) rfl (by kernel_rfl) (allP2 h291 (allP2 h291 (allP2 h291 (allP2 h291 (allP2 h291 (allP2 h291 (allP2 (InR.of h293) (allP1 (InR.of h293))))))))) ?_
                  obtain rfl := Option.some.inj h
                  refine WO_fin [1, 5, 11, 12, 13] [10] (fr' := [(1, aI a1), (5, .one (.slc 10)), (11, aD (.slice (.pair tI (.pair tI tI))) a0), (12, aI (List.length a0 : Int)), (13, aI i202)]) (L' := [(10, .seq .bool (List.set x203 (Int.toNat i202) true))]) (by kernel_rfl) (by kernel_rfl) ?_
                  refine blockQ_norm ?_
                  refine blockQ_norm ?_
                  exact exQ_mk (by kernel_rfl) (by kernel_rfl)
                · replace h := ofF h291 h
                  obtain ⟨v294, h295, h⟩ := bind_of h
                  obtain ⟨v296, h297, h⟩ := bind_of h
                  refine WO_run (j := 16) (k := 8) (orcs := [(16, .known false), (18, .known false), (20, .known false), (22, .known false), (24, .known false), (25, .val (.dat .bool v294)), (27, .val (.dat .bool false))]) (kF := [1, 5, 11, 12, 13]) (kL := [7, 10]) (fr' := [(1, aI a1), (5, .one (.slc 10)), (11, aD (.slice (.pair tI (.pair tI tI))) a0), (12, aI (List.length a0 : Int)), (13, aI i202)]) (L' := [(7, .one (.pair tI (.pair tI tI)) v205), (10, .seq .bool (List.set x203 (Int.toNat i202) v294))]) (obs := [(v289 = false), (v289 = false), (v289 = false), (v289 = false), InR v205.2.2 (List.length x203), (v289 = false), Idx x203 v205.2.2 v294, (v289 = false), InR i202 (List.length x203), InR i202 (List.length x203)]) rfl (by kernel_rfl) (allP2 h291 (allP2 h291 (allP2 h291 (allP2 h291 (allP2 (InR.of h295) (allP2 h291 (allP2 (Idx.of h295) (allP2 h291 (allP2 (InR.of h297) (allP1 (InR.of h297))))))))))) ?_
                  obtain rfl := Option.some.inj h
                  refine WO_fin [1, 5, 11, 12, 13] [10] (fr' := [(1, aI a1), (5, .one (.slc 10)), (11, aD (.slice (.pair tI (.pair tI tI))) a0), (12, aI (List.length a0 : Int)), (13, aI i202)]) (L' := [(10, .seq .bool (List.set x203 (Int.toNat i202) v294))]) (by kernel_rfl) (by kernel_rfl) ?_
                  refine blockQ_norm ?_
                  refine blockQ_norm ?_
                  exact exQ_mk (by kernel_rfl) (by kernel_rfl)
              · replace h := ofF h288 h
                obtain rfl := Option.some.inj h
                refine W_skip [1, 5, 11, 12, 13] [10] (fr' := [(1, aI a1), (5, .one (.slc 10)), (11, aD (.slice (.pair tI (.pair tI tI))) a0), (12, aI (List.length a0 : Int)), (13, aI i202)]) (L' := [(10, .seq .bool x203)]) (by kernel_rfl) (by kernel_rfl) ?_
                refine blockQ_norm ?_
                refine blockQ_norm ?_
                exact exQ_mk (by kernel_rfl) (by kernel_rfl)
      · intro e fr L hJ
        obtain ⟨rfl, rfl, rfl⟩ := hJ
        refine LT_keep [1, 5, 11, 12, 13] [10] (fr' := [(1, aI a1), (5, .one (.slc 10)), (11, aD (.slice (.pair tI (.pair tI tI))) a0), (12, aI (List.length a0 : Int)), (13, aI i202)]) (L' := [(10, .seq .bool v298)]) (by kernel_rfl) ?_
        refine seqQ_norm ?_
        obtain rfl := Option.some.inj h
        refine W_run 2 [] [1, 5, 11, 12, 13] [10] (fr' := [(1, aI a1), (5, .one (.slc 10)), (11, aD (.slice (.pair tI (.pair tI tI))) a0), (12, aI (List.length a0 : Int)), (13, aI (w64 (i202 + (1 : Int))))]) (L' := [(10, .seq .bool v298)]) (obs := []) (by kernel_rfl) (by kernel_rfl) (by kernel_rfl) allP0 ?_
        exact round_next' (by kernel_rfl) (by kernel_rfl)
    · obtain rfl := stepL_false h207 h
      refine W_exit (id := 0) [5] [10] (fr' := [(5, .one (.slc 10))]) (L' := [(10, .seq .bool x203)]) (by kernel_rfl) (by kernel_rfl) ?_
      refine seqQ_exit ?_
      refine round_exit ?_
      exact exQ_mk (by kernel_rfl) (by kernel_rfl)
  · intro e fr L hJ
    obtain ⟨rfl, rfl, rfl⟩ := hJ
    refine LT_keep [5] [10] (fr' := [(5, .one (.slc 10))]) (L' := [(10, .seq .bool v301)]) (by kernel_rfl) ?_
    refine blockQ_hit ?_
    refine seqQ_norm ?_
    refine W_seq (by kernel_rfl) ?_
    refine W_run 2 [] [4] [10] (fr' := [(4, .one (.slc 10))]) (L' := [(10, .seq .bool v301)]) (obs := []) (by kernel_rfl) (by kernel_rfl) (by kernel_rfl) allP0 ?_
    refine seqQ_norm ?_
    obtain rfl := Option.some.inj h
    refine W_frz 10 (by kernel_rfl) ?_
    refine W_ret [4] [] (fr' := [(4, aD (.slice .bool) v301)]) (L' := []) (by kernel_rfl) (by kernel_rfl) ?_
    exact retQ_mk (by kernel_rfl) (by kernel_rfl) (by kernel_rfl)

def law_GateBuilds_g1 (a0 : Int) (a1 : (List Bool)) : Option Int :=
(ref_Within (1 : Int) a0 (5 : Int)).bind fun r13 =>
bif !r13 then
(some (1 : Int))
else
((ck (0 ≤ IntKind.wrap .u64 (a0))).bind fun _ =>
bif (List.length a1 : Int) != (bShl .i64 (1 : Int) (IntKind.wrap .u64 (a0))) then
(some (3 : Int))
else
(some (0 : Int)))
def law_GateBuilds_g2 (a0 : Int) (a1 : (List Bool)) (r1 : ((List (Int × (Int × Int))) × Int)) : Option Bool :=
bif ((r1.2 != (0 : Int)) || ((List.length r1.1 : Int) == (0 : Int))) || (decide ((List.length r1.1 : Int) > (w64 ((w64 ((w64 ((3 : Int) * (List.length a1 : Int))) + (w64 ((3 : Int) * a0)))) + (3 : Int))))) then
(some true)
else
((ref_GatesCheck a0 r1.1).bind fun r28 =>
some (r28 != (0 : Int)))
def law_GateBuilds_b3 (r1 : ((List (Int × (Int × Int))) × Int)) (i51 : Int) (v54 : Bool) (x52 : Unit) : Option (Flow Unit (Esc Bool Unit)) :=
(ref_Gates r1.1 i51).bind fun r57 =>
(idx r57 (w64 ((List.length r1.1 : Int) - (1 : Int)))).bind fun v59 =>
bif !(v59 == v54) then
(some (.done (.ret false)))
else
(some (.next ()))
@[reducible] def law_GateBuilds_s4 (a1 : (List Bool)) (r1 : ((List (Int × (Int × Int))) × Int)) (v : Int × Unit) : Fr × LL := ([(1, aD (.slice .bool) a1), (5, aD (.slice (.pair tI (.pair tI tI))) r1.1), (8, aI v.1)], [])
@[reducible] def law_GateBuilds_s5 (v : Bool) : Fr × LL := ([(4, aB v)], [])
@[reducible] def law_GateBuilds_s6 (v : Unit) : Fr × LL := ([], [])
@[reducible] def law_GateBuilds_s7 (a1 : (List Bool)) (r1 : ((List (Int × (Int × Int))) × Int)) (v : Bool) : Fr × LL := ([(1, aD (.slice .bool) a1), (5, aD (.slice (.pair tI (.pair tI tI))) r1.1), (58, aB v)], [])
@[reducible] def law_GateBuilds_s8 (a0 : Int) (a1 : (List Bool)) (r1 : ((List (Int × (Int × Int))) × Int)) (v : Int) : Fr × LL := ([(0, aI a0), (1, aD (.slice .bool) a1), (5, aD (.slice (.pair tI (.pair tI tI))) r1.1), (6, aI r1.2), (7, aI v)], [])
def law_GateBuilds (fuel : Nat) (a0 : Int) (a1 : (List Bool)) : Option Bool :=
(gate_Build fuel a0 a1).bind fun r1 =>
(law_GateBuilds_g1 a0 a1).bind fun v18 =>
bif v18 != (0 : Int) then
(some ((r1.2 == v18) && ((List.length r1.1 : Int) == (0 : Int))))
else
((law_GateBuilds_g2 a0 a1 r1).bind fun v30 =>
bif v30 then
(some false)
else
((forL (law_GateBuilds_b3 r1) (fun x52 => (.brk ())) a1 0 ()).bind fun v63 =>
match v63 with
| .ret v68 =>
(some v68)
| .brk v69 =>
(some true)))
theorem law_GateBuilds_ok {fuel : Nat} {a0 : Int} {a1 : (List Bool)} {r : Bool} (h : law_GateBuilds fuel a0 a1 = some r) : FnC Try.prog 5 [aI a0, aD (.slice .bool) a1] [] (aB r) [] := by
  refine fnC_of_W (B := bodyOf Try.f5) (n := 78) Try.func5 (by kernel_rfl) (by kernel_rfl) (by kernel_rfl) (by kernel_rfl) (by kernel_rfl) ?_
  intro K
  refine W_seq (by kernel_rfl) ?_
  refine W_run 1 [] [0, 1] [] (fr' := [(0, aI a0), (1, aD (.slice .bool) a1)]) (L' := []) (obs := []) (by kernel_rfl) (by kernel_rfl) (by kernel_rfl) allP0 ?_
  refine seqQ_norm ?_
  refine W_seq (by kernel_rfl) ?_
  refine W_region (by kernel_rfl) ?_
  refine WO_run (j := 2) (k := 2) (orcs := []) (kF := [0, 1, 10, 11]) (kL := []) (fr' := [(0, aI a0), (1, aD (.slice .bool) a1), (10, aI a0), (11, aD (.slice .bool) a1)]) (L' := []) (obs := []) rfl (by kernel_rfl) allP0 ?_
  obtain ⟨r1, h2, h⟩ := bind_of h
  refine WO_call0 (us := [none, none]) (d := 12) (p := True) (j := 3) rfl ⟨by kernel_rfl, by kernel_rfl, by kernel_rfl⟩ trivial (gate_Build_ok h2) (by kernel_rfl) ?_
  refine WO_run (j := 8) (k := 5) (orcs := []) (kF := [0, 1, 5, 6]) (kL := []) (fr' := [(0, aI a0), (1, aD (.slice .bool) a1), (5, aD (.slice (.pair tI (.pair tI tI))) r1.1), (6, aI r1.2)]) (L' := []) (obs := []) rfl (by kernel_rfl) allP0 ?_
  refine WO_fin [0, 1, 5, 6] [] (fr' := [(0, aI a0), (1, aD (.slice .bool) a1), (5, aD (.slice (.pair tI (.pair tI tI))) r1.1), (6, aI r1.2)]) (L' := []) (by kernel_rfl) (by kernel_rfl) ?_
  refine seqQ_norm ?_
  refine W_seq (by kernel_rfl) ?_
  refine W_run 1 [] [0, 1, 5, 6, 7] [] (fr' := [(0, aI a0), (1, aD (.slice .bool) a1), (5, aD (.slice (.pair tI (.pair tI tI))) r1.1), (6, aI r1.2), (7, aI (0 : Int))]) (L' := []) (obs := []) (by kernel_rfl) (by kernel_rfl) (by kernel_rfl) allP0 ?_
  refine seqQ_norm ?_
  refine W_seq (by kernel_rfl) ?_
  obtain ⟨v18, h19, h⟩ := bind_of h
  refine W_cutK (Q' := (exQ .normal (law_GateBuilds_s8 a0 a1 r1)) v18) ?_ ?_
  · replace h := h19
    refine W_seq (by kernel_rfl) ?_
    refine W_region (by kernel_rfl) ?_
    refine WO_run (j := 1) (k := 1) (orcs := []) (kF := [0, 1, 5, 6, 7, 15]) (kL := []) (fr' := [(0, aI a0), (1, aD (.slice .bool) a1), (5, aD (.slice (.pair tI (.pair tI tI))) r1.1), (6, aI r1.2), (7, aI (0 : Int)), (15, aI a0)]) (L' := []) (obs := []) rfl (by kernel_rfl) allP0 ?_
    obtain ⟨r13, h14, h⟩ := bind_of h
    refine WO_call0 (us := [none, none, none]) (d := 16) (p := True) (j := 2) rfl ⟨by kernel_rfl, by kernel_rfl, by kernel_rfl⟩ trivial (ref_Within_ok h14) (by kernel_rfl) ?_
    refine WO_run (j := 3) (k := 1) (orcs := []) (kF := [0, 1, 5, 6, 7, 17]) (kL := []) (fr' := [(0, aI a0), (1, aD (.slice .bool) a1), (5, aD (.slice (.pair tI (.pair tI tI))) r1.1), (6, aI r1.2), (7, aI (0 : Int)), (17, aB (!r13))]) (L' := []) (obs := []) rfl (by kernel_rfl) allP0 ?_
    refine WO_fin [0, 1, 5, 6, 7, 17] [] (fr' := [(0, aI a0), (1, aD (.slice .bool) a1), (5, aD (.slice (.pair tI (.pair tI tI))) r1.1), (6, aI r1.2), (7, aI (0 : Int)), (17, aB (!r13))]) (L' := []) (by kernel_rfl) (by kernel_rfl) ?_
    refine seqQ_norm ?_
    refine W_cond (o := .tmp 17) (b := !r13) (by kernel_rfl) (by kernel_rfl) (fun h15 => ?_) (fun h15 => ?_)
    · replace h := ofT h15 h
      obtain rfl := Option.some.inj h
      refine W_run 1 [] [0, 1, 5, 6, 7] [] (fr' := [(0, aI a0), (1, aD (.slice .bool) a1), (5, aD (.slice (.pair tI (.pair tI tI))) r1.1), (6, aI r1.2), (7, aI (1 : Int))]) (L' := []) (obs := []) (by kernel_rfl) (by kernel_rfl) (by kernel_rfl) allP0 ?_
      exact exQ_mk (by kernel_rfl) (by kernel_rfl)
    · replace h := ofF h15 h
      refine W_seq (by kernel_rfl) ?_
      obtain ⟨_, h16, h⟩ := bind_of h
      replace h16 := ck_some h16
      refine W_run 6 [] [0, 1, 5, 6, 7, 23] [] (fr' := [(0, aI a0), (1, aD (.slice .bool) a1), (5, aD (.slice (.pair tI (.pair tI tI))) r1.1), (6, aI r1.2), (7, aI (0 : Int)), (23, aB ((List.length a1 : Int) != (bShl .i64 (1 : Int) (IntKind.wrap .u64 (a0)))))]) (L' := []) (obs := [(0 ≤ IntKind.wrap .u64 (a0))]) (by kernel_rfl) (by kernel_rfl) (by kernel_rfl) (allP1 h16) ?_
      refine seqQ_norm ?_
      refine W_cond (o := .tmp 23) (b := (List.length a1 : Int) != (bShl .i64 (1 : Int) (IntKind.wrap .u64 (a0)))) (by kernel_rfl) (by kernel_rfl) (fun h17 => ?_) (fun h17 => ?_)
      · replace h := ofT h17 h
        obtain rfl := Option.some.inj h
        refine W_run 1 [] [0, 1, 5, 6, 7] [] (fr' := [(0, aI a0), (1, aD (.slice .bool) a1), (5, aD (.slice (.pair tI (.pair tI tI))) r1.1), (6, aI r1.2), (7, aI (3 : Int))]) (L' := []) (obs := []) (by kernel_rfl) (by kernel_rfl) (by kernel_rfl) allP0 ?_
        exact exQ_mk (by kernel_rfl) (by kernel_rfl)
      · replace h := ofF h17 h
        obtain rfl := Option.some.inj h
        refine W_skip [0, 1, 5, 6, 7] [] (fr' := [(0, aI a0), (1, aD (.slice .bool) a1), (5, aD (.slice (.pair tI (.pair tI tI))) r1.1), (6, aI r1.2), (7, aI (0 : Int))]) (L' := []) (by kernel_rfl) (by kernel_rfl) ?_
        exact exQ_mk (by kernel_rfl) (by kernel_rfl)
  · intro e fr L hJ
    obtain ⟨rfl, rfl, rfl⟩ := hJ
    refine LT_keep [0, 1, 5, 6, 7] [] (fr' := [(0, aI a0), (1, aD (.slice .bool) a1), (5, aD (.slice (.pair tI (.pair tI tI))) r1.1), (6, aI r1.2), (7, aI v18)]) (L' := []) (by kernel_rfl) ?_
    refine seqQ_norm ?_
    refine W_seq (by kernel_rfl) ?_
    refine W_seq (by kernel_rfl) ?_
    refine W_run 2 [] [0, 1, 5, 6, 7, 25] [] (fr' := [(0, aI a0), (1, aD (.slice .bool) a1), (5, aD (.slice (.pair tI (.pair tI tI))) r1.1), (6, aI r1.2), (7, aI v18), (25, aB (v18 != (0 : Int)))]) (L' := []) (obs := []) (by kernel_rfl) (by kernel_rfl) (by kernel_rfl) allP0 ?_
    refine seqQ_norm ?_
    refine W_cond (o := .tmp 25) (b := v18 != (0 : Int)) (by kernel_rfl) (by kernel_rfl) (fun h20 => ?_) (fun h20 => ?_)
    · replace h := ofT h20 h
      refine W_seq (by kernel_rfl) ?_
      refine W_run 9 [] [4] [] (fr' := [(4, aB ((r1.2 == v18) && ((List.length r1.1 : Int) == (0 : Int))))]) (L' := []) (obs := []) (by kernel_rfl) (by kernel_rfl) (by kernel_rfl) allP0 ?_
      refine seqQ_norm ?_
      obtain rfl := Option.some.inj h
      refine W_ret [4] [] (fr' := [(4, aB ((r1.2 == v18) && ((List.length r1.1 : Int) == (0 : Int))))]) (L' := []) (by kernel_rfl) (by kernel_rfl) ?_
      refine seqQ_ret ?_
      exact retQ_mk (by kernel_rfl) (by kernel_rfl) (by kernel_rfl)
    · replace h := ofF h20 h
      refine W_skip [0, 1, 5, 6] [] (fr' := [(0, aI a0), (1, aD (.slice .bool) a1), (5, aD (.slice (.pair tI (.pair tI tI))) r1.1), (6, aI r1.2)]) (L' := []) (by kernel_rfl) (by kernel_rfl) ?_
      refine seqQ_norm ?_
      refine W_seq (by kernel_rfl) ?_
      refine W_seq (by kernel_rfl) ?_
      obtain ⟨v30, h31, h⟩ := bind_of h
      refine W_cutK (Q' := (exQ .normal (law_GateBuilds_s7 a1 r1)) v30) ?_ ?_
      · replace h := h31
        refine W_region (by kernel_rfl) ?_
        refine WO_run (j := 20) (k := 20) (orcs := []) (kF := [0, 1, 5, 53]) (kL := []) (fr' := [(0, aI a0), (1, aD (.slice .bool) a1), (5, aD (.slice (.pair tI (.pair tI tI))) r1.1), (53, aB (((r1.2 != (0 : Int)) || ((List.length r1.1 : Int) == (0 : Int))) || (decide ((List.length r1.1 : Int) > (w64 ((w64 ((w64 ((3 : Int) * (List.length a1 : Int))) + (w64 ((3 : Int) * a0)))) + (3 : Int)))))))]) (L' := []) (obs := []) rfl (by kernel_rfl) allP0 ?_
        rcases Bool.eq_false_or_eq_true (((r1.2 != (0 : Int)) || ((List.length r1.1 : Int) == (0 : Int))) || (decide ((List.length r1.1 : Int) > (w64 ((w64 ((w64 ((3 : Int) * (List.length a1 : Int))) + (w64 ((3 : Int) * a0)))) + (3 : Int)))))) with h27 | h27
        · replace h := ofT h27 h
          refine WO_run (j := 25) (k := 5) (orcs := [(40, .known true), (42, .known true), (44, .known true), (46, .known true), (49, .val (.dat .bool true))]) (kF := [1, 5, 58]) (kL := []) (fr' := [(1, aD (.slice .bool) a1), (5, aD (.slice (.pair tI (.pair tI tI))) r1.1), (58, aB true)]) (L' := []) (obs := [((((r1.2 != (0 : Int)) || ((List.length r1.1 : Int) == (0 : Int))) || (decide ((List.length r1.1 : Int) > (w64 ((w64 ((w64 ((3 : Int) * (List.length a1 : Int))) + (w64 ((3 : Int) * a0)))) + (3 : Int)))))) = true), ((((r1.2 != (0 : Int)) || ((List.length r1.1 : Int) == (0 : Int))) || (decide ((List.length r1.1 : Int) > (w64 ((w64 ((w64 ((3 : Int) * (List.length a1 : Int))) + (w64 ((3 : Int) * a0)))) + (3 : Int)))))) = true), ((((r1.2 != (0 : Int)) || ((List.length r1.1 : Int) == (0 : Int))) || (decide ((List.length r1.1 : Int) > (w64 ((w64 ((w64 ((3 : Int) * (List.length a1 : Int))) + (w64 ((3 : Int) * a0)))) + (3 : Int)))))) = true), ((((r1.2 != (0 : Int)) || ((List.length r1.1 : Int) == (0 : Int))) || (decide ((List.length r1.1 : Int) > (w64 ((w64 ((w64 ((3 : Int) * (List.length a1 : Int))) + (w64 ((3 : Int) * a0)))) + (3 : Int)))))) = true), ((((r1.2 != (0 : Int)) || ((List.length r1.1 : Int) == (0 : Int))) || (decide ((List.length r1.1 : Int) > (w64 ((w64 ((w64 ((3 : Int) * (List.length a1 : Int))) + (w64 ((3 : Int) * a0)))) + (3 : Int)))))) = true)]) rfl (by kernel_rfl) (allP2 h27 (allP2 h27 (allP2 h27 (allP2 h27 (allP1 h27))))) ?_
          obtain rfl := Option.some.inj h
          refine WO_fin [1, 5, 58] [] (fr' := [(1, aD (.slice .bool) a1), (5, aD (.slice (.pair tI (.pair tI tI))) r1.1), (58, aB true)]) (L' := []) (by kernel_rfl) (by kernel_rfl) ?_
          exact exQ_mk (by kernel_rfl) (by kernel_rfl)
        · replace h := ofF h27 h
          refine WO_run (j := 22) (k := 2) (orcs := [(40, .known false), (42, .known false)]) (kF := [1, 5, 53, 54, 55]) (kL := []) (fr' := [(1, aD (.slice .bool) a1), (5, aD (.slice (.pair tI (.pair tI tI))) r1.1), (53, aB (((r1.2 != (0 : Int)) || ((List.length r1.1 : Int) == (0 : Int))) || (decide ((List.length r1.1 : Int) > (w64 ((w64 ((w64 ((3 : Int) * (List.length a1 : Int))) + (w64 ((3 : Int) * a0)))) + (3 : Int))))))), (54, aI a0), (55, aD (.slice (.pair tI (.pair tI tI))) r1.1)]) (L' := []) (obs := [((((r1.2 != (0 : Int)) || ((List.length r1.1 : Int) == (0 : Int))) || (decide ((List.length r1.1 : Int) > (w64 ((w64 ((w64 ((3 : Int) * (List.length a1 : Int))) + (w64 ((3 : Int) * a0)))) + (3 : Int)))))) = false), ((((r1.2 != (0 : Int)) || ((List.length r1.1 : Int) == (0 : Int))) || (decide ((List.length r1.1 : Int) > (w64 ((w64 ((w64 ((3 : Int) * (List.length a1 : Int))) + (w64 ((3 : Int) * a0)))) + (3 : Int)))))) = false)]) rfl (by kernel_rfl) (allP2 h27 (allP1 h27)) ?_
          obtain ⟨r28, h29, h⟩ := bind_of h
          refine WO_call0 (us := [none, none]) (d := 56) (p := ((((r1.2 != (0 : Int)) || ((List.length r1.1 : Int) == (0 : Int))) || (decide ((List.length r1.1 : Int) > (w64 ((w64 ((w64 ((3 : Int) * (List.length a1 : Int))) + (w64 ((3 : Int) * a0)))) + (3 : Int)))))) = false)) (j := 23) rfl ⟨by kernel_rfl, by kernel_rfl, by kernel_rfl⟩ h27 (ref_GatesCheck_ok h29) (by kernel_rfl) ?_
          refine WO_run (j := 25) (k := 2) (orcs := [(46, .known false), (49, .val (.dat .bool false))]) (kF := [1, 5, 58]) (kL := []) (fr' := [(1, aD (.slice .bool) a1), (5, aD (.slice (.pair tI (.pair tI tI))) r1.1), (58, aB (r28 != (0 : Int)))]) (L' := []) (obs := [((((r1.2 != (0 : Int)) || ((List.length r1.1 : Int) == (0 : Int))) || (decide ((List.length r1.1 : Int) > (w64 ((w64 ((w64 ((3 : Int) * (List.length a1 : Int))) + (w64 ((3 : Int) * a0)))) + (3 : Int)))))) = false), ((((r1.2 != (0 : Int)) || ((List.length r1.1 : Int) == (0 : Int))) || (decide ((List.length r1.1 : Int) > (w64 ((w64 ((w64 ((3 : Int) * (List.length a1 : Int))) + (w64 ((3 : Int) * a0)))) + (3 : Int)))))) = false)]) rfl (by kernel_rfl) (allP2 h27 (allP1 h27)) ?_
          obtain rfl := Option.some.inj h
          refine WO_fin [1, 5, 58] [] (fr' := [(1, aD (.slice .bool) a1), (5, aD (.slice (.pair tI (.pair tI tI))) r1.1), (58, aB (r28 != (0 : Int)))]) (L' := []) (by kernel_rfl) (by kernel_rfl) ?_
          exact exQ_mk (by kernel_rfl) (by kernel_rfl)
      · intro e fr L hJ
        obtain ⟨rfl, rfl, rfl⟩ := hJ
        refine LT_keep [1, 5, 58] [] (fr' := [(1, aD (.slice .bool) a1), (5, aD (.slice (.pair tI (.pair tI tI))) r1.1), (58, aB v30)]) (L' := []) (by kernel_rfl) ?_
        refine seqQ_norm ?_
        refine W_cond (o := .tmp 58) (b := v30) (by kernel_rfl) (by kernel_rfl) (fun h32 => ?_) (fun h32 => ?_)
        · replace h := ofT h32 h
          refine W_seq (by kernel_rfl) ?_
          refine W_run 1 [] [4] [] (fr' := [(4, aB false)]) (L' := []) (obs := []) (by kernel_rfl) (by kernel_rfl) (by kernel_rfl) allP0 ?_
          refine seqQ_norm ?_
          obtain rfl := Option.some.inj h
          refine W_ret [4] [] (fr' := [(4, aB false)]) (L' := []) (by kernel_rfl) (by kernel_rfl) ?_
          refine seqQ_ret ?_
          exact retQ_mk (by kernel_rfl) (by kernel_rfl) (by kernel_rfl)
        · replace h := ofF h32 h
          refine W_skip [1, 5] [] (fr' := [(1, aD (.slice .bool) a1), (5, aD (.slice (.pair tI (.pair tI tI))) r1.1)]) (L' := []) (by kernel_rfl) (by kernel_rfl) ?_
          refine seqQ_norm ?_
          refine W_seq (by kernel_rfl) ?_
          refine W_seq (by kernel_rfl) ?_
          refine W_run 1 [] [1, 5, 8] [] (fr' := [(1, aD (.slice .bool) a1), (5, aD (.slice (.pair tI (.pair tI tI))) r1.1), (8, aI (0 : Int))]) (L' := []) (obs := []) (by kernel_rfl) (by kernel_rfl) (by kernel_rfl) allP0 ?_
          refine seqQ_norm ?_
          refine W_block (id := 0) (by kernel_rfl) ?_
          obtain ⟨v63, h64, h⟩ := bind_of h
          refine W_len (t := 1) (u := .bool) (xs := a1) (by kernel_rfl) (fun h67 => ?_)
          obtain ⟨h65, h66⟩ := forL_iter h67 h64
          refine W_weaken [1, 5, 8] [] (fr' := ((law_GateBuilds_s4 a1 r1) ((0 : Int), ())).1) (L' := ((law_GateBuilds_s4 a1 r1) ((0 : Int), ())).2) (by kernel_rfl) ?_
          refine W_cutK (W_loop (S := (law_GateBuilds_s4 a1 r1)) (J := (escQ (exQ .ret law_GateBuilds_s5) (exQ (.exit 0) law_GateBuilds_s6))) (by kernel_rfl) ?_ h65 _ v63 h66) ?_
          · rintro ⟨i51, x52⟩ s h
            refine W_seq (by kernel_rfl) ?_
            refine W_seq (by kernel_rfl) ?_
            refine W_run 4 [] [1, 5, 8, 62] [] (fr' := [(1, aD (.slice .bool) a1), (5, aD (.slice (.pair tI (.pair tI tI))) r1.1), (8, aI i51), (62, aB (decide (i51 < (List.length a1 : Int))))]) (L' := []) (obs := []) (by kernel_rfl) (by kernel_rfl) (by kernel_rfl) allP0 ?_
            refine seqQ_norm ?_
            refine W_cond (o := .tmp 62) (b := decide (i51 < (List.length a1 : Int))) (by kernel_rfl) (by kernel_rfl) (fun h56 => ?_) (fun h56 => ?_)
            · replace h := stepL_true h56 h
              obtain ⟨v54, _, h55, h, rfl⟩ := h
              refine W_skip [1, 5, 8] [] (fr' := [(1, aD (.slice .bool) a1), (5, aD (.slice (.pair tI (.pair tI tI))) r1.1), (8, aI i51)]) (L' := []) (by kernel_rfl) (by kernel_rfl) ?_
              refine seqQ_norm ?_
              refine W_seq (by kernel_rfl) ?_
              refine W_block (id := 1) (by kernel_rfl) ?_
              refine W_seq (by kernel_rfl) ?_
              obtain ⟨r57, h58, h⟩ := bind_of h
              obtain ⟨v59, h60, h⟩ := bind_of h
              refine W_draw2 13 [(13, .val (.dat .bool v59)), (21, .val (.dat .bool v54))] [(2, [none, none], aD (.slice .bool) r57)] [1, 5, 8, 77] [] (fr' := [(1, aD (.slice .bool) a1), (5, aD (.slice (.pair tI (.pair tI tI))) r1.1), (8, aI i51), (77, aB (!(v59 == v54)))]) (L' := []) (out := [(65, aD (.slice (.pair tI (.pair tI tI))) r1.1), (66, aI i51), (67, aD (.slice .bool) r57), (68, aD (.slice (.pair tI (.pair tI tI))) r1.1), (69, aI (List.length r1.1 : Int)), (70, aI (w64 ((List.length r1.1 : Int) - (1 : Int)))), (71, .one (.dptr .bool v59)), (72, aB v59), (73, aD (.slice .bool) a1), (74, aI i51), (75, .one (.dptr .bool v54)), (76, aB v54), (77, aB (!(v59 == v54)))]) (obs := [True, Idx r57 (w64 ((List.length r1.1 : Int) - (1 : Int))) v59, Idx a1 i51 v54]) (obs2 := []) (calls := [(17, [aD (.slice (.pair tI (.pair tI tI))) r1.1, aI i51], aD (.slice .bool) r57)]) (by kernel_rfl) (by kernel_rfl) (by kernel_rfl) (by kernel_rfl) (allP2 trivial (allP2 (Idx.of h60) (allP1 (Idx.of h55)))) (allC1 (by kernel_rfl) (ref_Gates_ok h58) (by kernel_rfl) allC0) (by kernel_rfl) allP0 ?_
              refine seqQ_norm ?_
              refine W_cond (o := .tmp 77) (b := !(v59 == v54)) (by kernel_rfl) (by kernel_rfl) (fun h61 => ?_) (fun h61 => ?_)
              · replace h := ofT h61 h
                refine W_seq (by kernel_rfl) ?_
                refine W_run 1 [] [4] [] (fr' := [(4, aB false)]) (L' := []) (obs := []) (by kernel_rfl) (by kernel_rfl) (by kernel_rfl) allP0 ?_
                refine seqQ_norm ?_
                obtain rfl := Option.some.inj h
                refine W_ret [4] [] (fr' := [(4, aB false)]) (L' := []) (by kernel_rfl) (by kernel_rfl) ?_
                refine blockQ_ret ?_
                refine seqQ_ret ?_
                refine round_ret ?_
                refine escQ_ret ?_
                exact exQ_mk (by kernel_rfl) (by kernel_rfl)
              · replace h := ofF h61 h
                refine W_skip [1, 5, 8] [] (fr' := [(1, aD (.slice .bool) a1), (5, aD (.slice (.pair tI (.pair tI tI))) r1.1), (8, aI i51)]) (L' := []) (by kernel_rfl) (by kernel_rfl) ?_
                refine blockQ_norm ?_
                refine seqQ_norm ?_
                obtain rfl := Option.some.inj h
                refine W_run 3 [] [1, 5, 8] [] (fr' := [(1, aD (.slice .bool) a1), (5, aD (.slice (.pair tI (.pair tI tI))) r1.1), (8, aI (w64 (i51 + (1 : Int))))]) (L' := []) (obs := []) (by kernel_rfl) (by kernel_rfl) (by kernel_rfl) allP0 ?_
                exact round_next' (by kernel_rfl) (by kernel_rfl)
            · obtain rfl := stepL_false h56 h
              refine W_exit (id := 0) [] [] (fr' := []) (L' := []) (by kernel_rfl) (by kernel_rfl) ?_
              refine seqQ_exit ?_
              refine round_exit ?_
              refine escQ_brk ?_
              exact exQ_mk (by kernel_rfl) (by kernel_rfl)
          · intro e fr L hJ
            rcases v63 with v68 | v69
            · obtain ⟨rfl, rfl, rfl⟩ := hJ
              obtain rfl := Option.some.inj h
              refine LT_keep [4] [] (fr' := [(4, aB v68)]) (L' := []) (by kernel_rfl) ?_
              refine blockQ_ret ?_
              refine seqQ_ret ?_
              exact retQ_mk (by kernel_rfl) (by kernel_rfl) (by kernel_rfl)
            · obtain ⟨rfl, rfl, rfl⟩ := hJ
              refine LT_keep [] [] (fr' := []) (L' := []) (by kernel_rfl) ?_
              refine blockQ_hit ?_
              refine seqQ_norm ?_
              refine W_seq (by kernel_rfl) ?_
              refine W_run 1 [] [4] [] (fr' := [(4, aB true)]) (L' := []) (obs := []) (by kernel_rfl) (by kernel_rfl) (by kernel_rfl) allP0 ?_
              refine seqQ_norm ?_
              obtain rfl := Option.some.inj h
              refine W_ret [4] [] (fr' := [(4, aB true)]) (L' := []) (by kernel_rfl) (by kernel_rfl) ?_
              exact retQ_mk (by kernel_rfl) (by kernel_rfl) (by kernel_rfl)
end Go.Proofs.Ythjdegeajfhakaa.gateBuilds
