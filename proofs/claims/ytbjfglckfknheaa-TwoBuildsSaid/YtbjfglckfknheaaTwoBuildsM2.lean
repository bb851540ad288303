/- What the functions that TwoBuilds calls compute, as models, and that they compute it: written by a program of mine. -/
import Derived.Test.YtbjfglckfknheaaProg
import Derived.Test.YtbjfglckfknheaaTwoBuildsM1
set_option linter.all false
set_option maxRecDepth 100000
namespace Go.Proofs.Ytbjfglckfknheaa.twoBuilds
open Go Go.Sl
noncomputable def law_TwoBuilds_g1 (a1 : (List (Int × (Int × (Int × Int))))) (r1 : ((List (Int × (Int × (Int × Int)))) × (List Int) × Int)) : Option Bool :=
bif r1.2.2 != (0 : Int) then
(some true)
else
((ref_OrdersCheck (2 : Int) r1.1).bind fun r25 =>
bif (r25 != (0 : Int)) || ((List.length r1.2.1 : Int) != (w64 ((List.length a1 : Int) + (1 : Int)))) then
(some true)
else
((idx r1.2.1 (List.length a1 : Int)).bind fun v28 =>
bif v28 != (List.length r1.1 : Int) then
(some true)
else
((ref_Inside (w64 ((List.length r1.1 : Int) + (1 : Int))) r1.2.1).bind fun r31 =>
some (!r31))))
noncomputable def law_TwoBuilds_b9 (r1 : ((List (Int × (Int × (Int × Int)))) × (List Int) × Int)) (v80 : Int) (i93 : Int) (x94 : Unit) : Option (Flow Unit (Esc Bool Unit)) :=
(idx r1.2.1 i93).bind fun v97 =>
bif v80 == v97 then
(some (.done (.ret false)))
else
(some (.next ()))
@[reducible] def law_TwoBuilds_s10 (a0 : Int) (a1 : (List (Int × (Int × (Int × Int))))) (a2 : Int) (a3 : (List Int)) (r1 : ((List (Int × (Int × (Int × Int)))) × (List Int) × Int)) (i77 : Int) (v : Int × Unit) : Fr × LL := ([(0, aI a0), (1, aD (.slice (.pair tI (.pair tI (.pair tI tI)))) a1), (2, aD (.int .u8) a2), (3, aD (.slice tI) a3), (9, aD (.slice (.pair tI (.pair tI (.pair tI tI)))) r1.1), (10, aD (.slice tI) r1.2.1), (13, aI i77), (14, aI v.1)], [])
@[reducible] def law_TwoBuilds_s11 (v : Bool) : Fr × LL := ([(8, aB v)], [])
@[reducible] def law_TwoBuilds_s12 (a0 : Int) (a1 : (List (Int × (Int × (Int × Int))))) (a2 : Int) (a3 : (List Int)) (r1 : ((List (Int × (Int × (Int × Int)))) × (List Int) × Int)) (i77 : Int) (v : Unit) : Fr × LL := ([(0, aI a0), (1, aD (.slice (.pair tI (.pair tI (.pair tI tI)))) a1), (2, aD (.int .u8) a2), (3, aD (.slice tI) a3), (9, aD (.slice (.pair tI (.pair tI (.pair tI tI)))) r1.1), (10, aD (.slice tI) r1.2.1), (13, aI i77)], [])
noncomputable def law_TwoBuilds_b13 (r1 : ((List (Int × (Int × (Int × Int)))) × (List Int) × Int)) (i77 : Int) (v80 : Int) (x78 : Unit) : Option (Flow Unit (Esc Bool Unit)) :=
(forI (0 : Int) i77 (law_TwoBuilds_b9 r1 v80) (fun x94 => (.brk ())) ()).bind fun v101 =>
match v101 with
| .ret v105 =>
(some (.done (.ret v105)))
| .brk v106 =>
(some (.next ()))
@[reducible] def law_TwoBuilds_s14 (a0 : Int) (a1 : (List (Int × (Int × (Int × Int))))) (a2 : Int) (a3 : (List Int)) (r1 : ((List (Int × (Int × (Int × Int)))) × (List Int) × Int)) (v : Int × Unit) : Fr × LL := ([(0, aI a0), (1, aD (.slice (.pair tI (.pair tI (.pair tI tI)))) a1), (2, aD (.int .u8) a2), (3, aD (.slice tI) a3), (9, aD (.slice (.pair tI (.pair tI (.pair tI tI)))) r1.1), (10, aD (.slice tI) r1.2.1), (13, aI v.1)], [])
@[reducible] def law_TwoBuilds_s15 (v : Bool) : Fr × LL := ([(8, aB v)], [])
@[reducible] def law_TwoBuilds_s16 (a0 : Int) (a1 : (List (Int × (Int × (Int × Int))))) (a2 : Int) (a3 : (List Int)) (r1 : ((List (Int × (Int × (Int × Int)))) × (List Int) × Int)) (v : Unit) : Fr × LL := ([(0, aI a0), (1, aD (.slice (.pair tI (.pair tI (.pair tI tI)))) a1), (2, aD (.int .u8) a2), (3, aD (.slice tI) a3), (9, aD (.slice (.pair tI (.pair tI (.pair tI tI)))) r1.1), (10, aD (.slice tI) r1.2.1)], [])
noncomputable def law_TwoBuilds_b17 (i130 : Int) (v133 : Int) (x131 : Unit) : Option (Flow Unit (Esc Bool Unit)) :=
(ref_Within (0 : Int) v133 (2 : Int)).bind fun r136 =>
bif !r136 then
(some (.done (.ret true)))
else
(some (.next ()))
@[reducible] def law_TwoBuilds_s18 (a1 : (List (Int × (Int × (Int × Int))))) (a2 : Int) (a3 : (List Int)) (r1 : ((List (Int × (Int × (Int × Int)))) × (List Int) × Int)) (v : Int × Unit) : Fr × LL := ([(1, aD (.slice (.pair tI (.pair tI (.pair tI tI)))) a1), (2, aD (.int .u8) a2), (3, aD (.slice tI) a3), (9, aD (.slice (.pair tI (.pair tI (.pair tI tI)))) r1.1), (10, aD (.slice tI) r1.2.1), (106, aD (.slice tI) a3), (107, aI (List.length a3 : Int)), (108, aI v.1)], [])
@[reducible] def law_TwoBuilds_s19 (v : Bool) : Fr × LL := ([(8, aB v)], [])
@[reducible] def law_TwoBuilds_s20 (a1 : (List (Int × (Int × (Int × Int))))) (a2 : Int) (a3 : (List Int)) (r1 : ((List (Int × (Int × (Int × Int)))) × (List Int) × Int)) (v : Unit) : Fr × LL := ([(1, aD (.slice (.pair tI (.pair tI (.pair tI tI)))) a1), (2, aD (.int .u8) a2), (3, aD (.slice tI) a3), (9, aD (.slice (.pair tI (.pair tI (.pair tI tI)))) r1.1), (10, aD (.slice tI) r1.2.1)], [])
noncomputable def law_TwoBuilds_g46 (x288 : (Int × Int × (List Int))) (v488 : (Int × (Int × (Int × Int)))) : Option (Int × (List Int)) :=
bif v488.1 == (1 : Int) then
((idx x288.2.2 v488.2.1).bind fun v503 =>
some (v488.2.2.1, List.set x288.2.2 (Int.toNat v488.2.1) (w64 (v503 + (1 : Int)))))
else
((idx x288.2.2 v488.2.1).bind fun v505 =>
bif decide (v505 > (0 : Int)) then
(some (v488.2.2.1, List.set x288.2.2 (Int.toNat v488.2.1) (w64 (v505 - (1 : Int)))))
else
(some (v488.2.2.2, x288.2.2)))
noncomputable def law_TwoBuilds_g47 (r1 : ((List (Int × (Int × (Int × Int)))) × (List Int) × Int)) (r150 : ((List Int) × Int)) (v508 : (Int × (List Int))) : Option Bool :=
(idx r1.2.1 r150.2).bind fun v542 =>
bif v508.1 == v542 then
((idx v508.2 (0 : Int)).bind fun v545 =>
(ref_Packed r150.1).bind fun r547 =>
some (v545 == r547))
else
(some false)
@[reducible] def law_TwoBuilds_s48 (v : Bool) : Fr × LL := ([(8, aB v)], [])
@[reducible] def law_TwoBuilds_s49 (a3 : (List Int)) (r1 : ((List (Int × (Int × (Int × Int)))) × (List Int) × Int)) (r150 : ((List Int) × Int)) (x288 : (Int × Int × (List Int))) (v508 : (Int × (List Int))) (v : Bool) : Fr × LL := ([(3, aD (.slice tI) a3), (9, aD (.slice (.pair tI (.pair tI (.pair tI tI)))) r1.1), (10, aD (.slice tI) r1.2.1), (18, aD (.slice tI) r150.1), (19, aI r150.2), (20, .one (.slc 132)), (21, aI v508.1), (22, aI x288.2.1), (198, aB v)], [(132, .seq tI v508.2)])
@[reducible] def law_TwoBuilds_s50 (a3 : (List Int)) (r1 : ((List (Int × (Int × (Int × Int)))) × (List Int) × Int)) (r150 : ((List Int) × Int)) (x288 : (Int × Int × (List Int))) (v : (Int × (List Int))) : Fr × LL := ([(3, aD (.slice tI) a3), (9, aD (.slice (.pair tI (.pair tI (.pair tI tI)))) r1.1), (10, aD (.slice tI) r1.2.1), (18, aD (.slice tI) r150.1), (19, aI r150.2), (20, .one (.slc 132)), (21, aI v.1), (22, aI x288.2.1)], [(132, .seq tI v.2)])
noncomputable def law_TwoBuilds_b51 (a3 : (List Int)) (r1 : ((List (Int × (Int × (Int × Int)))) × (List Int) × Int)) (r150 : ((List Int) × Int)) (x288 : (Int × Int × (List Int))) : Option (Flow (Int × Int × (List Int)) (Esc Bool Unit)) :=
(ref_Packed a3).bind fun r420 =>
bif decide (x288.2.1 < (w64 ((w64 ((100 : Int) * r420)) + (100 : Int)))) then
(bif decide (x288.1 ≥ (List.length r1.1 : Int)) then
(some (.done (.ret false)))
else
((idx r1.1 x288.1).bind fun v488 =>
(law_TwoBuilds_g46 x288 v488).bind fun v508 =>
((idx v508.2 (1 : Int)).bind fun v520 =>
bif v520 == (0 : Int) then
((ref_Has r1.2.1 v508.1).bind fun r523 =>
some r523)
else
(some false)).bind fun v525 =>
bif v525 then
((law_TwoBuilds_g47 r1 r150 v508).bind fun v549 =>
some (.done (.ret v549)))
else
(some (.next (v508.1, w64 (x288.2.1 + (1 : Int)), v508.2)))))
else
(some (.done (.brk ())))
@[reducible] def law_TwoBuilds_s52 (a3 : (List Int)) (r1 : ((List (Int × (Int × (Int × Int)))) × (List Int) × Int)) (r150 : ((List Int) × Int)) (v : (Int × Int × (List Int))) : Fr × LL := ([(3, aD (.slice tI) a3), (9, aD (.slice (.pair tI (.pair tI (.pair tI tI)))) r1.1), (10, aD (.slice tI) r1.2.1), (18, aD (.slice tI) r150.1), (19, aI r150.2), (20, .one (.slc 132)), (21, aI v.1), (22, aI v.2.1)], [(132, .seq tI v.2.2)])
@[reducible] def law_TwoBuilds_s53 (v : Bool) : Fr × LL := ([(8, aB v)], [])
@[reducible] def law_TwoBuilds_s54 (v : Unit) : Fr × LL := ([], [])
@[reducible] def law_TwoBuilds_s55 (a0 : Int) (a1 : (List (Int × (Int × (Int × Int))))) (a2 : Int) (a3 : (List Int)) (r1 : ((List (Int × (Int × (Int × Int)))) × (List Int) × Int)) (v : Bool) : Fr × LL := ([(0, aI a0), (1, aD (.slice (.pair tI (.pair tI (.pair tI tI)))) a1), (2, aD (.int .u8) a2), (3, aD (.slice tI) a3), (9, aD (.slice (.pair tI (.pair tI (.pair tI tI)))) r1.1), (10, aD (.slice tI) r1.2.1), (81, aB v)], [])
noncomputable def law_TwoBuilds (fuel : Nat) (a0 : Int) (a1 : (List (Int × (Int × (Int × Int))))) (a2 : Int) (a3 : (List Int)) : Option Bool :=
(two_Build a0 a1).bind fun r1 =>
(ref_CountCheck a0 a1).bind fun r3 =>
bif r3 != (0 : Int) then
(some (((r1.2.2 == r3) && ((List.length r1.1 : Int) == (0 : Int))) && ((List.length r1.2.1 : Int) == (0 : Int))))
else
((law_TwoBuilds_g1 a1 r1).bind fun v33 =>
bif v33 then
(some false)
else
((forL (law_TwoBuilds_b13 r1) (fun x78 => (.brk ())) r1.2.1 0 ()).bind fun v108 =>
match v108 with
| .ret v113 =>
(some v113)
| .brk v114 =>
(bif (List.length a3 : Int) != a0 then
(some true)
else
((forL law_TwoBuilds_b17 (fun x131 => (.brk ())) a3 0 ()).bind fun v140 =>
match v140 with
| .ret v145 =>
(some v145)
| .brk v146 =>
((ck ((List.length a1 : Int) ≠ 0)).bind fun _ =>
(idx a1 (Int.tmod (w64 (a2)) (List.length a1 : Int))).bind fun v148 =>
(law_oneOrder v148 a3).bind fun r150 =>
(ref_Packed a3).bind fun r152 =>
(idx r1.2.1 (Int.tmod (w64 (a2)) (List.length a1 : Int))).bind fun v154 =>
(iter (law_TwoBuilds_b51 a3 r1 r150) fuel (v154, (0 : Int), [r152, (0 : Int)])).bind fun v551 =>
match v551 with
| .ret v555 =>
(some v555)
| .brk v556 =>
(some false))))))
theorem law_TwoBuilds_ok {fuel : Nat} {a0 : Int} {a1 : (List (Int × (Int × (Int × Int))))} {a2 : Int} {a3 : (List Int)} {r : Bool} (h : law_TwoBuilds fuel a0 a1 a2 a3 = some r) : FnC Try.prog 7 [aI a0, aD (.slice (.pair tI (.pair tI (.pair tI tI)))) a1, aD (.int .u8) a2, aD (.slice tI) a3] [] (aB r) [] := by
  refine fnC_of_W (B := bodyOf Try.f7) (n := 213) Try.func7 (by kernel_rfl) (by kernel_rfl) (by kernel_rfl) (by kernel_rfl) (by kernel_rfl) ?_
  intro K
  refine W_seq (by kernel_rfl) ?_
  refine W_run 1 [] [0, 1, 2, 3] [] (fr' := [(0, aI a0), (1, aD (.slice (.pair tI (.pair tI (.pair tI tI)))) a1), (2, aD (.int .u8) a2), (3, aD (.slice tI) a3)]) (L' := []) (obs := []) (by kernel_rfl) (by kernel_rfl) (by kernel_rfl) allP0 ?_
  refine seqQ_norm ?_
  refine W_seq (by kernel_rfl) ?_
  refine W_region (by kernel_rfl) ?_
  refine WO_run (j := 2) (k := 2) (orcs := []) (kF := [0, 1, 2, 3, 25, 26]) (kL := []) (fr' := [(0, aI a0), (1, aD (.slice (.pair tI (.pair tI (.pair tI tI)))) a1), (2, aD (.int .u8) a2), (3, aD (.slice tI) a3), (25, aI a0), (26, aD (.slice (.pair tI (.pair tI (.pair tI tI)))) a1)]) (L' := []) (obs := []) rfl (by kernel_rfl) allP0 ?_
  obtain ⟨r1, h2, h⟩ := bind_of h
  refine WO_call0 (us := [none, none]) (d := 27) (p := True) (j := 3) rfl ⟨by kernel_rfl, by kernel_rfl, by kernel_rfl⟩ trivial (two_Build_ok h2) (by kernel_rfl) ?_
  refine WO_run (j := 10) (k := 7) (orcs := []) (kF := [0, 1, 2, 3, 9, 10, 11]) (kL := []) (fr' := [(0, aI a0), (1, aD (.slice (.pair tI (.pair tI (.pair tI tI)))) a1), (2, aD (.int .u8) a2), (3, aD (.slice tI) a3), (9, aD (.slice (.pair tI (.pair tI (.pair tI tI)))) r1.1), (10, aD (.slice tI) r1.2.1), (11, aI r1.2.2)]) (L' := []) (obs := []) rfl (by kernel_rfl) allP0 ?_
  refine WO_fin [0, 1, 2, 3, 9, 10, 11] [] (fr' := [(0, aI a0), (1, aD (.slice (.pair tI (.pair tI (.pair tI tI)))) a1), (2, aD (.int .u8) a2), (3, aD (.slice tI) a3), (9, aD (.slice (.pair tI (.pair tI (.pair tI tI)))) r1.1), (10, aD (.slice tI) r1.2.1), (11, aI r1.2.2)]) (L' := []) (by kernel_rfl) (by kernel_rfl) ?_
  refine seqQ_norm ?_
  refine W_seq (by kernel_rfl) ?_
  refine W_region (by kernel_rfl) ?_
  refine WO_run (j := 2) (k := 2) (orcs := []) (kF := [0, 1, 2, 3, 9, 10, 11, 31, 32]) (kL := []) (fr' := [(0, aI a0), (1, aD (.slice (.pair tI (.pair tI (.pair tI tI)))) a1), (2, aD (.int .u8) a2), (3, aD (.slice tI) a3), (9, aD (.slice (.pair tI (.pair tI (.pair tI tI)))) r1.1), (10, aD (.slice tI) r1.2.1), (11, aI r1.2.2), (31, aI a0), (32, aD (.slice (.pair tI (.pair tI (.pair tI tI)))) a1)]) (L' := []) (obs := []) rfl (by kernel_rfl) allP0 ?_
  obtain ⟨r3, h4, h⟩ := bind_of h
  refine WO_call0 (us := [none, none]) (d := 33) (p := True) (j := 3) rfl ⟨by kernel_rfl, by kernel_rfl, by kernel_rfl⟩ trivial (ref_CountCheck_ok h4) (by kernel_rfl) ?_
  refine WO_run (j := 4) (k := 1) (orcs := []) (kF := [0, 1, 2, 3, 9, 10, 11, 12]) (kL := []) (fr' := [(0, aI a0), (1, aD (.slice (.pair tI (.pair tI (.pair tI tI)))) a1), (2, aD (.int .u8) a2), (3, aD (.slice tI) a3), (9, aD (.slice (.pair tI (.pair tI (.pair tI tI)))) r1.1), (10, aD (.slice tI) r1.2.1), (11, aI r1.2.2), (12, aI r3)]) (L' := []) (obs := []) rfl (by kernel_rfl) allP0 ?_
  refine WO_fin [0, 1, 2, 3, 9, 10, 11, 12] [] (fr' := [(0, aI a0), (1, aD (.slice (.pair tI (.pair tI (.pair tI tI)))) a1), (2, aD (.int .u8) a2), (3, aD (.slice tI) a3), (9, aD (.slice (.pair tI (.pair tI (.pair tI tI)))) r1.1), (10, aD (.slice tI) r1.2.1), (11, aI r1.2.2), (12, aI r3)]) (L' := []) (by kernel_rfl) (by kernel_rfl) ?_
  refine seqQ_norm ?_
  refine W_seq (by kernel_rfl) ?_
  refine W_seq (by kernel_rfl) ?_
  refine W_run 2 [] [0, 1, 2, 3, 9, 10, 11, 12, 35] [] (fr' := [(0, aI a0), (1, aD (.slice (.pair tI (.pair tI (.pair tI tI)))) a1), (2, aD (.int .u8) a2), (3, aD (.slice tI) a3), (9, aD (.slice (.pair tI (.pair tI (.pair tI tI)))) r1.1), (10, aD (.slice tI) r1.2.1), (11, aI r1.2.2), (12, aI r3), (35, aB (r3 != (0 : Int)))]) (L' := []) (obs := []) (by kernel_rfl) (by kernel_rfl) (by kernel_rfl) allP0 ?_
  refine seqQ_norm ?_
  refine W_cond (o := .tmp 35) (b := r3 != (0 : Int)) (by kernel_rfl) (by kernel_rfl) (fun h5 => ?_) (fun h5 => ?_)
  · replace h := ofT h5 h
    refine W_seq (by kernel_rfl) ?_
    refine W_run 14 [] [8] [] (fr' := [(8, aB (((r1.2.2 == r3) && ((List.length r1.1 : Int) == (0 : Int))) && ((List.length r1.2.1 : Int) == (0 : Int))))]) (L' := []) (obs := []) (by kernel_rfl) (by kernel_rfl) (by kernel_rfl) allP0 ?_
    refine seqQ_norm ?_
    obtain rfl := Option.some.inj h
    refine W_ret [8] [] (fr' := [(8, aB (((r1.2.2 == r3) && ((List.length r1.1 : Int) == (0 : Int))) && ((List.length r1.2.1 : Int) == (0 : Int))))]) (L' := []) (by kernel_rfl) (by kernel_rfl) ?_
    refine seqQ_ret ?_
    exact retQ_mk (by kernel_rfl) (by kernel_rfl) (by kernel_rfl)
  · replace h := ofF h5 h
    refine W_skip [0, 1, 2, 3, 9, 10, 11] [] (fr' := [(0, aI a0), (1, aD (.slice (.pair tI (.pair tI (.pair tI tI)))) a1), (2, aD (.int .u8) a2), (3, aD (.slice tI) a3), (9, aD (.slice (.pair tI (.pair tI (.pair tI tI)))) r1.1), (10, aD (.slice tI) r1.2.1), (11, aI r1.2.2)]) (L' := []) (by kernel_rfl) (by kernel_rfl) ?_
    refine seqQ_norm ?_
    refine W_seq (by kernel_rfl) ?_
    refine W_seq (by kernel_rfl) ?_
    obtain ⟨v33, h34, h⟩ := bind_of h
    refine W_cutK (Q' := (exQ .normal (law_TwoBuilds_s55 a0 a1 a2 a3 r1)) v33) ?_ ?_
    · replace h := h34
      refine W_region (by kernel_rfl) ?_
      refine WO_run (j := 3) (k := 3) (orcs := []) (kF := [0, 1, 2, 3, 9, 10, 51]) (kL := []) (fr' := [(0, aI a0), (1, aD (.slice (.pair tI (.pair tI (.pair tI tI)))) a1), (2, aD (.int .u8) a2), (3, aD (.slice tI) a3), (9, aD (.slice (.pair tI (.pair tI (.pair tI tI)))) r1.1), (10, aD (.slice tI) r1.2.1), (51, aB (r1.2.2 != (0 : Int)))]) (L' := []) (obs := []) rfl (by kernel_rfl) allP0 ?_
      rcases Bool.eq_false_or_eq_true (r1.2.2 != (0 : Int)) with h24 | h24
      · replace h := ofT h24 h
        refine WO_run (j := 33) (k := 30) (orcs := [(6, .known true), (8, .known true), (10, .known true), (13, .val (.dat .bool true)), (16, .known true), (18, .known true), (20, .known true), (22, .known true), (24, .known true), (26, .known true), (29, .val (.dat .bool true)), (32, .known true), (34, .known true), (36, .known true), (38, .known true), (40, .known true), (42, .known true), (44, .known true), (46, .known true), (49, .val (.dat .bool true)), (52, .known true), (54, .known true), (56, .known true), (58, .known true), (60, .known true), (62, .known true), (65, .val (.dat .bool true))]) (kF := [0, 1, 2, 3, 9, 10, 81]) (kL := []) (fr' := [(0, aI a0), (1, aD (.slice (.pair tI (.pair tI (.pair tI tI)))) a1), (2, aD (.int .u8) a2), (3, aD (.slice tI) a3), (9, aD (.slice (.pair tI (.pair tI (.pair tI tI)))) r1.1), (10, aD (.slice tI) r1.2.1), (81, aB true)]) (L' := []) (obs := [((r1.2.2 != (0 : Int)) = true), ((r1.2.2 != (0 : Int)) = true), ((r1.2.2 != (0 : Int)) = true), ((r1.2.2 != (0 : Int)) = true), (true = true), (true = true), (true = true), (true = true), (true = true), (true = true), (true = true), (true = true), (true = true), (true = true), (true = true), (true = true), (true = true), (true = true), (true = true), (true = true), (true = true), (true = true), (true = true), (true = true), (true = true), (true = true), (true = true)]) rfl (by kernel_rfl) (allP2 h24 (allP2 h24 (allP2 h24 (allP2 h24 (allP2 rfl (allP2 rfl (allP2 rfl (allP2 rfl (allP2 rfl (allP2 rfl (allP2 rfl (allP2 rfl (allP2 rfl (allP2 rfl (allP2 rfl (allP2 rfl (allP2 rfl (allP2 rfl (allP2 rfl (allP2 rfl (allP2 rfl (allP2 rfl (allP2 rfl (allP2 rfl (allP2 rfl (allP2 rfl (allP1 rfl))))))))))))))))))))))))))) ?_
        obtain rfl := Option.some.inj h
        refine WO_fin [0, 1, 2, 3, 9, 10, 81] [] (fr' := [(0, aI a0), (1, aD (.slice (.pair tI (.pair tI (.pair tI tI)))) a1), (2, aD (.int .u8) a2), (3, aD (.slice tI) a3), (9, aD (.slice (.pair tI (.pair tI (.pair tI tI)))) r1.1), (10, aD (.slice tI) r1.2.1), (81, aB true)]) (L' := []) (by kernel_rfl) (by kernel_rfl) ?_
        exact exQ_mk (by kernel_rfl) (by kernel_rfl)
      · replace h := ofF h24 h
        refine WO_run (j := 4) (k := 1) (orcs := [(6, .known false)]) (kF := [0, 1, 2, 3, 9, 10, 51, 52]) (kL := []) (fr' := [(0, aI a0), (1, aD (.slice (.pair tI (.pair tI (.pair tI tI)))) a1), (2, aD (.int .u8) a2), (3, aD (.slice tI) a3), (9, aD (.slice (.pair tI (.pair tI (.pair tI tI)))) r1.1), (10, aD (.slice tI) r1.2.1), (51, aB (r1.2.2 != (0 : Int))), (52, aD (.slice (.pair tI (.pair tI (.pair tI tI)))) r1.1)]) (L' := []) (obs := [((r1.2.2 != (0 : Int)) = false)]) rfl (by kernel_rfl) (allP1 h24) ?_
        obtain ⟨r25, h26, h⟩ := bind_of h
        refine WO_call0 (us := [none, none]) (d := 53) (p := ((r1.2.2 != (0 : Int)) = false)) (j := 5) rfl ⟨by kernel_rfl, by kernel_rfl, by kernel_rfl⟩ h24 (ref_OrdersCheck_ok h26) (by kernel_rfl) ?_
        refine WO_run (j := 16) (k := 11) (orcs := [(10, .known false), (13, .val (.dat .bool false))]) (kF := [0, 1, 2, 3, 9, 10, 64]) (kL := []) (fr' := [(0, aI a0), (1, aD (.slice (.pair tI (.pair tI (.pair tI tI)))) a1), (2, aD (.int .u8) a2), (3, aD (.slice tI) a3), (9, aD (.slice (.pair tI (.pair tI (.pair tI tI)))) r1.1), (10, aD (.slice tI) r1.2.1), (64, aB ((r25 != (0 : Int)) || ((List.length r1.2.1 : Int) != (w64 ((List.length a1 : Int) + (1 : Int))))))]) (L' := []) (obs := [((r1.2.2 != (0 : Int)) = false), ((r1.2.2 != (0 : Int)) = false)]) rfl (by kernel_rfl) (allP2 h24 (allP1 h24)) ?_
        rcases Bool.eq_false_or_eq_true ((r25 != (0 : Int)) || ((List.length r1.2.1 : Int) != (w64 ((List.length a1 : Int) + (1 : Int))))) with h27 | h27
        · replace h := ofT h27 h
          refine WO_run (j := 33) (k := 17) (orcs := [(32, .known true), (34, .known true), (36, .known true), (38, .known true), (40, .known true), (42, .known true), (44, .known true), (46, .known true), (49, .val (.dat .bool true)), (52, .known true), (54, .known true), (56, .known true), (58, .known true), (60, .known true), (62, .known true), (65, .val (.dat .bool true))]) (kF := [0, 1, 2, 3, 9, 10, 81]) (kL := []) (fr' := [(0, aI a0), (1, aD (.slice (.pair tI (.pair tI (.pair tI tI)))) a1), (2, aD (.int .u8) a2), (3, aD (.slice tI) a3), (9, aD (.slice (.pair tI (.pair tI (.pair tI tI)))) r1.1), (10, aD (.slice tI) r1.2.1), (81, aB true)]) (L' := []) (obs := [(((r25 != (0 : Int)) || ((List.length r1.2.1 : Int) != (w64 ((List.length a1 : Int) + (1 : Int))))) = true), (((r25 != (0 : Int)) || ((List.length r1.2.1 : Int) != (w64 ((List.length a1 : Int) + (1 : Int))))) = true), (((r25 != (0 : Int)) || ((List.length r1.2.1 : Int) != (w64 ((List.length a1 : Int) + (1 : Int))))) = true), (((r25 != (0 : Int)) || ((List.length r1.2.1 : Int) != (w64 ((List.length a1 : Int) + (1 : Int))))) = true), (((r25 != (0 : Int)) || ((List.length r1.2.1 : Int) != (w64 ((List.length a1 : Int) + (1 : Int))))) = true), (((r25 != (0 : Int)) || ((List.length r1.2.1 : Int) != (w64 ((List.length a1 : Int) + (1 : Int))))) = true), (((r25 != (0 : Int)) || ((List.length r1.2.1 : Int) != (w64 ((List.length a1 : Int) + (1 : Int))))) = true), (((r25 != (0 : Int)) || ((List.length r1.2.1 : Int) != (w64 ((List.length a1 : Int) + (1 : Int))))) = true), (((r25 != (0 : Int)) || ((List.length r1.2.1 : Int) != (w64 ((List.length a1 : Int) + (1 : Int))))) = true), (true = true), (true = true), (true = true), (true = true), (true = true), (true = true), (true = true)]) rfl (by kernel_rfl) (allP2 h27 (allP2 h27 (allP2 h27 (allP2 h27 (allP2 h27 (allP2 h27 (allP2 h27 (allP2 h27 (allP2 h27 (allP2 rfl (allP2 rfl (allP2 rfl (allP2 rfl (allP2 rfl (allP2 rfl (allP1 rfl)))))))))))))))) ?_
          obtain rfl := Option.some.inj h
          refine WO_fin [0, 1, 2, 3, 9, 10, 81] [] (fr' := [(0, aI a0), (1, aD (.slice (.pair tI (.pair tI (.pair tI tI)))) a1), (2, aD (.int .u8) a2), (3, aD (.slice tI) a3), (9, aD (.slice (.pair tI (.pair tI (.pair tI tI)))) r1.1), (10, aD (.slice tI) r1.2.1), (81, aB true)]) (L' := []) (by kernel_rfl) (by kernel_rfl) ?_
          exact exQ_mk (by kernel_rfl) (by kernel_rfl)
        · replace h := ofF h27 h
          obtain ⟨v28, h29, h⟩ := bind_of h
          refine WO_run (j := 26) (k := 10) (orcs := [(32, .known false), (34, .known false), (36, .known false), (38, .known false), (39, .val (.dat tI v28)), (40, .known false), (42, .known false), (44, .known false), (46, .known false), (49, .val (.dat .bool false))]) (kF := [0, 1, 2, 3, 9, 10, 74]) (kL := []) (fr' := [(0, aI a0), (1, aD (.slice (.pair tI (.pair tI (.pair tI tI)))) a1), (2, aD (.int .u8) a2), (3, aD (.slice tI) a3), (9, aD (.slice (.pair tI (.pair tI (.pair tI tI)))) r1.1), (10, aD (.slice tI) r1.2.1), (74, aB (v28 != (List.length r1.1 : Int)))]) (L' := []) (obs := [(((r25 != (0 : Int)) || ((List.length r1.2.1 : Int) != (w64 ((List.length a1 : Int) + (1 : Int))))) = false), (((r25 != (0 : Int)) || ((List.length r1.2.1 : Int) != (w64 ((List.length a1 : Int) + (1 : Int))))) = false), (((r25 != (0 : Int)) || ((List.length r1.2.1 : Int) != (w64 ((List.length a1 : Int) + (1 : Int))))) = false), (((r25 != (0 : Int)) || ((List.length r1.2.1 : Int) != (w64 ((List.length a1 : Int) + (1 : Int))))) = false), Idx r1.2.1 (List.length a1 : Int) v28, (((r25 != (0 : Int)) || ((List.length r1.2.1 : Int) != (w64 ((List.length a1 : Int) + (1 : Int))))) = false), (((r25 != (0 : Int)) || ((List.length r1.2.1 : Int) != (w64 ((List.length a1 : Int) + (1 : Int))))) = false), (((r25 != (0 : Int)) || ((List.length r1.2.1 : Int) != (w64 ((List.length a1 : Int) + (1 : Int))))) = false), (((r25 != (0 : Int)) || ((List.length r1.2.1 : Int) != (w64 ((List.length a1 : Int) + (1 : Int))))) = false), (((r25 != (0 : Int)) || ((List.length r1.2.1 : Int) != (w64 ((List.length a1 : Int) + (1 : Int))))) = false)]) rfl (by kernel_rfl) (allP2 h27 (allP2 h27 (allP2 h27 (allP2 h27 (allP2 (Idx.of h29) (allP2 h27 (allP2 h27 (allP2 h27 (allP2 h27 (allP1 h27)))))))))) ?_
          rcases Bool.eq_false_or_eq_true (v28 != (List.length r1.1 : Int)) with h30 | h30
          · replace h := ofT h30 h
            refine WO_run (j := 33) (k := 7) (orcs := [(52, .known true), (54, .known true), (56, .known true), (58, .known true), (60, .known true), (62, .known true), (65, .val (.dat .bool true))]) (kF := [0, 1, 2, 3, 9, 10, 81]) (kL := []) (fr' := [(0, aI a0), (1, aD (.slice (.pair tI (.pair tI (.pair tI tI)))) a1), (2, aD (.int .u8) a2), (3, aD (.slice tI) a3), (9, aD (.slice (.pair tI (.pair tI (.pair tI tI)))) r1.1), (10, aD (.slice tI) r1.2.1), (81, aB true)]) (L' := []) (obs := [((v28 != (List.length r1.1 : Int)) = true), ((v28 != (List.length r1.1 : Int)) = true), ((v28 != (List.length r1.1 : Int)) = true), ((v28 != (List.length r1.1 : Int)) = true), ((v28 != (List.length r1.1 : Int)) = true), ((v28 != (List.length r1.1 : Int)) = true), ((v28 != (List.length r1.1 : Int)) = true)]) rfl (by kernel_rfl) (allP2 h30 (allP2 h30 (allP2 h30 (allP2 h30 (allP2 h30 (allP2 h30 (allP1 h30))))))) ?_
            obtain rfl := Option.some.inj h
            refine WO_fin [0, 1, 2, 3, 9, 10, 81] [] (fr' := [(0, aI a0), (1, aD (.slice (.pair tI (.pair tI (.pair tI tI)))) a1), (2, aD (.int .u8) a2), (3, aD (.slice tI) a3), (9, aD (.slice (.pair tI (.pair tI (.pair tI tI)))) r1.1), (10, aD (.slice tI) r1.2.1), (81, aB true)]) (L' := []) (by kernel_rfl) (by kernel_rfl) ?_
            exact exQ_mk (by kernel_rfl) (by kernel_rfl)
          · replace h := ofF h30 h
            refine WO_run (j := 30) (k := 4) (orcs := [(52, .known false), (54, .known false), (56, .known false), (58, .known false)]) (kF := [0, 1, 2, 3, 9, 10, 74, 77, 78]) (kL := []) (fr' := [(0, aI a0), (1, aD (.slice (.pair tI (.pair tI (.pair tI tI)))) a1), (2, aD (.int .u8) a2), (3, aD (.slice tI) a3), (9, aD (.slice (.pair tI (.pair tI (.pair tI tI)))) r1.1), (10, aD (.slice tI) r1.2.1), (74, aB (v28 != (List.length r1.1 : Int))), (77, aI (w64 ((List.length r1.1 : Int) + (1 : Int)))), (78, aD (.slice tI) r1.2.1)]) (L' := []) (obs := [((v28 != (List.length r1.1 : Int)) = false), ((v28 != (List.length r1.1 : Int)) = false), ((v28 != (List.length r1.1 : Int)) = false), ((v28 != (List.length r1.1 : Int)) = false)]) rfl (by kernel_rfl) (allP2 h30 (allP2 h30 (allP2 h30 (allP1 h30)))) ?_
            obtain ⟨r31, h32, h⟩ := bind_of h
            refine WO_call0 (us := [none, none]) (d := 79) (p := ((v28 != (List.length r1.1 : Int)) = false)) (j := 31) rfl ⟨by kernel_rfl, by kernel_rfl, by kernel_rfl⟩ h30 (ref_Inside_ok h32) (by kernel_rfl) ?_
            refine WO_run (j := 33) (k := 2) (orcs := [(62, .known false), (65, .val (.dat .bool false))]) (kF := [0, 1, 2, 3, 9, 10, 81]) (kL := []) (fr' := [(0, aI a0), (1, aD (.slice (.pair tI (.pair tI (.pair tI tI)))) a1), (2, aD (.int .u8) a2), (3, aD (.slice tI) a3), (9, aD (.slice (.pair tI (.pair tI (.pair tI tI)))) r1.1), (10, aD (.slice tI) r1.2.1), (81, aB (!r31))]) (L' := []) (obs := [((v28 != (List.length r1.1 : Int)) = false), ((v28 != (List.length r1.1 : Int)) = false)]) rfl (by kernel_rfl) (allP2 h30 (allP1 h30)) ?_
            obtain rfl := Option.some.inj h
            refine WO_fin [0, 1, 2, 3, 9, 10, 81] [] (fr' := [(0, aI a0), (1, aD (.slice (.pair tI (.pair tI (.pair tI tI)))) a1), (2, aD (.int .u8) a2), (3, aD (.slice tI) a3), (9, aD (.slice (.pair tI (.pair tI (.pair tI tI)))) r1.1), (10, aD (.slice tI) r1.2.1), (81, aB (!r31))]) (L' := []) (by kernel_rfl) (by kernel_rfl) ?_
            exact exQ_mk (by kernel_rfl) (by kernel_rfl)
    · intro e fr L hJ
      obtain ⟨rfl, rfl, rfl⟩ := hJ
      refine LT_keep [0, 1, 2, 3, 9, 10, 81] [] (fr' := [(0, aI a0), (1, aD (.slice (.pair tI (.pair tI (.pair tI tI)))) a1), (2, aD (.int .u8) a2), (3, aD (.slice tI) a3), (9, aD (.slice (.pair tI (.pair tI (.pair tI tI)))) r1.1), (10, aD (.slice tI) r1.2.1), (81, aB v33)]) (L' := []) (by kernel_rfl) ?_
      refine seqQ_norm ?_
      refine W_cond (o := .tmp 81) (b := v33) (by kernel_rfl) (by kernel_rfl) (fun h35 => ?_) (fun h35 => ?_)
      · replace h := ofT h35 h
        refine W_seq (by kernel_rfl) ?_
        refine W_run 1 [] [8] [] (fr' := [(8, aB false)]) (L' := []) (obs := []) (by kernel_rfl) (by kernel_rfl) (by kernel_rfl) allP0 ?_
        refine seqQ_norm ?_
        obtain rfl := Option.some.inj h
        refine W_ret [8] [] (fr' := [(8, aB false)]) (L' := []) (by kernel_rfl) (by kernel_rfl) ?_
        refine seqQ_ret ?_
        exact retQ_mk (by kernel_rfl) (by kernel_rfl) (by kernel_rfl)
      · replace h := ofF h35 h
        refine W_skip [0, 1, 2, 3, 9, 10] [] (fr' := [(0, aI a0), (1, aD (.slice (.pair tI (.pair tI (.pair tI tI)))) a1), (2, aD (.int .u8) a2), (3, aD (.slice tI) a3), (9, aD (.slice (.pair tI (.pair tI (.pair tI tI)))) r1.1), (10, aD (.slice tI) r1.2.1)]) (L' := []) (by kernel_rfl) (by kernel_rfl) ?_
        refine seqQ_norm ?_
        refine W_seq (by kernel_rfl) ?_
        refine W_seq (by kernel_rfl) ?_
        refine W_run 1 [] [0, 1, 2, 3, 9, 10, 13] [] (fr' := [(0, aI a0), (1, aD (.slice (.pair tI (.pair tI (.pair tI tI)))) a1), (2, aD (.int .u8) a2), (3, aD (.slice tI) a3), (9, aD (.slice (.pair tI (.pair tI (.pair tI tI)))) r1.1), (10, aD (.slice tI) r1.2.1), (13, aI (0 : Int))]) (L' := []) (obs := []) (by kernel_rfl) (by kernel_rfl) (by kernel_rfl) allP0 ?_
        refine seqQ_norm ?_
        refine W_block (id := 0) (by kernel_rfl) ?_
        obtain ⟨v108, h109, h⟩ := bind_of h
        refine W_len (t := 10) (u := tI) (xs := r1.2.1) (by kernel_rfl) (fun h112 => ?_)
        obtain ⟨h110, h111⟩ := forL_iter h112 h109
        refine W_weaken [0, 1, 2, 3, 9, 10, 13] [] (fr' := ((law_TwoBuilds_s14 a0 a1 a2 a3 r1) ((0 : Int), ())).1) (L' := ((law_TwoBuilds_s14 a0 a1 a2 a3 r1) ((0 : Int), ())).2) (by kernel_rfl) ?_
        refine W_cutK (W_loop (S := (law_TwoBuilds_s14 a0 a1 a2 a3 r1)) (J := (escQ (exQ .ret law_TwoBuilds_s15) (exQ (.exit 0) (law_TwoBuilds_s16 a0 a1 a2 a3 r1)))) (by kernel_rfl) ?_ h110 _ v108 h111) ?_
        · rintro ⟨i77, x78⟩ s h
          refine W_seq (by kernel_rfl) ?_
          refine W_seq (by kernel_rfl) ?_
          refine W_run 4 [] [0, 1, 2, 3, 9, 10, 13, 85] [] (fr' := [(0, aI a0), (1, aD (.slice (.pair tI (.pair tI (.pair tI tI)))) a1), (2, aD (.int .u8) a2), (3, aD (.slice tI) a3), (9, aD (.slice (.pair tI (.pair tI (.pair tI tI)))) r1.1), (10, aD (.slice tI) r1.2.1), (13, aI i77), (85, aB (decide (i77 < (List.length r1.2.1 : Int))))]) (L' := []) (obs := []) (by kernel_rfl) (by kernel_rfl) (by kernel_rfl) allP0 ?_
          refine seqQ_norm ?_
          refine W_cond (o := .tmp 85) (b := decide (i77 < (List.length r1.2.1 : Int))) (by kernel_rfl) (by kernel_rfl) (fun h82 => ?_) (fun h82 => ?_)
          · replace h := stepL_true h82 h
            obtain ⟨v80, _, h81, h, rfl⟩ := h
            refine W_skip [0, 1, 2, 3, 9, 10, 13] [] (fr' := [(0, aI a0), (1, aD (.slice (.pair tI (.pair tI (.pair tI tI)))) a1), (2, aD (.int .u8) a2), (3, aD (.slice tI) a3), (9, aD (.slice (.pair tI (.pair tI (.pair tI tI)))) r1.1), (10, aD (.slice tI) r1.2.1), (13, aI i77)]) (L' := []) (by kernel_rfl) (by kernel_rfl) ?_
            refine seqQ_norm ?_
            refine W_seq (by kernel_rfl) ?_
            refine W_block (id := 1) (by kernel_rfl) ?_
            refine W_seq (by kernel_rfl) ?_
            refine W_run 1 [] [0, 1, 2, 3, 9, 10, 13, 14] [] (fr' := [(0, aI a0), (1, aD (.slice (.pair tI (.pair tI (.pair tI tI)))) a1), (2, aD (.int .u8) a2), (3, aD (.slice tI) a3), (9, aD (.slice (.pair tI (.pair tI (.pair tI tI)))) r1.1), (10, aD (.slice tI) r1.2.1), (13, aI i77), (14, aI (0 : Int))]) (L' := []) (obs := []) (by kernel_rfl) (by kernel_rfl) (by kernel_rfl) allP0 ?_
            refine seqQ_norm ?_
            refine W_block (id := 2) (by kernel_rfl) ?_
            obtain ⟨v101, h102, h⟩ := bind_of h
            obtain ⟨h103, h104⟩ := forI_iter h102
            refine W_weaken [0, 1, 2, 3, 9, 10, 13, 14] [] (fr' := ((law_TwoBuilds_s10 a0 a1 a2 a3 r1 i77) ((0 : Int), ())).1) (L' := ((law_TwoBuilds_s10 a0 a1 a2 a3 r1 i77) ((0 : Int), ())).2) (by kernel_rfl) ?_
            refine W_cutK (W_loop (S := (law_TwoBuilds_s10 a0 a1 a2 a3 r1 i77)) (J := (escQ (exQ .ret law_TwoBuilds_s11) (exQ (.exit 2) (law_TwoBuilds_s12 a0 a1 a2 a3 r1 i77)))) (by kernel_rfl) ?_ h103 _ v101 h104) ?_
            · rintro ⟨i93, x94⟩ s h
              refine W_seq (by kernel_rfl) ?_
              refine W_seq (by kernel_rfl) ?_
              refine W_run 3 [] [0, 1, 2, 3, 9, 10, 13, 14, 90] [] (fr' := [(0, aI a0), (1, aD (.slice (.pair tI (.pair tI (.pair tI tI)))) a1), (2, aD (.int .u8) a2), (3, aD (.slice tI) a3), (9, aD (.slice (.pair tI (.pair tI (.pair tI tI)))) r1.1), (10, aD (.slice tI) r1.2.1), (13, aI i77), (14, aI i93), (90, aB (decide (i93 < i77)))]) (L' := []) (obs := []) (by kernel_rfl) (by kernel_rfl) (by kernel_rfl) allP0 ?_
              refine seqQ_norm ?_
              refine W_cond (o := .tmp 90) (b := decide (i93 < i77)) (by kernel_rfl) (by kernel_rfl) (fun h96 => ?_) (fun h96 => ?_)
              · replace h := stepI_true h96 h
                obtain ⟨_, h, rfl⟩ := h
                refine W_skip [0, 1, 2, 3, 9, 10, 13, 14] [] (fr' := [(0, aI a0), (1, aD (.slice (.pair tI (.pair tI (.pair tI tI)))) a1), (2, aD (.int .u8) a2), (3, aD (.slice tI) a3), (9, aD (.slice (.pair tI (.pair tI (.pair tI tI)))) r1.1), (10, aD (.slice tI) r1.2.1), (13, aI i77), (14, aI i93)]) (L' := []) (by kernel_rfl) (by kernel_rfl) ?_
                refine seqQ_norm ?_
                refine W_seq (by kernel_rfl) ?_
                refine W_block (id := 3) (by kernel_rfl) ?_
                refine W_seq (by kernel_rfl) ?_
                obtain ⟨v97, h98, h⟩ := bind_of h
                refine W_draw2 9 [(5, .val (.dat tI v80)), (13, .val (.dat tI v97))] [] [0, 1, 2, 3, 9, 10, 13, 14, 101] [] (fr' := [(0, aI a0), (1, aD (.slice (.pair tI (.pair tI (.pair tI tI)))) a1), (2, aD (.int .u8) a2), (3, aD (.slice tI) a3), (9, aD (.slice (.pair tI (.pair tI (.pair tI tI)))) r1.1), (10, aD (.slice tI) r1.2.1), (13, aI i77), (14, aI i93), (101, aB (v80 == v97))]) (L' := []) (out := [(93, aD (.slice tI) r1.2.1), (94, aI i77), (95, .one (.dptr tI v80)), (96, aI v80), (97, aD (.slice tI) r1.2.1), (98, aI i93), (99, .one (.dptr tI v97)), (100, aI v97), (101, aB (v80 == v97))]) (obs := [Idx r1.2.1 i77 v80, Idx r1.2.1 i93 v97]) (obs2 := []) (calls := []) (by kernel_rfl) (by kernel_rfl) (by kernel_rfl) (by kernel_rfl) (allP2 (Idx.of h81) (allP1 (Idx.of h98))) allC0 (by kernel_rfl) allP0 ?_
                refine seqQ_norm ?_
                refine W_cond (o := .tmp 101) (b := v80 == v97) (by kernel_rfl) (by kernel_rfl) (fun h99 => ?_) (fun h99 => ?_)
                · replace h := ofT h99 h
                  refine W_seq (by kernel_rfl) ?_
                  refine W_run 1 [] [8] [] (fr' := [(8, aB false)]) (L' := []) (obs := []) (by kernel_rfl) (by kernel_rfl) (by kernel_rfl) allP0 ?_
                  refine seqQ_norm ?_
                  obtain rfl := Option.some.inj h
                  refine W_ret [8] [] (fr' := [(8, aB false)]) (L' := []) (by kernel_rfl) (by kernel_rfl) ?_
                  refine blockQ_ret ?_
                  refine seqQ_ret ?_
                  refine round_ret ?_
                  refine escQ_ret ?_
                  exact exQ_mk (by kernel_rfl) (by kernel_rfl)
                · replace h := ofF h99 h
                  refine W_skip [0, 1, 2, 3, 9, 10, 13, 14] [] (fr' := [(0, aI a0), (1, aD (.slice (.pair tI (.pair tI (.pair tI tI)))) a1), (2, aD (.int .u8) a2), (3, aD (.slice tI) a3), (9, aD (.slice (.pair tI (.pair tI (.pair tI tI)))) r1.1), (10, aD (.slice tI) r1.2.1), (13, aI i77), (14, aI i93)]) (L' := []) (by kernel_rfl) (by kernel_rfl) ?_
                  refine blockQ_norm ?_
                  refine seqQ_norm ?_
                  obtain rfl := Option.some.inj h
                  refine W_run 3 [] [0, 1, 2, 3, 9, 10, 13, 14] [] (fr' := [(0, aI a0), (1, aD (.slice (.pair tI (.pair tI (.pair tI tI)))) a1), (2, aD (.int .u8) a2), (3, aD (.slice tI) a3), (9, aD (.slice (.pair tI (.pair tI (.pair tI tI)))) r1.1), (10, aD (.slice tI) r1.2.1), (13, aI i77), (14, aI (w64 (i93 + (1 : Int))))]) (L' := []) (obs := []) (by kernel_rfl) (by kernel_rfl) (by kernel_rfl) allP0 ?_
                  exact round_next' (by kernel_rfl) (by kernel_rfl)
              · obtain rfl := stepI_false h96 h
                refine W_exit (id := 2) [0, 1, 2, 3, 9, 10, 13] [] (fr' := [(0, aI a0), (1, aD (.slice (.pair tI (.pair tI (.pair tI tI)))) a1), (2, aD (.int .u8) a2), (3, aD (.slice tI) a3), (9, aD (.slice (.pair tI (.pair tI (.pair tI tI)))) r1.1), (10, aD (.slice tI) r1.2.1), (13, aI i77)]) (L' := []) (by kernel_rfl) (by kernel_rfl) ?_
                refine seqQ_exit ?_
                refine round_exit ?_
                refine escQ_brk ?_
                exact exQ_mk (by kernel_rfl) (by kernel_rfl)
            · intro e fr L hJ
              rcases v101 with v105 | v106
              · obtain ⟨rfl, rfl, rfl⟩ := hJ
                obtain rfl := Option.some.inj h
                refine LT_keep [8] [] (fr' := [(8, aB v105)]) (L' := []) (by kernel_rfl) ?_
                refine blockQ_ret ?_
                refine blockQ_ret ?_
                refine seqQ_ret ?_
                refine round_ret ?_
                refine escQ_ret ?_
                exact exQ_mk (by kernel_rfl) (by kernel_rfl)
              · obtain ⟨rfl, rfl, rfl⟩ := hJ
                refine LT_keep [0, 1, 2, 3, 9, 10, 13] [] (fr' := [(0, aI a0), (1, aD (.slice (.pair tI (.pair tI (.pair tI tI)))) a1), (2, aD (.int .u8) a2), (3, aD (.slice tI) a3), (9, aD (.slice (.pair tI (.pair tI (.pair tI tI)))) r1.1), (10, aD (.slice tI) r1.2.1), (13, aI i77)]) (L' := []) (by kernel_rfl) ?_
                refine blockQ_hit ?_
                refine blockQ_norm ?_
                refine seqQ_norm ?_
                obtain rfl := Option.some.inj h
                refine W_run 3 [] [0, 1, 2, 3, 9, 10, 13] [] (fr' := [(0, aI a0), (1, aD (.slice (.pair tI (.pair tI (.pair tI tI)))) a1), (2, aD (.int .u8) a2), (3, aD (.slice tI) a3), (9, aD (.slice (.pair tI (.pair tI (.pair tI tI)))) r1.1), (10, aD (.slice tI) r1.2.1), (13, aI (w64 (i77 + (1 : Int))))]) (L' := []) (obs := []) (by kernel_rfl) (by kernel_rfl) (by kernel_rfl) allP0 ?_
                exact round_next' (by kernel_rfl) (by kernel_rfl)
          · obtain rfl := stepL_false h82 h
            refine W_exit (id := 0) [0, 1, 2, 3, 9, 10] [] (fr' := [(0, aI a0), (1, aD (.slice (.pair tI (.pair tI (.pair tI tI)))) a1), (2, aD (.int .u8) a2), (3, aD (.slice tI) a3), (9, aD (.slice (.pair tI (.pair tI (.pair tI tI)))) r1.1), (10, aD (.slice tI) r1.2.1)]) (L' := []) (by kernel_rfl) (by kernel_rfl) ?_
            refine seqQ_exit ?_
            refine round_exit ?_
            refine escQ_brk ?_
            exact exQ_mk (by kernel_rfl) (by kernel_rfl)
        · intro e fr L hJ
          rcases v108 with v113 | v114
          · obtain ⟨rfl, rfl, rfl⟩ := hJ
            obtain rfl := Option.some.inj h
            refine LT_keep [8] [] (fr' := [(8, aB v113)]) (L' := []) (by kernel_rfl) ?_
            refine blockQ_ret ?_
            refine seqQ_ret ?_
            exact retQ_mk (by kernel_rfl) (by kernel_rfl) (by kernel_rfl)
          · obtain ⟨rfl, rfl, rfl⟩ := hJ
            refine LT_keep [0, 1, 2, 3, 9, 10] [] (fr' := [(0, aI a0), (1, aD (.slice (.pair tI (.pair tI (.pair tI tI)))) a1), (2, aD (.int .u8) a2), (3, aD (.slice tI) a3), (9, aD (.slice (.pair tI (.pair tI (.pair tI tI)))) r1.1), (10, aD (.slice tI) r1.2.1)]) (L' := []) (by kernel_rfl) ?_
            refine blockQ_hit ?_
            refine seqQ_norm ?_
            refine W_seq (by kernel_rfl) ?_
            refine W_seq (by kernel_rfl) ?_
            refine W_run 4 [] [1, 2, 3, 9, 10, 105] [] (fr' := [(1, aD (.slice (.pair tI (.pair tI (.pair tI tI)))) a1), (2, aD (.int .u8) a2), (3, aD (.slice tI) a3), (9, aD (.slice (.pair tI (.pair tI (.pair tI tI)))) r1.1), (10, aD (.slice tI) r1.2.1), (105, aB ((List.length a3 : Int) != a0))]) (L' := []) (obs := []) (by kernel_rfl) (by kernel_rfl) (by kernel_rfl) allP0 ?_
            refine seqQ_norm ?_
            refine W_cond (o := .tmp 105) (b := (List.length a3 : Int) != a0) (by kernel_rfl) (by kernel_rfl) (fun h115 => ?_) (fun h115 => ?_)
            · replace h := ofT h115 h
              refine W_seq (by kernel_rfl) ?_
              refine W_run 1 [] [8] [] (fr' := [(8, aB true)]) (L' := []) (obs := []) (by kernel_rfl) (by kernel_rfl) (by kernel_rfl) allP0 ?_
              refine seqQ_norm ?_
              obtain rfl := Option.some.inj h
              refine W_ret [8] [] (fr' := [(8, aB true)]) (L' := []) (by kernel_rfl) (by kernel_rfl) ?_
              refine seqQ_ret ?_
              exact retQ_mk (by kernel_rfl) (by kernel_rfl) (by kernel_rfl)
            · replace h := ofF h115 h
              refine W_skip [1, 2, 3, 9, 10] [] (fr' := [(1, aD (.slice (.pair tI (.pair tI (.pair tI tI)))) a1), (2, aD (.int .u8) a2), (3, aD (.slice tI) a3), (9, aD (.slice (.pair tI (.pair tI (.pair tI tI)))) r1.1), (10, aD (.slice tI) r1.2.1)]) (L' := []) (by kernel_rfl) (by kernel_rfl) ?_
              refine seqQ_norm ?_
              refine W_seq (by kernel_rfl) ?_
              refine W_seq (by kernel_rfl) ?_
              refine W_run 3 [] [1, 2, 3, 9, 10, 106, 107, 108] [] (fr' := [(1, aD (.slice (.pair tI (.pair tI (.pair tI tI)))) a1), (2, aD (.int .u8) a2), (3, aD (.slice tI) a3), (9, aD (.slice (.pair tI (.pair tI (.pair tI tI)))) r1.1), (10, aD (.slice tI) r1.2.1), (106, aD (.slice tI) a3), (107, aI (List.length a3 : Int)), (108, aI (0 : Int))]) (L' := []) (obs := []) (by kernel_rfl) (by kernel_rfl) (by kernel_rfl) allP0 ?_
              refine seqQ_norm ?_
              refine W_block (id := 4) (by kernel_rfl) ?_
              obtain ⟨v140, h141, h⟩ := bind_of h
              refine W_len (t := 106) (u := tI) (xs := a3) (by kernel_rfl) (fun h144 => ?_)
              obtain ⟨h142, h143⟩ := forL_iter h144 h141
              refine W_weaken [1, 2, 3, 9, 10, 106, 107, 108] [] (fr' := ((law_TwoBuilds_s18 a1 a2 a3 r1) ((0 : Int), ())).1) (L' := ((law_TwoBuilds_s18 a1 a2 a3 r1) ((0 : Int), ())).2) (by kernel_rfl) ?_
              refine W_cutK (W_loop (S := (law_TwoBuilds_s18 a1 a2 a3 r1)) (J := (escQ (exQ .ret law_TwoBuilds_s19) (exQ (.exit 4) (law_TwoBuilds_s20 a1 a2 a3 r1)))) (by kernel_rfl) ?_ h142 _ v140 h143) ?_
              · rintro ⟨i130, x131⟩ s h
                refine W_seq (by kernel_rfl) ?_
                refine W_run 1 [] [1, 2, 3, 9, 10, 106, 107, 108, 109] [] (fr' := [(1, aD (.slice (.pair tI (.pair tI (.pair tI tI)))) a1), (2, aD (.int .u8) a2), (3, aD (.slice tI) a3), (9, aD (.slice (.pair tI (.pair tI (.pair tI tI)))) r1.1), (10, aD (.slice tI) r1.2.1), (106, aD (.slice tI) a3), (107, aI (List.length a3 : Int)), (108, aI i130), (109, aB (decide (i130 < (List.length a3 : Int))))]) (L' := []) (obs := []) (by kernel_rfl) (by kernel_rfl) (by kernel_rfl) allP0 ?_
                refine seqQ_norm ?_
                refine W_seq (by kernel_rfl) ?_
                refine W_cond (o := .tmp 109) (b := decide (i130 < (List.length a3 : Int))) (by kernel_rfl) (by kernel_rfl) (fun h135 => ?_) (fun h135 => ?_)
                · replace h := stepL_true h135 h
                  obtain ⟨v133, _, h134, h, rfl⟩ := h
                  refine W_skip [1, 2, 3, 9, 10, 106, 107, 108] [] (fr' := [(1, aD (.slice (.pair tI (.pair tI (.pair tI tI)))) a1), (2, aD (.int .u8) a2), (3, aD (.slice tI) a3), (9, aD (.slice (.pair tI (.pair tI (.pair tI tI)))) r1.1), (10, aD (.slice tI) r1.2.1), (106, aD (.slice tI) a3), (107, aI (List.length a3 : Int)), (108, aI i130)]) (L' := []) (by kernel_rfl) (by kernel_rfl) ?_
                  refine seqQ_norm ?_
                  refine W_seq (by kernel_rfl) ?_
                  refine W_block (id := 5) (by kernel_rfl) ?_
                  refine W_seq (by kernel_rfl) ?_
                  refine W_run 3 [(1, .val (.dat tI v133))] [1, 2, 3, 9, 10, 16, 106, 107, 108] [] (fr' := [(1, aD (.slice (.pair tI (.pair tI (.pair tI tI)))) a1), (2, aD (.int .u8) a2), (3, aD (.slice tI) a3), (9, aD (.slice (.pair tI (.pair tI (.pair tI tI)))) r1.1), (10, aD (.slice tI) r1.2.1), (16, aI v133), (106, aD (.slice tI) a3), (107, aI (List.length a3 : Int)), (108, aI i130)]) (L' := []) (obs := [Idx a3 i130 v133]) (by kernel_rfl) (by kernel_rfl) (by kernel_rfl) (allP1 (Idx.of h134)) ?_
                  refine seqQ_norm ?_
                  refine W_seq (by kernel_rfl) ?_
                  refine W_region (by kernel_rfl) ?_
                  refine WO_run (j := 1) (k := 1) (orcs := []) (kF := [1, 2, 3, 9, 10, 106, 107, 108, 112]) (kL := []) (fr' := [(1, aD (.slice (.pair tI (.pair tI (.pair tI tI)))) a1), (2, aD (.int .u8) a2), (3, aD (.slice tI) a3), (9, aD (.slice (.pair tI (.pair tI (.pair tI tI)))) r1.1), (10, aD (.slice tI) r1.2.1), (106, aD (.slice tI) a3), (107, aI (List.length a3 : Int)), (108, aI i130), (112, aI v133)]) (L' := []) (obs := []) rfl (by kernel_rfl) allP0 ?_
                  obtain ⟨r136, h137, h⟩ := bind_of h
                  refine WO_call0 (us := [none, none, none]) (d := 113) (p := True) (j := 2) rfl ⟨by kernel_rfl, by kernel_rfl, by kernel_rfl⟩ trivial (ref_Within_ok h137) (by kernel_rfl) ?_
                  refine WO_run (j := 3) (k := 1) (orcs := []) (kF := [1, 2, 3, 9, 10, 106, 107, 108, 114]) (kL := []) (fr' := [(1, aD (.slice (.pair tI (.pair tI (.pair tI tI)))) a1), (2, aD (.int .u8) a2), (3, aD (.slice tI) a3), (9, aD (.slice (.pair tI (.pair tI (.pair tI tI)))) r1.1), (10, aD (.slice tI) r1.2.1), (106, aD (.slice tI) a3), (107, aI (List.length a3 : Int)), (108, aI i130), (114, aB (!r136))]) (L' := []) (obs := []) rfl (by kernel_rfl) allP0 ?_
                  refine WO_fin [1, 2, 3, 9, 10, 106, 107, 108, 114] [] (fr' := [(1, aD (.slice (.pair tI (.pair tI (.pair tI tI)))) a1), (2, aD (.int .u8) a2), (3, aD (.slice tI) a3), (9, aD (.slice (.pair tI (.pair tI (.pair tI tI)))) r1.1), (10, aD (.slice tI) r1.2.1), (106, aD (.slice tI) a3), (107, aI (List.length a3 : Int)), (108, aI i130), (114, aB (!r136))]) (L' := []) (by kernel_rfl) (by kernel_rfl) ?_
                  refine seqQ_norm ?_
                  refine W_cond (o := .tmp 114) (b := !r136) (by kernel_rfl) (by kernel_rfl) (fun h138 => ?_) (fun h138 => ?_)
                  · replace h := ofT h138 h
                    refine W_seq (by kernel_rfl) ?_
                    refine W_run 1 [] [8] [] (fr' := [(8, aB true)]) (L' := []) (obs := []) (by kernel_rfl) (by kernel_rfl) (by kernel_rfl) allP0 ?_
                    refine seqQ_norm ?_
                    obtain rfl := Option.some.inj h
                    refine W_ret [8] [] (fr' := [(8, aB true)]) (L' := []) (by kernel_rfl) (by kernel_rfl) ?_
                    refine blockQ_ret ?_
                    refine seqQ_ret ?_
                    refine round_ret ?_
                    refine escQ_ret ?_
                    exact exQ_mk (by kernel_rfl) (by kernel_rfl)
                  · replace h := ofF h138 h
                    refine W_skip [1, 2, 3, 9, 10, 106, 107, 108] [] (fr' := [(1, aD (.slice (.pair tI (.pair tI (.pair tI tI)))) a1), (2, aD (.int .u8) a2), (3, aD (.slice tI) a3), (9, aD (.slice (.pair tI (.pair tI (.pair tI tI)))) r1.1), (10, aD (.slice tI) r1.2.1), (106, aD (.slice tI) a3), (107, aI (List.length a3 : Int)), (108, aI i130)]) (L' := []) (by kernel_rfl) (by kernel_rfl) ?_
                    refine blockQ_norm ?_
                    refine seqQ_norm ?_
                    obtain rfl := Option.some.inj h
                    refine W_run 2 [] [1, 2, 3, 9, 10, 106, 107, 108] [] (fr' := [(1, aD (.slice (.pair tI (.pair tI (.pair tI tI)))) a1), (2, aD (.int .u8) a2), (3, aD (.slice tI) a3), (9, aD (.slice (.pair tI (.pair tI (.pair tI tI)))) r1.1), (10, aD (.slice tI) r1.2.1), (106, aD (.slice tI) a3), (107, aI (List.length a3 : Int)), (108, aI (w64 (i130 + (1 : Int))))]) (L' := []) (obs := []) (by kernel_rfl) (by kernel_rfl) (by kernel_rfl) allP0 ?_
                    exact round_next' (by kernel_rfl) (by kernel_rfl)
                · obtain rfl := stepL_false h135 h
                  refine W_exit (id := 4) [1, 2, 3, 9, 10] [] (fr' := [(1, aD (.slice (.pair tI (.pair tI (.pair tI tI)))) a1), (2, aD (.int .u8) a2), (3, aD (.slice tI) a3), (9, aD (.slice (.pair tI (.pair tI (.pair tI tI)))) r1.1), (10, aD (.slice tI) r1.2.1)]) (L' := []) (by kernel_rfl) (by kernel_rfl) ?_
                  refine seqQ_exit ?_
                  refine round_exit ?_
                  refine escQ_brk ?_
                  exact exQ_mk (by kernel_rfl) (by kernel_rfl)
              · intro e fr L hJ
                rcases v140 with v145 | v146
                · obtain ⟨rfl, rfl, rfl⟩ := hJ
                  obtain rfl := Option.some.inj h
                  refine LT_keep [8] [] (fr' := [(8, aB v145)]) (L' := []) (by kernel_rfl) ?_
                  refine blockQ_ret ?_
                  refine seqQ_ret ?_
                  exact retQ_mk (by kernel_rfl) (by kernel_rfl) (by kernel_rfl)
                · obtain ⟨rfl, rfl, rfl⟩ := hJ
                  refine LT_keep [1, 2, 3, 9, 10] [] (fr' := [(1, aD (.slice (.pair tI (.pair tI (.pair tI tI)))) a1), (2, aD (.int .u8) a2), (3, aD (.slice tI) a3), (9, aD (.slice (.pair tI (.pair tI (.pair tI tI)))) r1.1), (10, aD (.slice tI) r1.2.1)]) (L' := []) (by kernel_rfl) ?_
                  refine blockQ_hit ?_
                  refine seqQ_norm ?_
                  refine W_seq (by kernel_rfl) ?_
                  obtain ⟨_, h147, h⟩ := bind_of h
                  replace h147 := ck_some h147
                  refine W_run 6 [] [1, 3, 9, 10, 17] [] (fr' := [(1, aD (.slice (.pair tI (.pair tI (.pair tI tI)))) a1), (3, aD (.slice tI) a3), (9, aD (.slice (.pair tI (.pair tI (.pair tI tI)))) r1.1), (10, aD (.slice tI) r1.2.1), (17, aI (Int.tmod (w64 (a2)) (List.length a1 : Int)))]) (L' := []) (obs := [((List.length a1 : Int) ≠ 0)]) (by kernel_rfl) (by kernel_rfl) (by kernel_rfl) (allP1 h147) ?_
                  refine seqQ_norm ?_
                  refine W_seq (by kernel_rfl) ?_
                  obtain ⟨v148, h149, h⟩ := bind_of h
                  refine W_region (by kernel_rfl) ?_
                  refine WO_run (j := 5) (k := 5) (orcs := [(5, .val (.dat (.pair tI (.pair tI (.pair tI tI))) v148))]) (kF := [3, 9, 10, 17, 125, 126]) (kL := []) (fr' := [(3, aD (.slice tI) a3), (9, aD (.slice (.pair tI (.pair tI (.pair tI tI)))) r1.1), (10, aD (.slice tI) r1.2.1), (17, aI (Int.tmod (w64 (a2)) (List.length a1 : Int))), (125, aD (.pair tI (.pair tI (.pair tI tI))) v148), (126, aD (.slice tI) a3)]) (L' := []) (obs := [Idx a1 (Int.tmod (w64 (a2)) (List.length a1 : Int)) v148]) rfl (by kernel_rfl) (allP1 (Idx.of h149)) ?_
                  obtain ⟨r150, h151, h⟩ := bind_of h
                  refine WO_call0 (us := [none, none]) (d := 127) (p := True) (j := 6) rfl ⟨by kernel_rfl, by kernel_rfl, by kernel_rfl⟩ trivial (law_oneOrder_ok h151) (by kernel_rfl) ?_
                  refine WO_run (j := 11) (k := 5) (orcs := []) (kF := [3, 9, 10, 17, 18, 19]) (kL := []) (fr' := [(3, aD (.slice tI) a3), (9, aD (.slice (.pair tI (.pair tI (.pair tI tI)))) r1.1), (10, aD (.slice tI) r1.2.1), (17, aI (Int.tmod (w64 (a2)) (List.length a1 : Int))), (18, aD (.slice tI) r150.1), (19, aI r150.2)]) (L' := []) (obs := []) rfl (by kernel_rfl) allP0 ?_
                  refine WO_fin [3, 9, 10, 17, 18, 19] [] (fr' := [(3, aD (.slice tI) a3), (9, aD (.slice (.pair tI (.pair tI (.pair tI tI)))) r1.1), (10, aD (.slice tI) r1.2.1), (17, aI (Int.tmod (w64 (a2)) (List.length a1 : Int))), (18, aD (.slice tI) r150.1), (19, aI r150.2)]) (L' := []) (by kernel_rfl) (by kernel_rfl) ?_
                  refine seqQ_norm ?_
                  refine W_seq (by kernel_rfl) ?_
                  refine W_region (by kernel_rfl) ?_
                  refine WO_run (j := 1) (k := 1) (orcs := []) (kF := [3, 9, 10, 17, 18, 19, 130]) (kL := []) (fr' := [(3, aD (.slice tI) a3), (9, aD (.slice (.pair tI (.pair tI (.pair tI tI)))) r1.1), (10, aD (.slice tI) r1.2.1), (17, aI (Int.tmod (w64 (a2)) (List.length a1 : Int))), (18, aD (.slice tI) r150.1), (19, aI r150.2), (130, aD (.slice tI) a3)]) (L' := []) (obs := []) rfl (by kernel_rfl) allP0 ?_
                  obtain ⟨r152, h153, h⟩ := bind_of h
                  refine WO_call0 (us := [none]) (d := 131) (p := True) (j := 2) rfl ⟨by kernel_rfl, by kernel_rfl, by kernel_rfl⟩ trivial (ref_Packed_ok h153) (by kernel_rfl) ?_
                  refine WO_run (j := 4) (k := 2) (orcs := []) (kF := [3, 9, 10, 17, 18, 19, 20]) (kL := [132]) (fr' := [(3, aD (.slice tI) a3), (9, aD (.slice (.pair tI (.pair tI (.pair tI tI)))) r1.1), (10, aD (.slice tI) r1.2.1), (17, aI (Int.tmod (w64 (a2)) (List.length a1 : Int))), (18, aD (.slice tI) r150.1), (19, aI r150.2), (20, .one (.slc 132))]) (L' := [(132, .seq tI [r152, (0 : Int)])]) (obs := []) rfl (by kernel_rfl) allP0 ?_
                  refine WO_fin [3, 9, 10, 17, 18, 19, 20] [132] (fr' := [(3, aD (.slice tI) a3), (9, aD (.slice (.pair tI (.pair tI (.pair tI tI)))) r1.1), (10, aD (.slice tI) r1.2.1), (17, aI (Int.tmod (w64 (a2)) (List.length a1 : Int))), (18, aD (.slice tI) r150.1), (19, aI r150.2), (20, .one (.slc 132))]) (L' := [(132, .seq tI [r152, (0 : Int)])]) (by kernel_rfl) (by kernel_rfl) ?_
                  refine seqQ_norm ?_
                  refine W_seq (by kernel_rfl) ?_
                  obtain ⟨v154, h155, h⟩ := bind_of h
                  refine W_run 5 [(5, .val (.dat tI v154))] [3, 9, 10, 18, 19, 20, 21] [132] (fr' := [(3, aD (.slice tI) a3), (9, aD (.slice (.pair tI (.pair tI (.pair tI tI)))) r1.1), (10, aD (.slice tI) r1.2.1), (18, aD (.slice tI) r150.1), (19, aI r150.2), (20, .one (.slc 132)), (21, aI v154)]) (L' := [(132, .seq tI [r152, (0 : Int)])]) (obs := [Idx r1.2.1 (Int.tmod (w64 (a2)) (List.length a1 : Int)) v154]) (by kernel_rfl) (by kernel_rfl) (by kernel_rfl) (allP1 (Idx.of h155)) ?_
                  refine seqQ_norm ?_
                  refine W_seq (by kernel_rfl) ?_
                  refine W_seq (by kernel_rfl) ?_
                  refine W_run 1 [] [3, 9, 10, 18, 19, 20, 21, 22] [132] (fr' := [(3, aD (.slice tI) a3), (9, aD (.slice (.pair tI (.pair tI (.pair tI tI)))) r1.1), (10, aD (.slice tI) r1.2.1), (18, aD (.slice tI) r150.1), (19, aI r150.2), (20, .one (.slc 132)), (21, aI v154), (22, aI (0 : Int))]) (L' := [(132, .seq tI [r152, (0 : Int)])]) (obs := []) (by kernel_rfl) (by kernel_rfl) (by kernel_rfl) allP0 ?_
                  refine seqQ_norm ?_
                  refine W_block (id := 6) (by kernel_rfl) ?_
                  obtain ⟨v551, h552, h⟩ := bind_of h
                  refine W_weaken [3, 9, 10, 18, 19, 20, 21, 22] [132] (fr' := ((law_TwoBuilds_s52 a3 r1 r150) (v154, (0 : Int), [r152, (0 : Int)])).1) (L' := ((law_TwoBuilds_s52 a3 r1 r150) (v154, (0 : Int), [r152, (0 : Int)])).2) (by kernel_rfl) ?_
                  refine W_cutK (W_loop (S := (law_TwoBuilds_s52 a3 r1 r150)) (J := (escQ (exQ .ret law_TwoBuilds_s53) (exQ (.exit 6) law_TwoBuilds_s54))) (by kernel_rfl) ?_ fuel _ v551 h552) ?_
                  · rintro x288 s h
                    refine W_seq (by kernel_rfl) ?_
                    refine W_seq (by kernel_rfl) ?_
                    refine W_region (by kernel_rfl) ?_
                    refine WO_run (j := 2) (k := 2) (orcs := []) (kF := [3, 9, 10, 18, 19, 20, 21, 22, 137, 138]) (kL := [132]) (fr' := [(3, aD (.slice tI) a3), (9, aD (.slice (.pair tI (.pair tI (.pair tI tI)))) r1.1), (10, aD (.slice tI) r1.2.1), (18, aD (.slice tI) r150.1), (19, aI r150.2), (20, .one (.slc 132)), (21, aI x288.1), (22, aI x288.2.1), (137, aI x288.2.1), (138, aD (.slice tI) a3)]) (L' := [(132, .seq tI x288.2.2)]) (obs := []) rfl (by kernel_rfl) allP0 ?_
                    obtain ⟨r420, h421, h⟩ := bind_of h
                    refine WO_call0 (us := [none]) (d := 139) (p := True) (j := 3) rfl ⟨by kernel_rfl, by kernel_rfl, by kernel_rfl⟩ trivial (ref_Packed_ok h421) (by kernel_rfl) ?_
                    refine WO_run (j := 6) (k := 3) (orcs := []) (kF := [3, 9, 10, 18, 19, 20, 21, 22, 142]) (kL := [132]) (fr' := [(3, aD (.slice tI) a3), (9, aD (.slice (.pair tI (.pair tI (.pair tI tI)))) r1.1), (10, aD (.slice tI) r1.2.1), (18, aD (.slice tI) r150.1), (19, aI r150.2), (20, .one (.slc 132)), (21, aI x288.1), (22, aI x288.2.1), (142, aB (decide (x288.2.1 < (w64 ((w64 ((100 : Int) * r420)) + (100 : Int))))))]) (L' := [(132, .seq tI x288.2.2)]) (obs := []) rfl (by kernel_rfl) allP0 ?_
                    refine WO_fin [3, 9, 10, 18, 19, 20, 21, 22, 142] [132] (fr' := [(3, aD (.slice tI) a3), (9, aD (.slice (.pair tI (.pair tI (.pair tI tI)))) r1.1), (10, aD (.slice tI) r1.2.1), (18, aD (.slice tI) r150.1), (19, aI r150.2), (20, .one (.slc 132)), (21, aI x288.1), (22, aI x288.2.1), (142, aB (decide (x288.2.1 < (w64 ((w64 ((100 : Int) * r420)) + (100 : Int))))))]) (L' := [(132, .seq tI x288.2.2)]) (by kernel_rfl) (by kernel_rfl) ?_
                    refine seqQ_norm ?_
                    refine W_cond (o := .tmp 142) (b := decide (x288.2.1 < (w64 ((w64 ((100 : Int) * r420)) + (100 : Int))))) (by kernel_rfl) (by kernel_rfl) (fun h422 => ?_) (fun h422 => ?_)
                    · replace h := ofT h422 h
                      refine W_skip [3, 9, 10, 18, 19, 20, 21, 22] [132] (fr' := [(3, aD (.slice tI) a3), (9, aD (.slice (.pair tI (.pair tI (.pair tI tI)))) r1.1), (10, aD (.slice tI) r1.2.1), (18, aD (.slice tI) r150.1), (19, aI r150.2), (20, .one (.slc 132)), (21, aI x288.1), (22, aI x288.2.1)]) (L' := [(132, .seq tI x288.2.2)]) (by kernel_rfl) (by kernel_rfl) ?_
                      refine seqQ_norm ?_
                      refine W_seq (by kernel_rfl) ?_
                      refine W_block (id := 7) (by kernel_rfl) ?_
                      refine W_seq (by kernel_rfl) ?_
                      refine W_seq (by kernel_rfl) ?_
                      refine W_run 4 [] [3, 9, 10, 18, 19, 20, 21, 22, 148] [132] (fr' := [(3, aD (.slice tI) a3), (9, aD (.slice (.pair tI (.pair tI (.pair tI tI)))) r1.1), (10, aD (.slice tI) r1.2.1), (18, aD (.slice tI) r150.1), (19, aI r150.2), (20, .one (.slc 132)), (21, aI x288.1), (22, aI x288.2.1), (148, aB (decide (x288.1 ≥ (List.length r1.1 : Int))))]) (L' := [(132, .seq tI x288.2.2)]) (obs := []) (by kernel_rfl) (by kernel_rfl) (by kernel_rfl) allP0 ?_
                      refine seqQ_norm ?_
                      refine W_cond (o := .tmp 148) (b := decide (x288.1 ≥ (List.length r1.1 : Int))) (by kernel_rfl) (by kernel_rfl) (fun h487 => ?_) (fun h487 => ?_)
                      · replace h := ofT h487 h
                        refine W_seq (by kernel_rfl) ?_
                        refine W_run 1 [] [8] [] (fr' := [(8, aB false)]) (L' := []) (obs := []) (by kernel_rfl) (by kernel_rfl) (by kernel_rfl) allP0 ?_
                        refine seqQ_norm ?_
                        obtain rfl := Option.some.inj h
                        refine W_ret [8] [] (fr' := [(8, aB false)]) (L' := []) (by kernel_rfl) (by kernel_rfl) ?_
                        refine seqQ_ret ?_
                        refine blockQ_ret ?_
                        refine seqQ_ret ?_
                        refine round_ret ?_
                        refine escQ_ret ?_
                        exact exQ_mk (by kernel_rfl) (by kernel_rfl)
                      · replace h := ofF h487 h
                        refine W_skip [3, 9, 10, 18, 19, 20, 21, 22] [132] (fr' := [(3, aD (.slice tI) a3), (9, aD (.slice (.pair tI (.pair tI (.pair tI tI)))) r1.1), (10, aD (.slice tI) r1.2.1), (18, aD (.slice tI) r150.1), (19, aI r150.2), (20, .one (.slc 132)), (21, aI x288.1), (22, aI x288.2.1)]) (L' := [(132, .seq tI x288.2.2)]) (by kernel_rfl) (by kernel_rfl) ?_
                        refine seqQ_norm ?_
                        refine W_seq (by kernel_rfl) ?_
                        obtain ⟨v488, h489, h⟩ := bind_of h
                        refine W_run 6 [(5, .val (.dat (.pair tI (.pair tI (.pair tI tI))) v488)), (9, .typed)] [3, 9, 10, 18, 19, 20, 22, 23] [132, 23] (fr' := [(3, aD (.slice tI) a3), (9, aD (.slice (.pair tI (.pair tI (.pair tI tI)))) r1.1), (10, aD (.slice tI) r1.2.1), (18, aD (.slice tI) r150.1), (19, aI r150.2), (20, .one (.slc 132)), (22, aI x288.2.1), (23, .one (.ptr 23 0))]) (L' := [(132, .seq tI x288.2.2), (23, .one (.pair tI (.pair tI (.pair tI tI))) v488)]) (obs := [Idx r1.1 x288.1 v488, True]) (by kernel_rfl) (by kernel_rfl) (by kernel_rfl) (allP2 (Idx.of h489) (allP1 trivial)) ?_
                        refine seqQ_norm ?_
                        refine W_seq (by kernel_rfl) ?_
                        obtain ⟨v508, h509, h⟩ := bind_of h
                        refine W_cutK (Q' := (exQ .normal (law_TwoBuilds_s50 a3 r1 r150 x288)) v508) ?_ ?_
                        · replace h := h509
                          refine W_block (id := 8) (by kernel_rfl) ?_
                          refine W_seq (by kernel_rfl) ?_
                          refine W_run 4 [] [3, 9, 10, 18, 19, 20, 22, 23, 155] [132, 23] (fr' := [(3, aD (.slice tI) a3), (9, aD (.slice (.pair tI (.pair tI (.pair tI tI)))) r1.1), (10, aD (.slice tI) r1.2.1), (18, aD (.slice tI) r150.1), (19, aI r150.2), (20, .one (.slc 132)), (22, aI x288.2.1), (23, .one (.ptr 23 0)), (155, aB (v488.1 == (1 : Int)))]) (L' := [(132, .seq tI x288.2.2), (23, .one (.pair tI (.pair tI (.pair tI tI))) v488)]) (obs := []) (by kernel_rfl) (by kernel_rfl) (by kernel_rfl) allP0 ?_
                          refine seqQ_norm ?_
                          refine W_cond (o := .tmp 155) (b := v488.1 == (1 : Int)) (by kernel_rfl) (by kernel_rfl) (fun h502 => ?_) (fun h502 => ?_)
                          · replace h := ofT h502 h
                            refine W_seq (by kernel_rfl) ?_
                            obtain ⟨v503, h504, h⟩ := bind_of h
                            refine W_draw2 9 [(15, .val (.dat tI v503))] [] [3, 9, 10, 18, 19, 20, 22, 23] [132, 23] (fr' := [(3, aD (.slice tI) a3), (9, aD (.slice (.pair tI (.pair tI (.pair tI tI)))) r1.1), (10, aD (.slice tI) r1.2.1), (18, aD (.slice tI) r150.1), (19, aI r150.2), (20, .one (.slc 132)), (22, aI x288.2.1), (23, .one (.ptr 23 0))]) (L' := [(132, .seq tI (List.set x288.2.2 (Int.toNat v488.2.1) (w64 (v503 + (1 : Int))))), (23, .one (.pair tI (.pair tI (.pair tI tI))) v488)]) (out := [(159, .one (.slc 132)), (160, .one (.ptr 23 1)), (161, aI v488.2.1), (162, .one (.slc 132)), (163, .one (.ptr 23 1)), (164, aI v488.2.1), (165, .one (.eptr 132 1 v488.2.1 0)), (166, aI v503), (167, aI (w64 (v503 + (1 : Int))))]) (obs := [InR v488.2.1 (List.length x288.2.2), Idx x288.2.2 v488.2.1 v503]) (obs2 := [InR v488.2.1 (List.length x288.2.2), InR v488.2.1 (List.length x288.2.2)]) (calls := []) (by kernel_rfl) (by kernel_rfl) (by kernel_rfl) (by kernel_rfl) (allP2 (InR.of h504) (allP1 (Idx.of h504))) allC0 (by kernel_rfl) (allP2 (InR.of h504) (allP1 (InR.of h504))) ?_
                            refine seqQ_norm ?_
                            obtain rfl := Option.some.inj h
                            refine W_run 3 [] [3, 9, 10, 18, 19, 20, 21, 22] [132] (fr' := [(3, aD (.slice tI) a3), (9, aD (.slice (.pair tI (.pair tI (.pair tI tI)))) r1.1), (10, aD (.slice tI) r1.2.1), (18, aD (.slice tI) r150.1), (19, aI r150.2), (20, .one (.slc 132)), (21, aI v488.2.2.1), (22, aI x288.2.1)]) (L' := [(132, .seq tI (List.set x288.2.2 (Int.toNat v488.2.1) (w64 (v503 + (1 : Int)))))]) (obs := []) (by kernel_rfl) (by kernel_rfl) (by kernel_rfl) allP0 ?_
                            refine blockQ_norm ?_
                            exact exQ_mk (by kernel_rfl) (by kernel_rfl)
                          · replace h := ofF h502 h
                            refine W_seq (by kernel_rfl) ?_
                            obtain ⟨v505, h506, h⟩ := bind_of h
                            refine W_run 7 [(9, .val (.dat tI v505))] [3, 9, 10, 18, 19, 20, 22, 23, 171] [132, 23] (fr' := [(3, aD (.slice tI) a3), (9, aD (.slice (.pair tI (.pair tI (.pair tI tI)))) r1.1), (10, aD (.slice tI) r1.2.1), (18, aD (.slice tI) r150.1), (19, aI r150.2), (20, .one (.slc 132)), (22, aI x288.2.1), (23, .one (.ptr 23 0)), (171, aB (decide (v505 > (0 : Int))))]) (L' := [(132, .seq tI x288.2.2), (23, .one (.pair tI (.pair tI (.pair tI tI))) v488)]) (obs := [InR v488.2.1 (List.length x288.2.2), Idx x288.2.2 v488.2.1 v505]) (by kernel_rfl) (by kernel_rfl) (by kernel_rfl) (allP2 (InR.of h506) (allP1 (Idx.of h506))) ?_
                            refine seqQ_norm ?_
                            refine W_cond (o := .tmp 171) (b := decide (v505 > (0 : Int))) (by kernel_rfl) (by kernel_rfl) (fun h507 => ?_) (fun h507 => ?_)
                            · replace h := ofT h507 h
                              refine W_seq (by kernel_rfl) ?_
                              refine W_draw2 9 [(15, .val (.dat tI v505))] [] [3, 9, 10, 18, 19, 20, 22, 23] [132, 23] (fr' := [(3, aD (.slice tI) a3), (9, aD (.slice (.pair tI (.pair tI (.pair tI tI)))) r1.1), (10, aD (.slice tI) r1.2.1), (18, aD (.slice tI) r150.1), (19, aI r150.2), (20, .one (.slc 132)), (22, aI x288.2.1), (23, .one (.ptr 23 0))]) (L' := [(132, .seq tI (List.set x288.2.2 (Int.toNat v488.2.1) (w64 (v505 - (1 : Int))))), (23, .one (.pair tI (.pair tI (.pair tI tI))) v488)]) (out := [(178, .one (.slc 132)), (179, .one (.ptr 23 1)), (180, aI v488.2.1), (181, .one (.slc 132)), (182, .one (.ptr 23 1)), (183, aI v488.2.1), (184, .one (.eptr 132 1 v488.2.1 0)), (185, aI v505), (186, aI (w64 (v505 - (1 : Int))))]) (obs := [InR v488.2.1 (List.length x288.2.2), Idx x288.2.2 v488.2.1 v505]) (obs2 := [InR v488.2.1 (List.length x288.2.2), InR v488.2.1 (List.length x288.2.2)]) (calls := []) (by kernel_rfl) (by kernel_rfl) (by kernel_rfl) (by kernel_rfl) (allP2 (InR.of h506) (allP1 (Idx.of h506))) allC0 (by kernel_rfl) (allP2 (InR.of h506) (allP1 (InR.of h506))) ?_
                              refine seqQ_norm ?_
                              obtain rfl := Option.some.inj h
                              refine W_run 3 [] [3, 9, 10, 18, 19, 20, 21, 22] [132] (fr' := [(3, aD (.slice tI) a3), (9, aD (.slice (.pair tI (.pair tI (.pair tI tI)))) r1.1), (10, aD (.slice tI) r1.2.1), (18, aD (.slice tI) r150.1), (19, aI r150.2), (20, .one (.slc 132)), (21, aI v488.2.2.1), (22, aI x288.2.1)]) (L' := [(132, .seq tI (List.set x288.2.2 (Int.toNat v488.2.1) (w64 (v505 - (1 : Int)))))]) (obs := []) (by kernel_rfl) (by kernel_rfl) (by kernel_rfl) allP0 ?_
                              refine blockQ_norm ?_
                              exact exQ_mk (by kernel_rfl) (by kernel_rfl)
                            · replace h := ofF h507 h
                              obtain rfl := Option.some.inj h
                              refine W_run 3 [] [3, 9, 10, 18, 19, 20, 21, 22] [132] (fr' := [(3, aD (.slice tI) a3), (9, aD (.slice (.pair tI (.pair tI (.pair tI tI)))) r1.1), (10, aD (.slice tI) r1.2.1), (18, aD (.slice tI) r150.1), (19, aI r150.2), (20, .one (.slc 132)), (21, aI v488.2.2.2), (22, aI x288.2.1)]) (L' := [(132, .seq tI x288.2.2)]) (obs := []) (by kernel_rfl) (by kernel_rfl) (by kernel_rfl) allP0 ?_
                              refine blockQ_norm ?_
                              exact exQ_mk (by kernel_rfl) (by kernel_rfl)
                        · intro e fr L hJ
                          obtain ⟨rfl, rfl, rfl⟩ := hJ
                          refine LT_keep [3, 9, 10, 18, 19, 20, 21, 22] [132] (fr' := [(3, aD (.slice tI) a3), (9, aD (.slice (.pair tI (.pair tI (.pair tI tI)))) r1.1), (10, aD (.slice tI) r1.2.1), (18, aD (.slice tI) r150.1), (19, aI r150.2), (20, .one (.slc 132)), (21, aI v508.1), (22, aI x288.2.1)]) (L' := [(132, .seq tI v508.2)]) (by kernel_rfl) ?_
                          refine seqQ_norm ?_
                          refine W_seq (by kernel_rfl) ?_
                          obtain ⟨v525, h526, h⟩ := bind_of h
                          refine W_cutK (Q' := (exQ .normal (law_TwoBuilds_s49 a3 r1 r150 x288 v508)) v525) ?_ ?_
                          · replace h := h526
                            obtain ⟨v520, h521, h⟩ := bind_of h
                            refine W_region (by kernel_rfl) ?_
                            refine WO_run (j := 5) (k := 5) (orcs := [(5, .val (.dat tI v520))]) (kF := [3, 9, 10, 18, 19, 20, 21, 22, 194]) (kL := [132]) (fr' := [(3, aD (.slice tI) a3), (9, aD (.slice (.pair tI (.pair tI (.pair tI tI)))) r1.1), (10, aD (.slice tI) r1.2.1), (18, aD (.slice tI) r150.1), (19, aI r150.2), (20, .one (.slc 132)), (21, aI v508.1), (22, aI x288.2.1), (194, aB (v520 == (0 : Int)))]) (L' := [(132, .seq tI v508.2)]) (obs := [InR (1 : Int) (List.length v508.2), Idx v508.2 (1 : Int) v520]) rfl (by kernel_rfl) (allP2 (InR.of h521) (allP1 (Idx.of h521))) ?_
                            rcases Bool.eq_false_or_eq_true (v520 == (0 : Int)) with h522 | h522
                            · replace h := ofT h522 h
                              refine WO_run (j := 7) (k := 2) (orcs := [(10, .known true), (12, .known true)]) (kF := [3, 9, 10, 18, 19, 20, 21, 22, 194, 195, 196]) (kL := [132]) (fr' := [(3, aD (.slice tI) a3), (9, aD (.slice (.pair tI (.pair tI (.pair tI tI)))) r1.1), (10, aD (.slice tI) r1.2.1), (18, aD (.slice tI) r150.1), (19, aI r150.2), (20, .one (.slc 132)), (21, aI v508.1), (22, aI x288.2.1), (194, aB (v520 == (0 : Int))), (195, aD (.slice tI) r1.2.1), (196, aI v508.1)]) (L' := [(132, .seq tI v508.2)]) (obs := [((v520 == (0 : Int)) = true), ((v520 == (0 : Int)) = true)]) rfl (by kernel_rfl) (allP2 h522 (allP1 h522)) ?_
                              obtain ⟨r523, h524, h⟩ := bind_of h
                              refine WO_call0 (us := [none, none]) (d := 197) (p := ((v520 == (0 : Int)) = true)) (j := 8) rfl ⟨by kernel_rfl, by kernel_rfl, by kernel_rfl⟩ h522 (ref_Has_ok h524) (by kernel_rfl) ?_
                              refine WO_run (j := 9) (k := 1) (orcs := [(17, .val (.dat .bool true))]) (kF := [3, 9, 10, 18, 19, 20, 21, 22, 198]) (kL := [132]) (fr' := [(3, aD (.slice tI) a3), (9, aD (.slice (.pair tI (.pair tI (.pair tI tI)))) r1.1), (10, aD (.slice tI) r1.2.1), (18, aD (.slice tI) r150.1), (19, aI r150.2), (20, .one (.slc 132)), (21, aI v508.1), (22, aI x288.2.1), (198, aB r523)]) (L' := [(132, .seq tI v508.2)]) (obs := [((v520 == (0 : Int)) = true)]) rfl (by kernel_rfl) (allP1 h522) ?_
                              obtain rfl := Option.some.inj h
                              refine WO_fin [3, 9, 10, 18, 19, 20, 21, 22, 198] [132] (fr' := [(3, aD (.slice tI) a3), (9, aD (.slice (.pair tI (.pair tI (.pair tI tI)))) r1.1), (10, aD (.slice tI) r1.2.1), (18, aD (.slice tI) r150.1), (19, aI r150.2), (20, .one (.slc 132)), (21, aI v508.1), (22, aI x288.2.1), (198, aB r523)]) (L' := [(132, .seq tI v508.2)]) (by kernel_rfl) (by kernel_rfl) ?_
                              exact exQ_mk (by kernel_rfl) (by kernel_rfl)
                            · replace h := ofF h522 h
                              refine WO_run (j := 9) (k := 4) (orcs := [(10, .known false), (12, .known false), (14, .known false), (17, .val (.dat .bool false))]) (kF := [3, 9, 10, 18, 19, 20, 21, 22, 198]) (kL := [132]) (fr' := [(3, aD (.slice tI) a3), (9, aD (.slice (.pair tI (.pair tI (.pair tI tI)))) r1.1), (10, aD (.slice tI) r1.2.1), (18, aD (.slice tI) r150.1), (19, aI r150.2), (20, .one (.slc 132)), (21, aI v508.1), (22, aI x288.2.1), (198, aB false)]) (L' := [(132, .seq tI v508.2)]) (obs := [((v520 == (0 : Int)) = false), ((v520 == (0 : Int)) = false), ((v520 == (0 : Int)) = false), ((v520 == (0 : Int)) = false)]) rfl (by kernel_rfl) (allP2 h522 (allP2 h522 (allP2 h522 (allP1 h522)))) ?_
                              obtain rfl := Option.some.inj h
                              refine WO_fin [3, 9, 10, 18, 19, 20, 21, 22, 198] [132] (fr' := [(3, aD (.slice tI) a3), (9, aD (.slice (.pair tI (.pair tI (.pair tI tI)))) r1.1), (10, aD (.slice tI) r1.2.1), (18, aD (.slice tI) r150.1), (19, aI r150.2), (20, .one (.slc 132)), (21, aI v508.1), (22, aI x288.2.1), (198, aB false)]) (L' := [(132, .seq tI v508.2)]) (by kernel_rfl) (by kernel_rfl) ?_
                              exact exQ_mk (by kernel_rfl) (by kernel_rfl)
                          · intro e fr L hJ
                            obtain ⟨rfl, rfl, rfl⟩ := hJ
                            refine LT_keep [3, 9, 10, 18, 19, 20, 21, 22, 198] [132] (fr' := [(3, aD (.slice tI) a3), (9, aD (.slice (.pair tI (.pair tI (.pair tI tI)))) r1.1), (10, aD (.slice tI) r1.2.1), (18, aD (.slice tI) r150.1), (19, aI r150.2), (20, .one (.slc 132)), (21, aI v508.1), (22, aI x288.2.1), (198, aB v525)]) (L' := [(132, .seq tI v508.2)]) (by kernel_rfl) ?_
                            refine seqQ_norm ?_
                            refine W_cond (o := .tmp 198) (b := v525) (by kernel_rfl) (by kernel_rfl) (fun h527 => ?_) (fun h527 => ?_)
                            · replace h := ofT h527 h
                              refine W_seq (by kernel_rfl) ?_
                              obtain ⟨v549, h550, h⟩ := bind_of h
                              refine W_cutK (Q' := (exQ .normal law_TwoBuilds_s48) v549) ?_ ?_
                              · replace h := h550
                                obtain ⟨v542, h543, h⟩ := bind_of h
                                rcases Bool.eq_false_or_eq_true (v508.1 == v542) with h544 | h544
                                · replace h := ofT h544 h
                                  obtain ⟨v545, h546, h⟩ := bind_of h
                                  obtain ⟨r547, h548, h⟩ := bind_of h
                                  obtain rfl := Option.some.inj h
                                  refine W_draw2 14 [(7, .val (.dat tI v542)), (14, .known true), (16, .known true), (18, .known true), (19, .val (.dat tI v545)), (20, .known true), (24, .known true), (27, .val (.dat .bool true))] [(11, [none], aI r547)] [8] [] (fr' := [(8, aB (v545 == r547))]) (L' := []) (out := [(199, aI v508.1), (200, aD (.slice tI) r1.2.1), (201, aI r150.2), (202, .one (.dptr tI v542)), (203, aI v542), (204, aB (v508.1 == v542)), (205, aB (v508.1 == v542)), (206, .one (.slc 132)), (207, .one (.eptr 132 1 (0 : Int) 0)), (208, aI v545), (209, aD (.slice tI) r150.1), (210, aI r547), (211, aB (v545 == r547)), (212, aB (v545 == r547))]) (obs := [Idx r1.2.1 r150.2 v542, ((v508.1 == v542) = true), ((v508.1 == v542) = true), InR (0 : Int) (List.length v508.2), ((v508.1 == v542) = true), Idx v508.2 (0 : Int) v545, ((v508.1 == v542) = true), ((v508.1 == v542) = true), ((v508.1 == v542) = true), ((v508.1 == v542) = true)]) (obs2 := []) (calls := [(27, [aD (.slice tI) r150.1], aI r547)]) (by kernel_rfl) (by kernel_rfl) (by kernel_rfl) (by kernel_rfl) (allP2 (Idx.of h543) (allP2 h544 (allP2 h544 (allP2 (InR.of h546) (allP2 h544 (allP2 (Idx.of h546) (allP2 h544 (allP2 h544 (allP2 h544 (allP1 h544)))))))))) (allC1 (by kernel_rfl) (ref_Packed_ok h548) (by kernel_rfl) allC0) (by kernel_rfl) allP0 ?_
                                  exact exQ_mk (by kernel_rfl) (by kernel_rfl)
                                · replace h := ofF h544 h
                                  obtain rfl := Option.some.inj h
                                  refine W_draw2 14 [(7, .val (.dat tI v542)), (14, .known false), (16, .known false), (18, .known false), (20, .known false), (22, .known false), (24, .known false), (27, .val (.dat .bool false))] [] [8] [] (fr' := [(8, aB false)]) (L' := []) (out := [(199, aI v508.1), (200, aD (.slice tI) r1.2.1), (201, aI r150.2), (202, .one (.dptr tI v542)), (203, aI v542), (204, aB (v508.1 == v542)), (205, aB (v508.1 == v542)), (206, .tup []), (207, .tup []), (208, .tup []), (209, .tup []), (210, .tup []), (211, .tup []), (212, aB false)]) (obs := [Idx r1.2.1 r150.2 v542, ((v508.1 == v542) = false), ((v508.1 == v542) = false), ((v508.1 == v542) = false), ((v508.1 == v542) = false), ((v508.1 == v542) = false), ((v508.1 == v542) = false), ((v508.1 == v542) = false)]) (obs2 := []) (calls := []) (by kernel_rfl) (by kernel_rfl) (by kernel_rfl) (by kernel_rfl) (allP2 (Idx.of h543) (allP2 h544 (allP2 h544 (allP2 h544 (allP2 h544 (allP2 h544 (allP2 h544 (allP1 h544)))))))) allC0 (by kernel_rfl) allP0 ?_
                                  exact exQ_mk (by kernel_rfl) (by kernel_rfl)
                              · intro e fr L hJ
                                obtain ⟨rfl, rfl, rfl⟩ := hJ
                                refine LT_keep [8] [] (fr' := [(8, aB v549)]) (L' := []) (by kernel_rfl) ?_
                                refine seqQ_norm ?_
                                obtain rfl := Option.some.inj h
                                refine W_ret [8] [] (fr' := [(8, aB v549)]) (L' := []) (by kernel_rfl) (by kernel_rfl) ?_
                                refine blockQ_ret ?_
                                refine seqQ_ret ?_
                                refine round_ret ?_
                                refine escQ_ret ?_
                                exact exQ_mk (by kernel_rfl) (by kernel_rfl)
                            · replace h := ofF h527 h
                              refine W_skip [3, 9, 10, 18, 19, 20, 21, 22] [132] (fr' := [(3, aD (.slice tI) a3), (9, aD (.slice (.pair tI (.pair tI (.pair tI tI)))) r1.1), (10, aD (.slice tI) r1.2.1), (18, aD (.slice tI) r150.1), (19, aI r150.2), (20, .one (.slc 132)), (21, aI v508.1), (22, aI x288.2.1)]) (L' := [(132, .seq tI v508.2)]) (by kernel_rfl) (by kernel_rfl) ?_
                              refine blockQ_norm ?_
                              refine seqQ_norm ?_
                              obtain rfl := Option.some.inj h
                              refine W_run 3 [] [3, 9, 10, 18, 19, 20, 21, 22] [132] (fr' := [(3, aD (.slice tI) a3), (9, aD (.slice (.pair tI (.pair tI (.pair tI tI)))) r1.1), (10, aD (.slice tI) r1.2.1), (18, aD (.slice tI) r150.1), (19, aI r150.2), (20, .one (.slc 132)), (21, aI v508.1), (22, aI (w64 (x288.2.1 + (1 : Int))))]) (L' := [(132, .seq tI v508.2)]) (obs := []) (by kernel_rfl) (by kernel_rfl) (by kernel_rfl) allP0 ?_
                              exact round_next' (by kernel_rfl) (by kernel_rfl)
                    · replace h := ofF h422 h
                      obtain rfl := Option.some.inj h
                      refine W_exit (id := 6) [] [] (fr' := []) (L' := []) (by kernel_rfl) (by kernel_rfl) ?_
                      refine seqQ_exit ?_
                      refine round_exit ?_
                      refine escQ_brk ?_
                      exact exQ_mk (by kernel_rfl) (by kernel_rfl)
                  · intro e fr L hJ
                    rcases v551 with v555 | v556
                    · obtain ⟨rfl, rfl, rfl⟩ := hJ
                      obtain rfl := Option.some.inj h
                      refine LT_keep [8] [] (fr' := [(8, aB v555)]) (L' := []) (by kernel_rfl) ?_
                      refine blockQ_ret ?_
                      refine seqQ_ret ?_
                      exact retQ_mk (by kernel_rfl) (by kernel_rfl) (by kernel_rfl)
                    · obtain ⟨rfl, rfl, rfl⟩ := hJ
                      refine LT_keep [] [] (fr' := []) (L' := []) (by kernel_rfl) ?_
                      refine blockQ_hit ?_
                      refine seqQ_norm ?_
                      refine W_seq (by kernel_rfl) ?_
                      refine W_run 1 [] [8] [] (fr' := [(8, aB false)]) (L' := []) (obs := []) (by kernel_rfl) (by kernel_rfl) (by kernel_rfl) allP0 ?_
                      refine seqQ_norm ?_
                      obtain rfl := Option.some.inj h
                      refine W_ret [8] [] (fr' := [(8, aB false)]) (L' := []) (by kernel_rfl) (by kernel_rfl) ?_
                      exact retQ_mk (by kernel_rfl) (by kernel_rfl) (by kernel_rfl)
end Go.Proofs.Ytbjfglckfknheaa.twoBuilds
