/- What the functions that CrossAlls calls compute, as models, and that they compute it: written by a program of mine. -/
import Derived.Test.YtnblafiefaalgaaProg
import Derived.Test.YtnblafiefaalgaaCrossAllsM1
set_option linter.all false
set_option maxRecDepth 100000
namespace Go.Proofs.Ytnblafiefaalgaa.crossAlls
open Go Go.Sl
@[reducible] noncomputable def ref_Steps_s9 (a0 : (Int × (Int × (List (List (Int × (Int × Int))))))) (a2 : Int) (x64 : (Int × Int × Int × (List (Int × Int)) × (List Int) × (List Int))) (v : Bool) : Fr × LL := ([(2, aI a2), (3, .one (.ptr 3 0)), (4, .one (.ptr 4 0)), (6, .one (.ptr 6 0)), (18, aB v)], [(4, .cells [.slc 2000, .dat tI x64.1, .dat tI x64.2.1, .dat tI x64.2.2.1, .slc 47, .slc 63]), (6, .cells [.nilS, .dat tI (0 : Int), .dat tI (0 : Int), .dat tI (0 : Int), .nilS, .nilS]), (3, .one (.pair tI (.pair tI (.slice (.slice (.pair tI (.pair tI tI)))))) a0), (2000, .seq (.pair tI tI) x64.2.2.2.1), (47, .seq tI x64.2.2.2.2.1), (63, .seq tI x64.2.2.2.2.2)])
noncomputable def ref_Steps_b10 (a0 : (Int × (Int × (List (List (Int × (Int × Int))))))) (a2 : Int) (x64 : (Int × Int × Int × (List (Int × Int)) × (List Int) × (List Int))) : Option (Flow (Int × Int × Int × (List (Int × Int)) × (List Int) × (List Int)) (Int × Int × Int × (List (Int × Int)) × (List Int) × (List Int))) :=
(bif decide (x64.2.2.1 < a2) then
(some (decide (x64.2.1 < a0.1)))
else
(some false)).bind fun v83 =>
bif v83 then
((idx a0.2.2 x64.2.1).bind fun v86 =>
(ref_Sign x64.1 x64.2.2.2.1).bind fun r88 =>
(idx v86 r88).bind fun v90 =>
(ck ((List.length x64.2.2.2.1 : Int) + 1 ≤ 4294967296)).bind fun _ =>
(ck ((List.length x64.2.2.2.2.1 : Int) + 1 ≤ 4294967296)).bind fun _ =>
(ck ((List.length x64.2.2.2.2.2 : Int) + 1 ≤ 4294967296)).bind fun _ =>
some (.next (w64 (x64.1 + v90.2.1), v90.2.2, w64 (x64.2.2.1 + (1 : Int)), x64.2.2.2.1 ++ [(x64.1, v90.1)], x64.2.2.2.2.1 ++ [x64.1], x64.2.2.2.2.2 ++ [v90.2.2])))
else
(some (.done (x64.1, x64.2.1, x64.2.2.1, x64.2.2.2.1, x64.2.2.2.2.1, x64.2.2.2.2.2)))
@[reducible] noncomputable def ref_Steps_s11 (a0 : (Int × (Int × (List (List (Int × (Int × Int))))))) (a2 : Int) (v : (Int × Int × Int × (List (Int × Int)) × (List Int) × (List Int))) : Fr × LL := ([(2, aI a2), (3, .one (.ptr 3 0)), (4, .one (.ptr 4 0)), (6, .one (.ptr 6 0))], [(4, .cells [.slc 2000, .dat tI v.1, .dat tI v.2.1, .dat tI v.2.2.1, .slc 47, .slc 63]), (6, .cells [.nilS, .dat tI (0 : Int), .dat tI (0 : Int), .dat tI (0 : Int), .nilS, .nilS]), (3, .one (.pair tI (.pair tI (.slice (.slice (.pair tI (.pair tI tI)))))) a0), (2000, .seq (.pair tI tI) v.2.2.2.1), (47, .seq tI v.2.2.2.2.1), (63, .seq tI v.2.2.2.2.2)])
@[reducible] noncomputable def ref_Steps_s12 (v : (Int × Int × Int × (List (Int × Int)) × (List Int) × (List Int))) : Fr × LL := ([(4, .one (.ptr 4 0)), (6, .one (.ptr 6 0))], [(4, .cells [.slc 2000, .dat tI v.1, .dat tI v.2.1, .dat tI v.2.2.1, .slc 47, .slc 63]), (6, .cells [.nilS, .dat tI (0 : Int), .dat tI (0 : Int), .dat tI (0 : Int), .nilS, .nilS]), (2000, .seq (.pair tI tI) v.2.2.2.1), (47, .seq tI v.2.2.2.2.1), (63, .seq tI v.2.2.2.2.2)])
noncomputable def ref_Steps (fuel : Nat) (a0 : (Int × (Int × (List (List (Int × (Int × Int))))))) (a1_1 : Int) (a1_2 : Int) (a1_3 : Int) (a2 : Int) (c0 : (List (Int × Int))) : Option (Int × Int × Int × (List (Int × Int)) × (List Int) × (List Int)) :=
(iter (ref_Steps_b10 a0 a2) fuel (a1_1, a1_2, a1_3, c0, [], [])).bind fun v95 =>
some (v95.1, v95.2.1, v95.2.2.1, v95.2.2.2.1, v95.2.2.2.2.1, v95.2.2.2.2.2)
theorem ref_Steps_ok {fuel : Nat} {a0 : (Int × (Int × (List (List (Int × (Int × Int))))))} {a1_1 : Int} {a1_2 : Int} {a1_3 : Int} {a2 : Int} {c0 : (List (Int × Int))} {r : (Int × Int × Int × (List (Int × Int)) × (List Int) × (List Int))} (h : ref_Steps fuel a0 a1_1 a1_2 a1_3 a2 c0 = some r) : FnC Try.prog 40 [aD (.pair tI (.pair tI (.slice (.slice (.pair tI (.pair tI tI)))))) a0, .agg [.slc 2000, .dat tI a1_1, .dat tI a1_2, .dat tI a1_3, .nilS, .nilS], aI a2] [(2000, .seq (.pair tI tI) c0)] (.agg [.slc 2000, .dat tI r.1, .dat tI r.2.1, .dat tI r.2.2.1, .slc 47, .slc 63]) [(2000, .seq (.pair tI tI) r.2.2.2.1), (47, .seq tI r.2.2.2.2.1), (63, .seq tI r.2.2.2.2.2)] := by
  refine fnC_of_W (B := bodyOf Try.f40) (n := 70) Try.func40 (by kernel_rfl) (by kernel_rfl) (by kernel_rfl) (by kernel_rfl) (by kernel_rfl) ?_
  intro K
  refine W_seq (by kernel_rfl) ?_
  refine W_run 3 [] [2, 3, 4, 6] [3, 4, 6, 2000] (fr' := [(2, aI a2), (3, .one (.ptr 3 0)), (4, .one (.ptr 4 0)), (6, .one (.ptr 6 0))]) (L' := [(3, .one (.pair tI (.pair tI (.slice (.slice (.pair tI (.pair tI tI)))))) a0), (4, .cells [.slc 2000, .dat tI a1_1, .dat tI a1_2, .dat tI a1_3, .nilS, .nilS]), (6, .cells [.nilS, .dat tI (0 : Int), .dat tI (0 : Int), .dat tI (0 : Int), .nilS, .nilS]), (2000, .seq (.pair tI tI) c0)]) (obs := []) (by kernel_rfl) (by kernel_rfl) (by kernel_rfl) allP0 ?_
  refine seqQ_norm ?_
  refine W_seq (by kernel_rfl) ?_
  refine W_block (id := 0) (by kernel_rfl) ?_
  obtain ⟨v95, h96, h⟩ := bind_of h
  refine W_cellown 4 4 47 tI (by kernel_rfl) ?_
  refine W_cellown 4 5 63 tI (by kernel_rfl) ?_
  refine W_weaken [2, 3, 4, 6] [4, 6, 3, 2000, 47, 63] (fr' := ((ref_Steps_s11 a0 a2) (a1_1, a1_2, a1_3, c0, [], [])).1) (L' := ((ref_Steps_s11 a0 a2) (a1_1, a1_2, a1_3, c0, [], [])).2) (by kernel_rfl) ?_
  refine W_cutK (W_loop (S := (ref_Steps_s11 a0 a2)) (J := (exQ (.exit 0) ref_Steps_s12)) (by kernel_rfl) ?_ fuel _ v95 h96) ?_
  · rintro x64 s h
    refine W_seq (by kernel_rfl) ?_
    refine W_seq (by kernel_rfl) ?_
    obtain ⟨v83, h84, h⟩ := bind_of h
    refine W_cutK (Q' := (exQ .normal (ref_Steps_s9 a0 a2 x64)) v83) ?_ ?_
    · replace h := h84
      refine W_region (by kernel_rfl) ?_
      refine WO_run (j := 5) (k := 5) (orcs := []) (kF := [2, 3, 4, 6, 12]) (kL := [3, 4, 6, 47, 63, 2000]) (fr' := [(2, aI a2), (3, .one (.ptr 3 0)), (4, .one (.ptr 4 0)), (6, .one (.ptr 6 0)), (12, aB (decide (x64.2.2.1 < a2)))]) (L' := [(3, .one (.pair tI (.pair tI (.slice (.slice (.pair tI (.pair tI tI)))))) a0), (4, .cells [.slc 2000, .dat tI x64.1, .dat tI x64.2.1, .dat tI x64.2.2.1, .slc 47, .slc 63]), (6, .cells [.nilS, .dat tI (0 : Int), .dat tI (0 : Int), .dat tI (0 : Int), .nilS, .nilS]), (47, .seq tI x64.2.2.2.2.1), (63, .seq tI x64.2.2.2.2.2), (2000, .seq (.pair tI tI) x64.2.2.2.1)]) (obs := []) rfl (by kernel_rfl) allP0 ?_
      rcases Bool.eq_false_or_eq_true (decide (x64.2.2.1 < a2)) with h82 | h82
      · replace h := ofT h82 h
        refine WO_run (j := 11) (k := 6) (orcs := [(10, .known true), (12, .known true), (14, .known true), (16, .known true), (18, .known true), (21, .val (.dat .bool true))]) (kF := [2, 3, 4, 6, 18]) (kL := [3, 4, 6, 47, 63, 2000]) (fr' := [(2, aI a2), (3, .one (.ptr 3 0)), (4, .one (.ptr 4 0)), (6, .one (.ptr 6 0)), (18, aB (decide (x64.2.1 < a0.1)))]) (L' := [(3, .one (.pair tI (.pair tI (.slice (.slice (.pair tI (.pair tI tI)))))) a0), (4, .cells [.slc 2000, .dat tI x64.1, .dat tI x64.2.1, .dat tI x64.2.2.1, .slc 47, .slc 63]), (6, .cells [.nilS, .dat tI (0 : Int), .dat tI (0 : Int), .dat tI (0 : Int), .nilS, .nilS]), (47, .seq tI x64.2.2.2.2.1), (63, .seq tI x64.2.2.2.2.2), (2000, .seq (.pair tI tI) x64.2.2.2.1)]) (obs := [((decide (x64.2.2.1 < a2)) = true), ((decide (x64.2.2.1 < a2)) = true), ((decide (x64.2.2.1 < a2)) = true), ((decide (x64.2.2.1 < a2)) = true), ((decide (x64.2.2.1 < a2)) = true), ((decide (x64.2.2.1 < a2)) = true)]) rfl (by kernel_rfl) (allP2 h82 (allP2 h82 (allP2 h82 (allP2 h82 (allP2 h82 (allP1 h82)))))) ?_
        obtain rfl := Option.some.inj h
        refine WO_fin [2, 3, 4, 6, 18] [4, 6, 3, 2000, 47, 63] (fr' := [(2, aI a2), (3, .one (.ptr 3 0)), (4, .one (.ptr 4 0)), (6, .one (.ptr 6 0)), (18, aB (decide (x64.2.1 < a0.1)))]) (L' := [(4, .cells [.slc 2000, .dat tI x64.1, .dat tI x64.2.1, .dat tI x64.2.2.1, .slc 47, .slc 63]), (6, .cells [.nilS, .dat tI (0 : Int), .dat tI (0 : Int), .dat tI (0 : Int), .nilS, .nilS]), (3, .one (.pair tI (.pair tI (.slice (.slice (.pair tI (.pair tI tI)))))) a0), (2000, .seq (.pair tI tI) x64.2.2.2.1), (47, .seq tI x64.2.2.2.2.1), (63, .seq tI x64.2.2.2.2.2)]) (by kernel_rfl) (by kernel_rfl) ?_
        exact exQ_mk (by kernel_rfl) (by kernel_rfl)
      · replace h := ofF h82 h
        refine WO_run (j := 11) (k := 6) (orcs := [(10, .known false), (12, .known false), (14, .known false), (16, .known false), (18, .known false), (21, .val (.dat .bool false))]) (kF := [2, 3, 4, 6, 18]) (kL := [3, 4, 6, 47, 63, 2000]) (fr' := [(2, aI a2), (3, .one (.ptr 3 0)), (4, .one (.ptr 4 0)), (6, .one (.ptr 6 0)), (18, aB false)]) (L' := [(3, .one (.pair tI (.pair tI (.slice (.slice (.pair tI (.pair tI tI)))))) a0), (4, .cells [.slc 2000, .dat tI x64.1, .dat tI x64.2.1, .dat tI x64.2.2.1, .slc 47, .slc 63]), (6, .cells [.nilS, .dat tI (0 : Int), .dat tI (0 : Int), .dat tI (0 : Int), .nilS, .nilS]), (47, .seq tI x64.2.2.2.2.1), (63, .seq tI x64.2.2.2.2.2), (2000, .seq (.pair tI tI) x64.2.2.2.1)]) (obs := [((decide (x64.2.2.1 < a2)) = false), ((decide (x64.2.2.1 < a2)) = false), ((decide (x64.2.2.1 < a2)) = false), ((decide (x64.2.2.1 < a2)) = false), ((decide (x64.2.2.1 < a2)) = false), ((decide (x64.2.2.1 < a2)) = false)]) rfl (by kernel_rfl) (allP2 h82 (allP2 h82 (allP2 h82 (allP2 h82 (allP2 h82 (allP1 h82)))))) ?_
        obtain rfl := Option.some.inj h
        refine WO_fin [2, 3, 4, 6, 18] [4, 6, 3, 2000, 47, 63] (fr' := [(2, aI a2), (3, .one (.ptr 3 0)), (4, .one (.ptr 4 0)), (6, .one (.ptr 6 0)), (18, aB false)]) (L' := [(4, .cells [.slc 2000, .dat tI x64.1, .dat tI x64.2.1, .dat tI x64.2.2.1, .slc 47, .slc 63]), (6, .cells [.nilS, .dat tI (0 : Int), .dat tI (0 : Int), .dat tI (0 : Int), .nilS, .nilS]), (3, .one (.pair tI (.pair tI (.slice (.slice (.pair tI (.pair tI tI)))))) a0), (2000, .seq (.pair tI tI) x64.2.2.2.1), (47, .seq tI x64.2.2.2.2.1), (63, .seq tI x64.2.2.2.2.2)]) (by kernel_rfl) (by kernel_rfl) ?_
        exact exQ_mk (by kernel_rfl) (by kernel_rfl)
    · intro e fr L hJ
      obtain ⟨rfl, rfl, rfl⟩ := hJ
      refine LT_keep [2, 3, 4, 6, 18] [3, 4, 6, 2000, 47, 63] (fr' := [(2, aI a2), (3, .one (.ptr 3 0)), (4, .one (.ptr 4 0)), (6, .one (.ptr 6 0)), (18, aB v83)]) (L' := [(3, .one (.pair tI (.pair tI (.slice (.slice (.pair tI (.pair tI tI)))))) a0), (4, .cells [.slc 2000, .dat tI x64.1, .dat tI x64.2.1, .dat tI x64.2.2.1, .slc 47, .slc 63]), (6, .cells [.nilS, .dat tI (0 : Int), .dat tI (0 : Int), .dat tI (0 : Int), .nilS, .nilS]), (2000, .seq (.pair tI tI) x64.2.2.2.1), (47, .seq tI x64.2.2.2.2.1), (63, .seq tI x64.2.2.2.2.2)]) (by kernel_rfl) ?_
      refine seqQ_norm ?_
      refine W_cond (o := .tmp 18) (b := v83) (by kernel_rfl) (by kernel_rfl) (fun h85 => ?_) (fun h85 => ?_)
      · replace h := ofT h85 h
        refine W_skip [2, 3, 4, 6] [3, 4, 6, 2000, 47, 63] (fr' := [(2, aI a2), (3, .one (.ptr 3 0)), (4, .one (.ptr 4 0)), (6, .one (.ptr 6 0))]) (L' := [(3, .one (.pair tI (.pair tI (.slice (.slice (.pair tI (.pair tI tI)))))) a0), (4, .cells [.slc 2000, .dat tI x64.1, .dat tI x64.2.1, .dat tI x64.2.2.1, .slc 47, .slc 63]), (6, .cells [.nilS, .dat tI (0 : Int), .dat tI (0 : Int), .dat tI (0 : Int), .nilS, .nilS]), (2000, .seq (.pair tI tI) x64.2.2.2.1), (47, .seq tI x64.2.2.2.2.1), (63, .seq tI x64.2.2.2.2.2)]) (by kernel_rfl) (by kernel_rfl) ?_
        refine seqQ_norm ?_
        refine W_block (id := 1) (by kernel_rfl) ?_
        refine W_seq (by kernel_rfl) ?_
        obtain ⟨v86, h87, h⟩ := bind_of h
        obtain ⟨r88, h89, h⟩ := bind_of h
        obtain ⟨v90, h91, h⟩ := bind_of h
        refine W_drawC5 14 [] [(13, 7, .cells [.dat tI (0 : Int), .dat tI (0 : Int), .dat tI (0 : Int)])] [(13, .one (.ptr 7 0))] [(9, .val (.dat (.slice (.pair tI (.pair tI tI))) v86)), (23, .val (.dat (.pair tI (.pair tI tI)) v90))] [(10, [none, none], aI r88)] [2, 3, 4, 6, 7, 31] [3, 4, 6, 7, 47, 63, 2000] (out := [(19, .one (.ptr 3 2)), (20, aD (.slice (.slice (.pair tI (.pair tI tI)))) a0.2.2), (21, .one (.ptr 4 2)), (22, aI x64.2.1), (23, .one (.dptr (.slice (.pair tI (.pair tI tI))) v86)), (24, aD (.slice (.pair tI (.pair tI tI))) v86), (25, .one (.ptr 4 0)), (26, .one (.slc 2000)), (27, .one (.ptr 4 1)), (28, aI x64.1), (29, aI r88), (30, .one (.dptr (.pair tI (.pair tI tI)) v90)), (31, aD (.pair tI (.pair tI tI)) v90), (7, .one (.ptr 7 0))]) (obs := [Idx a0.2.2 x64.2.1 v86, True, Idx v86 r88 v90]) (calls := [(75, [.one (.slc 2000), aI x64.1], aI r88)]) (fr' := [(2, aI a2), (3, .one (.ptr 3 0)), (4, .one (.ptr 4 0)), (6, .one (.ptr 6 0)), (7, .one (.ptr 7 0)), (31, aD (.pair tI (.pair tI tI)) v90)]) (L' := [(3, .one (.pair tI (.pair tI (.slice (.slice (.pair tI (.pair tI tI)))))) a0), (4, .cells [.slc 2000, .dat tI x64.1, .dat tI x64.2.1, .dat tI x64.2.2.1, .slc 47, .slc 63]), (6, .cells [.nilS, .dat tI (0 : Int), .dat tI (0 : Int), .dat tI (0 : Int), .nilS, .nilS]), (7, .cells [.dat tI (0 : Int), .dat tI (0 : Int), .dat tI (0 : Int)]), (47, .seq tI x64.2.2.2.2.1), (63, .seq tI x64.2.2.2.2.2), (2000, .seq (.pair tI tI) x64.2.2.2.1)]) (by kernel_rfl) (by kernel_rfl) (by kernel_rfl) (by kernel_rfl) (by kernel_rfl) (allP2 (Idx.of h87) (allP2 trivial (allP1 (Idx.of h91)))) (allD2 [(1000, 2000)] _ _ (by kernel_rfl) (ref_Sign_ok h89) (by kernel_rfl) (by kernel_rfl) (by kernel_rfl) (by kernel_rfl) allD0) chNil (mkDo (ty := false) (av := .one (.ptr 7 0)) (p := True) (by kernel_rfl) trivial (by kernel_rfl) mkNil) (by kernel_rfl) ?_
        refine WO_run (j := 15) (k := 1) (orcs := []) (kF := [2, 3, 4, 6, 7]) (kL := [3, 4, 6, 7, 47, 63, 2000]) (fr' := [(2, aI a2), (3, .one (.ptr 3 0)), (4, .one (.ptr 4 0)), (6, .one (.ptr 6 0)), (7, .one (.ptr 7 0))]) (L' := [(3, .one (.pair tI (.pair tI (.slice (.slice (.pair tI (.pair tI tI)))))) a0), (4, .cells [.slc 2000, .dat tI x64.1, .dat tI x64.2.1, .dat tI x64.2.2.1, .slc 47, .slc 63]), (6, .cells [.nilS, .dat tI (0 : Int), .dat tI (0 : Int), .dat tI (0 : Int), .nilS, .nilS]), (7, .cells [.dat tI v90.1, .dat tI v90.2.1, .dat tI v90.2.2]), (47, .seq tI x64.2.2.2.2.1), (63, .seq tI x64.2.2.2.2.2), (2000, .seq (.pair tI tI) x64.2.2.2.1)]) (obs := [True]) rfl (by kernel_rfl) (allP1 trivial) ?_
        refine WO_fin [2, 3, 4, 6, 7] [3, 4, 6, 7, 2000, 47, 63] (fr' := [(2, aI a2), (3, .one (.ptr 3 0)), (4, .one (.ptr 4 0)), (6, .one (.ptr 6 0)), (7, .one (.ptr 7 0))]) (L' := [(3, .one (.pair tI (.pair tI (.slice (.slice (.pair tI (.pair tI tI)))))) a0), (4, .cells [.slc 2000, .dat tI x64.1, .dat tI x64.2.1, .dat tI x64.2.2.1, .slc 47, .slc 63]), (6, .cells [.nilS, .dat tI (0 : Int), .dat tI (0 : Int), .dat tI (0 : Int), .nilS, .nilS]), (7, .cells [.dat tI v90.1, .dat tI v90.2.1, .dat tI v90.2.2]), (2000, .seq (.pair tI tI) x64.2.2.2.1), (47, .seq tI x64.2.2.2.2.1), (63, .seq tI x64.2.2.2.2.2)]) (by kernel_rfl) (by kernel_rfl) ?_
        refine ⟨rfl, ?_⟩
        refine seqQ_norm ?_
        refine W_seq (by kernel_rfl) ?_
        obtain ⟨_, h92, h⟩ := bind_of h
        replace h92 := ck_some h92
        refine W_run 11 [] [2, 3, 4, 6, 7] [3, 4, 6, 7, 2000, 47, 63] (fr' := [(2, aI a2), (3, .one (.ptr 3 0)), (4, .one (.ptr 4 0)), (6, .one (.ptr 6 0)), (7, .one (.ptr 7 0))]) (L' := [(3, .one (.pair tI (.pair tI (.slice (.slice (.pair tI (.pair tI tI)))))) a0), (4, .cells [.slc 2000, .dat tI x64.1, .dat tI x64.2.1, .dat tI x64.2.2.1, .slc 47, .slc 63]), (6, .cells [.nilS, .dat tI (0 : Int), .dat tI (0 : Int), .dat tI (0 : Int), .nilS, .nilS]), (7, .cells [.dat tI v90.1, .dat tI v90.2.1, .dat tI v90.2.2]), (2000, .seq (.pair tI tI) (x64.2.2.2.1 ++ [(x64.1, v90.1)])), (47, .seq tI x64.2.2.2.2.1), (63, .seq tI x64.2.2.2.2.2)]) (obs := [SmallLen (List.length x64.2.2.2.1 + List.length [(x64.1, v90.1)]), True]) (by kernel_rfl) (by kernel_rfl) (by kernel_rfl) (allP2 h92 (allP1 trivial)) ?_
        refine seqQ_norm ?_
        refine W_seq (by kernel_rfl) ?_
        obtain ⟨_, h93, h⟩ := bind_of h
        replace h93 := ck_some h93
        refine W_run 8 [] [2, 3, 4, 6, 7] [3, 4, 6, 7, 2000, 47, 63] (fr' := [(2, aI a2), (3, .one (.ptr 3 0)), (4, .one (.ptr 4 0)), (6, .one (.ptr 6 0)), (7, .one (.ptr 7 0))]) (L' := [(3, .one (.pair tI (.pair tI (.slice (.slice (.pair tI (.pair tI tI)))))) a0), (4, .cells [.slc 2000, .dat tI x64.1, .dat tI x64.2.1, .dat tI x64.2.2.1, .slc 47, .slc 63]), (6, .cells [.nilS, .dat tI (0 : Int), .dat tI (0 : Int), .dat tI (0 : Int), .nilS, .nilS]), (7, .cells [.dat tI v90.1, .dat tI v90.2.1, .dat tI v90.2.2]), (2000, .seq (.pair tI tI) (x64.2.2.2.1 ++ [(x64.1, v90.1)])), (47, .seq tI (x64.2.2.2.2.1 ++ [x64.1])), (63, .seq tI x64.2.2.2.2.2)]) (obs := [SmallLen (List.length x64.2.2.2.2.1 + List.length [x64.1]), True]) (by kernel_rfl) (by kernel_rfl) (by kernel_rfl) (allP2 h93 (allP1 trivial)) ?_
        refine seqQ_norm ?_
        refine W_seq (by kernel_rfl) ?_
        refine W_run 7 [] [2, 3, 4, 6, 7] [3, 4, 6, 7, 2000, 47, 63] (fr' := [(2, aI a2), (3, .one (.ptr 3 0)), (4, .one (.ptr 4 0)), (6, .one (.ptr 6 0)), (7, .one (.ptr 7 0))]) (L' := [(3, .one (.pair tI (.pair tI (.slice (.slice (.pair tI (.pair tI tI)))))) a0), (4, .cells [.slc 2000, .dat tI (w64 (x64.1 + v90.2.1)), .dat tI x64.2.1, .dat tI x64.2.2.1, .slc 47, .slc 63]), (6, .cells [.nilS, .dat tI (0 : Int), .dat tI (0 : Int), .dat tI (0 : Int), .nilS, .nilS]), (7, .cells [.dat tI v90.1, .dat tI v90.2.1, .dat tI v90.2.2]), (2000, .seq (.pair tI tI) (x64.2.2.2.1 ++ [(x64.1, v90.1)])), (47, .seq tI (x64.2.2.2.2.1 ++ [x64.1])), (63, .seq tI x64.2.2.2.2.2)]) (obs := [True]) (by kernel_rfl) (by kernel_rfl) (by kernel_rfl) (allP1 trivial) ?_
        refine seqQ_norm ?_
        refine W_seq (by kernel_rfl) ?_
        refine W_run 4 [] [2, 3, 4, 6] [3, 4, 6, 2000, 47, 63] (fr' := [(2, aI a2), (3, .one (.ptr 3 0)), (4, .one (.ptr 4 0)), (6, .one (.ptr 6 0))]) (L' := [(3, .one (.pair tI (.pair tI (.slice (.slice (.pair tI (.pair tI tI)))))) a0), (4, .cells [.slc 2000, .dat tI (w64 (x64.1 + v90.2.1)), .dat tI v90.2.2, .dat tI x64.2.2.1, .slc 47, .slc 63]), (6, .cells [.nilS, .dat tI (0 : Int), .dat tI (0 : Int), .dat tI (0 : Int), .nilS, .nilS]), (2000, .seq (.pair tI tI) (x64.2.2.2.1 ++ [(x64.1, v90.1)])), (47, .seq tI (x64.2.2.2.2.1 ++ [x64.1])), (63, .seq tI x64.2.2.2.2.2)]) (obs := [True]) (by kernel_rfl) (by kernel_rfl) (by kernel_rfl) (allP1 trivial) ?_
        refine seqQ_norm ?_
        refine W_seq (by kernel_rfl) ?_
        obtain ⟨_, h94, h⟩ := bind_of h
        replace h94 := ck_some h94
        refine W_run 8 [] [2, 3, 4, 6] [3, 4, 6, 2000, 47, 63] (fr' := [(2, aI a2), (3, .one (.ptr 3 0)), (4, .one (.ptr 4 0)), (6, .one (.ptr 6 0))]) (L' := [(3, .one (.pair tI (.pair tI (.slice (.slice (.pair tI (.pair tI tI)))))) a0), (4, .cells [.slc 2000, .dat tI (w64 (x64.1 + v90.2.1)), .dat tI v90.2.2, .dat tI x64.2.2.1, .slc 47, .slc 63]), (6, .cells [.nilS, .dat tI (0 : Int), .dat tI (0 : Int), .dat tI (0 : Int), .nilS, .nilS]), (2000, .seq (.pair tI tI) (x64.2.2.2.1 ++ [(x64.1, v90.1)])), (47, .seq tI (x64.2.2.2.2.1 ++ [x64.1])), (63, .seq tI (x64.2.2.2.2.2 ++ [v90.2.2]))]) (obs := [SmallLen (List.length x64.2.2.2.2.2 + List.length [v90.2.2]), True]) (by kernel_rfl) (by kernel_rfl) (by kernel_rfl) (allP2 h94 (allP1 trivial)) ?_
        refine seqQ_norm ?_
        obtain rfl := Option.some.inj h
        refine W_run 5 [] [2, 3, 4, 6] [4, 6, 3, 2000, 47, 63] (fr' := [(2, aI a2), (3, .one (.ptr 3 0)), (4, .one (.ptr 4 0)), (6, .one (.ptr 6 0))]) (L' := [(4, .cells [.slc 2000, .dat tI (w64 (x64.1 + v90.2.1)), .dat tI v90.2.2, .dat tI (w64 (x64.2.2.1 + (1 : Int))), .slc 47, .slc 63]), (6, .cells [.nilS, .dat tI (0 : Int), .dat tI (0 : Int), .dat tI (0 : Int), .nilS, .nilS]), (3, .one (.pair tI (.pair tI (.slice (.slice (.pair tI (.pair tI tI)))))) a0), (2000, .seq (.pair tI tI) (x64.2.2.2.1 ++ [(x64.1, v90.1)])), (47, .seq tI (x64.2.2.2.2.1 ++ [x64.1])), (63, .seq tI (x64.2.2.2.2.2 ++ [v90.2.2]))]) (obs := [True]) (by kernel_rfl) (by kernel_rfl) (by kernel_rfl) (allP1 trivial) ?_
        refine blockQ_norm ?_
        exact round_next' (by kernel_rfl) (by kernel_rfl)
      · replace h := ofF h85 h
        obtain rfl := Option.some.inj h
        refine W_exit (id := 0) [4, 6] [4, 6, 2000, 47, 63] (fr' := [(4, .one (.ptr 4 0)), (6, .one (.ptr 6 0))]) (L' := [(4, .cells [.slc 2000, .dat tI x64.1, .dat tI x64.2.1, .dat tI x64.2.2.1, .slc 47, .slc 63]), (6, .cells [.nilS, .dat tI (0 : Int), .dat tI (0 : Int), .dat tI (0 : Int), .nilS, .nilS]), (2000, .seq (.pair tI tI) x64.2.2.2.1), (47, .seq tI x64.2.2.2.2.1), (63, .seq tI x64.2.2.2.2.2)]) (by kernel_rfl) (by kernel_rfl) ?_
        refine seqQ_exit ?_
        refine round_exit ?_
        exact exQ_mk (by kernel_rfl) (by kernel_rfl)
  · intro e fr L hJ
    obtain ⟨rfl, rfl, rfl⟩ := hJ
    refine LT_keep [4, 6] [4, 6, 2000, 47, 63] (fr' := [(4, .one (.ptr 4 0)), (6, .one (.ptr 6 0))]) (L' := [(4, .cells [.slc 2000, .dat tI v95.1, .dat tI v95.2.1, .dat tI v95.2.2.1, .slc 47, .slc 63]), (6, .cells [.nilS, .dat tI (0 : Int), .dat tI (0 : Int), .dat tI (0 : Int), .nilS, .nilS]), (2000, .seq (.pair tI tI) v95.2.2.2.1), (47, .seq tI v95.2.2.2.2.1), (63, .seq tI v95.2.2.2.2.2)]) (by kernel_rfl) ?_
    refine blockQ_hit ?_
    refine seqQ_norm ?_
    refine W_seq (by kernel_rfl) ?_
    refine W_run 2 [] [6] [6, 2000, 47, 63] (fr' := [(6, .one (.ptr 6 0))]) (L' := [(6, .cells [.slc 2000, .dat tI v95.1, .dat tI v95.2.1, .dat tI v95.2.2.1, .slc 47, .slc 63]), (2000, .seq (.pair tI tI) v95.2.2.2.1), (47, .seq tI v95.2.2.2.2.1), (63, .seq tI v95.2.2.2.2.2)]) (obs := [True]) (by kernel_rfl) (by kernel_rfl) (by kernel_rfl) (allP1 trivial) ?_
    refine seqQ_norm ?_
    obtain rfl := Option.some.inj h
    refine W_ret [6] [6, 2000, 47, 63] (fr' := [(6, .one (.ptr 6 0))]) (L' := [(6, .cells [.slc 2000, .dat tI v95.1, .dat tI v95.2.1, .dat tI v95.2.2.1, .slc 47, .slc 63]), (2000, .seq (.pair tI tI) v95.2.2.2.1), (47, .seq tI v95.2.2.2.2.1), (63, .seq tI v95.2.2.2.2.2)]) (by kernel_rfl) (by kernel_rfl) ?_
    exact retQ_mk (by kernel_rfl) (by kernel_rfl) (by kernel_rfl)

noncomputable def ref_Over_g18 (a0 : ((List (Int × Int)) × (Int × (Int × (Int × ((List Int) × (List Int))))))) (i108 : Int) : Option Int :=
bif decide ((w64 (i108 + (1 : Int))) < (List.length a0.2.2.2.2.1 : Int)) then
((idx a0.2.2.2.2.1 (w64 (i108 + (1 : Int)))).bind fun v151 =>
some v151)
else
(some a0.2.1)
@[reducible] noncomputable def ref_Over_s19 (a0 : ((List (Int × Int)) × (Int × (Int × (Int × ((List Int) × (List Int))))))) (a1 : Int) (i108 : Int) (x109 : (List Int)) (v111 : Int) (v : Int) : Fr × LL := ([(1, aI a1), (2, .one (.ptr 2 0)), (5, .one (.slc 58)), (6, aI i108), (7, aI v111), (8, aI v), (10, aD (.slice tI) a0.2.2.2.2.1), (11, aI (List.length a0.2.2.2.2.1 : Int)), (12, aI i108)], [(2, .one (.pair (.slice (.pair tI tI)) (.pair tI (.pair tI (.pair tI (.pair (.slice tI) (.slice tI)))))) a0), (58, .seq tI x109)])
noncomputable def ref_Over_g20 (a0 : ((List (Int × Int)) × (Int × (Int × (Int × ((List Int) × (List Int))))))) (a1 : Int) (i108 : Int) (x109 : (List Int)) (v111 : Int) : Option (List Int) :=
(ref_Over_g18 a0 i108).bind fun v153 =>
bif ((v111 == (w64 (a1 - (1 : Int)))) && (v153 == a1)) || ((v111 == a1) && (v153 == (w64 (a1 - (1 : Int))))) then
((idx a0.2.2.2.2.2 i108).bind fun v156 =>
(ck ((List.length x109 : Int) + 1 ≤ 4294967296)).bind fun _ =>
some (x109 ++ [v156]))
else
(some x109)
@[reducible] noncomputable def ref_Over_s21 (a0 : ((List (Int × Int)) × (Int × (Int × (Int × ((List Int) × (List Int))))))) (a1 : Int) (i108 : Int) (v : (List Int)) : Fr × LL := ([(1, aI a1), (2, .one (.ptr 2 0)), (5, .one (.slc 58)), (10, aD (.slice tI) a0.2.2.2.2.1), (11, aI (List.length a0.2.2.2.2.1 : Int)), (12, aI i108)], [(2, .one (.pair (.slice (.pair tI tI)) (.pair tI (.pair tI (.pair tI (.pair (.slice tI) (.slice tI)))))) a0), (58, .seq tI v)])
noncomputable def ref_Over_b22 (a0 : ((List (Int × Int)) × (Int × (Int × (Int × ((List Int) × (List Int))))))) (a1 : Int) (i108 : Int) (v111 : Int) (x109 : (List Int)) : Option (Flow (List Int) (List Int)) :=
(ref_Over_g20 a0 a1 i108 x109 v111).bind fun v159 =>
some (.next v159)
@[reducible] noncomputable def ref_Over_s23 (a0 : ((List (Int × Int)) × (Int × (Int × (Int × ((List Int) × (List Int))))))) (a1 : Int) (v : Int × (List Int)) : Fr × LL := ([(1, aI a1), (2, .one (.ptr 2 0)), (5, .one (.slc 58)), (10, aD (.slice tI) a0.2.2.2.2.1), (11, aI (List.length a0.2.2.2.2.1 : Int)), (12, aI v.1)], [(2, .one (.pair (.slice (.pair tI tI)) (.pair tI (.pair tI (.pair tI (.pair (.slice tI) (.slice tI)))))) a0), (58, .seq tI v.2)])
@[reducible] noncomputable def ref_Over_s24 (v : (List Int)) : Fr × LL := ([(5, .one (.slc 58))], [(58, .seq tI v)])
noncomputable def ref_Over (a0 : ((List (Int × Int)) × (Int × (Int × (Int × ((List Int) × (List Int))))))) (a1 : Int) : Option (List Int) :=
(forL (ref_Over_b22 a0 a1) (fun x109 => x109) a0.2.2.2.2.1 0 []).bind fun v162 =>
some v162
theorem ref_Over_ok {a0 : ((List (Int × Int)) × (Int × (Int × (Int × ((List Int) × (List Int))))))} {a1 : Int} {r : (List Int)} (h : ref_Over a0 a1 = some r) : FnC Try.prog 42 [aD (.pair (.slice (.pair tI tI)) (.pair tI (.pair tI (.pair tI (.pair (.slice tI) (.slice tI)))))) a0, aI a1] [] (aD (.slice tI) r) [] := by
  refine fnC_of_W (B := bodyOf Try.f42) (n := 61) Try.func42 (by kernel_rfl) (by kernel_rfl) (by kernel_rfl) (by kernel_rfl) (by kernel_rfl) ?_
  intro K
  refine W_seq (by kernel_rfl) ?_
  refine W_run 2 [] [1, 2] [2] (fr' := [(1, aI a1), (2, .one (.ptr 2 0))]) (L' := [(2, .one (.pair (.slice (.pair tI tI)) (.pair tI (.pair tI (.pair tI (.pair (.slice tI) (.slice tI)))))) a0)]) (obs := []) (by kernel_rfl) (by kernel_rfl) (by kernel_rfl) allP0 ?_
  refine seqQ_norm ?_
  refine W_seq (by kernel_rfl) ?_
  refine W_run 1 [] [1, 2, 5] [2] (fr' := [(1, aI a1), (2, .one (.ptr 2 0)), (5, .one (.nilS))]) (L' := [(2, .one (.pair (.slice (.pair tI tI)) (.pair tI (.pair tI (.pair tI (.pair (.slice tI) (.slice tI)))))) a0)]) (obs := []) (by kernel_rfl) (by kernel_rfl) (by kernel_rfl) allP0 ?_
  refine seqQ_norm ?_
  refine W_seq (by kernel_rfl) ?_
  refine W_seq (by kernel_rfl) ?_
  refine W_run 4 [] [1, 2, 5, 10, 11, 12] [2] (fr' := [(1, aI a1), (2, .one (.ptr 2 0)), (5, .one (.nilS)), (10, aD (.slice tI) a0.2.2.2.2.1), (11, aI (List.length a0.2.2.2.2.1 : Int)), (12, aI (0 : Int))]) (L' := [(2, .one (.pair (.slice (.pair tI tI)) (.pair tI (.pair tI (.pair tI (.pair (.slice tI) (.slice tI)))))) a0)]) (obs := []) (by kernel_rfl) (by kernel_rfl) (by kernel_rfl) allP0 ?_
  refine seqQ_norm ?_
  refine W_block (id := 0) (by kernel_rfl) ?_
  obtain ⟨v162, h163, h⟩ := bind_of h
  refine W_len (t := 10) (u := tI) (xs := a0.2.2.2.2.1) (by kernel_rfl) (fun h166 => ?_)
  obtain ⟨h164, h165⟩ := forL_iter h166 h163
  refine W_mine 5 58 tI (by kernel_rfl) ?_
  refine W_weaken [1, 2, 5, 10, 11, 12] [2, 58] (fr' := ((ref_Over_s23 a0 a1) ((0 : Int), [])).1) (L' := ((ref_Over_s23 a0 a1) ((0 : Int), [])).2) (by kernel_rfl) ?_
  refine W_cutK (W_loop (S := (ref_Over_s23 a0 a1)) (J := (exQ (.exit 0) ref_Over_s24)) (by kernel_rfl) ?_ h164 _ v162 h165) ?_
  · rintro ⟨i108, x109⟩ s h
    refine W_seq (by kernel_rfl) ?_
    refine W_run 1 [] [1, 2, 5, 10, 11, 12, 13] [2, 58] (fr' := [(1, aI a1), (2, .one (.ptr 2 0)), (5, .one (.slc 58)), (10, aD (.slice tI) a0.2.2.2.2.1), (11, aI (List.length a0.2.2.2.2.1 : Int)), (12, aI i108), (13, aB (decide (i108 < (List.length a0.2.2.2.2.1 : Int))))]) (L' := [(2, .one (.pair (.slice (.pair tI tI)) (.pair tI (.pair tI (.pair tI (.pair (.slice tI) (.slice tI)))))) a0), (58, .seq tI x109)]) (obs := []) (by kernel_rfl) (by kernel_rfl) (by kernel_rfl) allP0 ?_
    refine seqQ_norm ?_
    refine W_seq (by kernel_rfl) ?_
    refine W_cond (o := .tmp 13) (b := decide (i108 < (List.length a0.2.2.2.2.1 : Int))) (by kernel_rfl) (by kernel_rfl) (fun h113 => ?_) (fun h113 => ?_)
    · replace h := stepL_true h113 h
      obtain ⟨v111, _, h112, h, rfl⟩ := h
      refine W_skip [1, 2, 5, 10, 11, 12] [2, 58] (fr' := [(1, aI a1), (2, .one (.ptr 2 0)), (5, .one (.slc 58)), (10, aD (.slice tI) a0.2.2.2.2.1), (11, aI (List.length a0.2.2.2.2.1 : Int)), (12, aI i108)]) (L' := [(2, .one (.pair (.slice (.pair tI tI)) (.pair tI (.pair tI (.pair tI (.pair (.slice tI) (.slice tI)))))) a0), (58, .seq tI x109)]) (by kernel_rfl) (by kernel_rfl) ?_
      refine seqQ_norm ?_
      refine W_seq (by kernel_rfl) ?_
      obtain ⟨v159, h160, h⟩ := bind_of h
      refine W_cutK (Q' := (exQ .normal (ref_Over_s21 a0 a1 i108)) v159) ?_ ?_
      · replace h := h160
        refine W_block (id := 1) (by kernel_rfl) ?_
        refine W_seq (by kernel_rfl) ?_
        refine W_run 5 [(3, .val (.dat tI v111))] [1, 2, 5, 6, 7, 10, 11, 12] [2, 58] (fr' := [(1, aI a1), (2, .one (.ptr 2 0)), (5, .one (.slc 58)), (6, aI i108), (7, aI v111), (10, aD (.slice tI) a0.2.2.2.2.1), (11, aI (List.length a0.2.2.2.2.1 : Int)), (12, aI i108)]) (L' := [(2, .one (.pair (.slice (.pair tI tI)) (.pair tI (.pair tI (.pair tI (.pair (.slice tI) (.slice tI)))))) a0), (58, .seq tI x109)]) (obs := [Idx a0.2.2.2.2.1 i108 v111]) (by kernel_rfl) (by kernel_rfl) (by kernel_rfl) (allP1 (Idx.of h112)) ?_
        refine seqQ_norm ?_
        refine W_seq (by kernel_rfl) ?_
        refine W_run 3 [] [1, 2, 5, 6, 7, 8, 10, 11, 12] [2, 58] (fr' := [(1, aI a1), (2, .one (.ptr 2 0)), (5, .one (.slc 58)), (6, aI i108), (7, aI v111), (8, aI a0.2.1), (10, aD (.slice tI) a0.2.2.2.2.1), (11, aI (List.length a0.2.2.2.2.1 : Int)), (12, aI i108)]) (L' := [(2, .one (.pair (.slice (.pair tI tI)) (.pair tI (.pair tI (.pair tI (.pair (.slice tI) (.slice tI)))))) a0), (58, .seq tI x109)]) (obs := []) (by kernel_rfl) (by kernel_rfl) (by kernel_rfl) allP0 ?_
        refine seqQ_norm ?_
        refine W_seq (by kernel_rfl) ?_
        obtain ⟨v153, h154, h⟩ := bind_of h
        refine W_cutK (Q' := (exQ .normal (ref_Over_s19 a0 a1 i108 x109 v111)) v153) ?_ ?_
        · replace h := h154
          refine W_seq (by kernel_rfl) ?_
          refine W_run 6 [] [1, 2, 5, 6, 7, 8, 10, 11, 12, 24] [2, 58] (fr' := [(1, aI a1), (2, .one (.ptr 2 0)), (5, .one (.slc 58)), (6, aI i108), (7, aI v111), (8, aI a0.2.1), (10, aD (.slice tI) a0.2.2.2.2.1), (11, aI (List.length a0.2.2.2.2.1 : Int)), (12, aI i108), (24, aB (decide ((w64 (i108 + (1 : Int))) < (List.length a0.2.2.2.2.1 : Int))))]) (L' := [(2, .one (.pair (.slice (.pair tI tI)) (.pair tI (.pair tI (.pair tI (.pair (.slice tI) (.slice tI)))))) a0), (58, .seq tI x109)]) (obs := []) (by kernel_rfl) (by kernel_rfl) (by kernel_rfl) allP0 ?_
          refine seqQ_norm ?_
          refine W_cond (o := .tmp 24) (b := decide ((w64 (i108 + (1 : Int))) < (List.length a0.2.2.2.2.1 : Int))) (by kernel_rfl) (by kernel_rfl) (fun h150 => ?_) (fun h150 => ?_)
          · replace h := ofT h150 h
            obtain ⟨v151, h152, h⟩ := bind_of h
            obtain rfl := Option.some.inj h
            refine W_run 7 [(9, .val (.dat tI v151))] [1, 2, 5, 6, 7, 8, 10, 11, 12] [2, 58] (fr' := [(1, aI a1), (2, .one (.ptr 2 0)), (5, .one (.slc 58)), (6, aI i108), (7, aI v111), (8, aI v151), (10, aD (.slice tI) a0.2.2.2.2.1), (11, aI (List.length a0.2.2.2.2.1 : Int)), (12, aI i108)]) (L' := [(2, .one (.pair (.slice (.pair tI tI)) (.pair tI (.pair tI (.pair tI (.pair (.slice tI) (.slice tI)))))) a0), (58, .seq tI x109)]) (obs := [Idx a0.2.2.2.2.1 (w64 (i108 + (1 : Int))) v151]) (by kernel_rfl) (by kernel_rfl) (by kernel_rfl) (allP1 (Idx.of h152)) ?_
            exact exQ_mk (by kernel_rfl) (by kernel_rfl)
          · replace h := ofF h150 h
            obtain rfl := Option.some.inj h
            refine W_skip [1, 2, 5, 6, 7, 8, 10, 11, 12] [2, 58] (fr' := [(1, aI a1), (2, .one (.ptr 2 0)), (5, .one (.slc 58)), (6, aI i108), (7, aI v111), (8, aI a0.2.1), (10, aD (.slice tI) a0.2.2.2.2.1), (11, aI (List.length a0.2.2.2.2.1 : Int)), (12, aI i108)]) (L' := [(2, .one (.pair (.slice (.pair tI tI)) (.pair tI (.pair tI (.pair tI (.pair (.slice tI) (.slice tI)))))) a0), (58, .seq tI x109)]) (by kernel_rfl) (by kernel_rfl) ?_
            exact exQ_mk (by kernel_rfl) (by kernel_rfl)
        · intro e fr L hJ
          obtain ⟨rfl, rfl, rfl⟩ := hJ
          refine LT_keep [1, 2, 5, 6, 7, 8, 10, 11, 12] [2, 58] (fr' := [(1, aI a1), (2, .one (.ptr 2 0)), (5, .one (.slc 58)), (6, aI i108), (7, aI v111), (8, aI v153), (10, aD (.slice tI) a0.2.2.2.2.1), (11, aI (List.length a0.2.2.2.2.1 : Int)), (12, aI i108)]) (L' := [(2, .one (.pair (.slice (.pair tI tI)) (.pair tI (.pair tI (.pair tI (.pair (.slice tI) (.slice tI)))))) a0), (58, .seq tI x109)]) (by kernel_rfl) ?_
          refine seqQ_norm ?_
          refine W_seq (by kernel_rfl) ?_
          refine W_run 20 [] [1, 2, 5, 6, 10, 11, 12, 50] [2, 58] (fr' := [(1, aI a1), (2, .one (.ptr 2 0)), (5, .one (.slc 58)), (6, aI i108), (10, aD (.slice tI) a0.2.2.2.2.1), (11, aI (List.length a0.2.2.2.2.1 : Int)), (12, aI i108), (50, aB (((v111 == (w64 (a1 - (1 : Int)))) && (v153 == a1)) || ((v111 == a1) && (v153 == (w64 (a1 - (1 : Int)))))))]) (L' := [(2, .one (.pair (.slice (.pair tI tI)) (.pair tI (.pair tI (.pair tI (.pair (.slice tI) (.slice tI)))))) a0), (58, .seq tI x109)]) (obs := []) (by kernel_rfl) (by kernel_rfl) (by kernel_rfl) allP0 ?_
          refine seqQ_norm ?_
          refine W_cond (o := .tmp 50) (b := ((v111 == (w64 (a1 - (1 : Int)))) && (v153 == a1)) || ((v111 == a1) && (v153 == (w64 (a1 - (1 : Int)))))) (by kernel_rfl) (by kernel_rfl) (fun h155 => ?_) (fun h155 => ?_)
          · replace h := ofT h155 h
            obtain ⟨v156, h157, h⟩ := bind_of h
            obtain ⟨_, h158, h⟩ := bind_of h
            replace h158 := ck_some h158
            obtain rfl := Option.some.inj h
            refine W_run 9 [(9, .val (.dat tI v156))] [1, 2, 5, 10, 11, 12] [2, 58] (fr' := [(1, aI a1), (2, .one (.ptr 2 0)), (5, .one (.slc 58)), (10, aD (.slice tI) a0.2.2.2.2.1), (11, aI (List.length a0.2.2.2.2.1 : Int)), (12, aI i108)]) (L' := [(2, .one (.pair (.slice (.pair tI tI)) (.pair tI (.pair tI (.pair tI (.pair (.slice tI) (.slice tI)))))) a0), (58, .seq tI (x109 ++ [v156]))]) (obs := [Idx a0.2.2.2.2.2 i108 v156, SmallLen (List.length x109 + List.length [v156])]) (by kernel_rfl) (by kernel_rfl) (by kernel_rfl) (allP2 (Idx.of h157) (allP1 h158)) ?_
            refine blockQ_norm ?_
            exact exQ_mk (by kernel_rfl) (by kernel_rfl)
          · replace h := ofF h155 h
            obtain rfl := Option.some.inj h
            refine W_skip [1, 2, 5, 10, 11, 12] [2, 58] (fr' := [(1, aI a1), (2, .one (.ptr 2 0)), (5, .one (.slc 58)), (10, aD (.slice tI) a0.2.2.2.2.1), (11, aI (List.length a0.2.2.2.2.1 : Int)), (12, aI i108)]) (L' := [(2, .one (.pair (.slice (.pair tI tI)) (.pair tI (.pair tI (.pair tI (.pair (.slice tI) (.slice tI)))))) a0), (58, .seq tI x109)]) (by kernel_rfl) (by kernel_rfl) ?_
            refine blockQ_norm ?_
            exact exQ_mk (by kernel_rfl) (by kernel_rfl)
      · intro e fr L hJ
        obtain ⟨rfl, rfl, rfl⟩ := hJ
        refine LT_keep [1, 2, 5, 10, 11, 12] [2, 58] (fr' := [(1, aI a1), (2, .one (.ptr 2 0)), (5, .one (.slc 58)), (10, aD (.slice tI) a0.2.2.2.2.1), (11, aI (List.length a0.2.2.2.2.1 : Int)), (12, aI i108)]) (L' := [(2, .one (.pair (.slice (.pair tI tI)) (.pair tI (.pair tI (.pair tI (.pair (.slice tI) (.slice tI)))))) a0), (58, .seq tI v159)]) (by kernel_rfl) ?_
        refine seqQ_norm ?_
        obtain rfl := Option.some.inj h
        refine W_run 2 [] [1, 2, 5, 10, 11, 12] [2, 58] (fr' := [(1, aI a1), (2, .one (.ptr 2 0)), (5, .one (.slc 58)), (10, aD (.slice tI) a0.2.2.2.2.1), (11, aI (List.length a0.2.2.2.2.1 : Int)), (12, aI (w64 (i108 + (1 : Int))))]) (L' := [(2, .one (.pair (.slice (.pair tI tI)) (.pair tI (.pair tI (.pair tI (.pair (.slice tI) (.slice tI)))))) a0), (58, .seq tI v159)]) (obs := []) (by kernel_rfl) (by kernel_rfl) (by kernel_rfl) allP0 ?_
        exact round_next' (by kernel_rfl) (by kernel_rfl)
    · obtain rfl := stepL_false h113 h
      refine W_exit (id := 0) [5] [58] (fr' := [(5, .one (.slc 58))]) (L' := [(58, .seq tI x109)]) (by kernel_rfl) (by kernel_rfl) ?_
      refine seqQ_exit ?_
      refine round_exit ?_
      exact exQ_mk (by kernel_rfl) (by kernel_rfl)
  · intro e fr L hJ
    obtain ⟨rfl, rfl, rfl⟩ := hJ
    refine LT_keep [5] [58] (fr' := [(5, .one (.slc 58))]) (L' := [(58, .seq tI v162)]) (by kernel_rfl) ?_
    refine blockQ_hit ?_
    refine seqQ_norm ?_
    refine W_seq (by kernel_rfl) ?_
    refine W_run 2 [] [4] [58] (fr' := [(4, .one (.slc 58))]) (L' := [(58, .seq tI v162)]) (obs := []) (by kernel_rfl) (by kernel_rfl) (by kernel_rfl) allP0 ?_
    refine seqQ_norm ?_
    obtain rfl := Option.some.inj h
    refine W_frz 58 (by kernel_rfl) ?_
    refine W_ret [4] [] (fr' := [(4, aD (.slice tI) v162)]) (L' := []) (by kernel_rfl) (by kernel_rfl) ?_
    exact retQ_mk (by kernel_rfl) (by kernel_rfl) (by kernel_rfl)

noncomputable def ref_Ints_b1 (a1 : (List Int)) (i16 : Int) (v19 : Int) (x17 : Unit) : Option (Flow Unit (Esc Bool Unit)) :=
(idx a1 i16).bind fun v22 =>
bif v19 != v22 then
(some (.done (.ret false)))
else
(some (.next ()))
@[reducible] noncomputable def ref_Ints_s2 (a0 : (List Int)) (a1 : (List Int)) (v : Int × Unit) : Fr × LL := ([(0, aD (.slice tI) a0), (1, aD (.slice tI) a1), (5, aI v.1)], [])
@[reducible] noncomputable def ref_Ints_s3 (v : Bool) : Fr × LL := ([(4, aB v)], [])
@[reducible] noncomputable def ref_Ints_s4 (v : Unit) : Fr × LL := ([], [])
noncomputable def ref_Ints (a0 : (List Int)) (a1 : (List Int)) : Option Bool :=
bif (List.length a0 : Int) != (List.length a1 : Int) then
(some false)
else
((forL (ref_Ints_b1 a1) (fun x17 => (.brk ())) a0 0 ()).bind fun v26 =>
match v26 with
| .ret v31 =>
(some v31)
| .brk v32 =>
(some true))
theorem ref_Ints_ok {a0 : (List Int)} {a1 : (List Int)} {r : Bool} (h : ref_Ints a0 a1 = some r) : FnC Try.prog 76 [aD (.slice tI) a0, aD (.slice tI) a1] [] (aB r) [] := by
  refine fnC_of_W (B := bodyOf Try.f76) (n := 26) Try.func76 (by kernel_rfl) (by kernel_rfl) (by kernel_rfl) (by kernel_rfl) (by kernel_rfl) ?_
  intro K
  refine W_seq (by kernel_rfl) ?_
  refine W_run 1 [] [0, 1] [] (fr' := [(0, aD (.slice tI) a0), (1, aD (.slice tI) a1)]) (L' := []) (obs := []) (by kernel_rfl) (by kernel_rfl) (by kernel_rfl) allP0 ?_
  refine seqQ_norm ?_
  refine W_seq (by kernel_rfl) ?_
  refine W_seq (by kernel_rfl) ?_
  refine W_run 5 [] [0, 1, 10] [] (fr' := [(0, aD (.slice tI) a0), (1, aD (.slice tI) a1), (10, aB ((List.length a0 : Int) != (List.length a1 : Int)))]) (L' := []) (obs := []) (by kernel_rfl) (by kernel_rfl) (by kernel_rfl) allP0 ?_
  refine seqQ_norm ?_
  refine W_cond (o := .tmp 10) (b := (List.length a0 : Int) != (List.length a1 : Int)) (by kernel_rfl) (by kernel_rfl) (fun h1 => ?_) (fun h1 => ?_)
  · replace h := ofT h1 h
    refine W_seq (by kernel_rfl) ?_
    refine W_run 1 [] [4] [] (fr' := [(4, aB false)]) (L' := []) (obs := []) (by kernel_rfl) (by kernel_rfl) (by kernel_rfl) allP0 ?_
    refine seqQ_norm ?_
    obtain rfl := Option.some.inj h
    refine W_ret [4] [] (fr' := [(4, aB false)]) (L' := []) (by kernel_rfl) (by kernel_rfl) ?_
    refine seqQ_ret ?_
    exact retQ_mk (by kernel_rfl) (by kernel_rfl) (by kernel_rfl)
  · replace h := ofF h1 h
    refine W_skip [0, 1] [] (fr' := [(0, aD (.slice tI) a0), (1, aD (.slice tI) a1)]) (L' := []) (by kernel_rfl) (by kernel_rfl) ?_
    refine seqQ_norm ?_
    refine W_seq (by kernel_rfl) ?_
    refine W_seq (by kernel_rfl) ?_
    refine W_run 1 [] [0, 1, 5] [] (fr' := [(0, aD (.slice tI) a0), (1, aD (.slice tI) a1), (5, aI (0 : Int))]) (L' := []) (obs := []) (by kernel_rfl) (by kernel_rfl) (by kernel_rfl) allP0 ?_
    refine seqQ_norm ?_
    refine W_block (id := 0) (by kernel_rfl) ?_
    obtain ⟨v26, h27, h⟩ := bind_of h
    refine W_len (t := 0) (u := tI) (xs := a0) (by kernel_rfl) (fun h30 => ?_)
    obtain ⟨h28, h29⟩ := forL_iter h30 h27
    refine W_weaken [0, 1, 5] [] (fr' := ((ref_Ints_s2 a0 a1) ((0 : Int), ())).1) (L' := ((ref_Ints_s2 a0 a1) ((0 : Int), ())).2) (by kernel_rfl) ?_
    refine W_cutK (W_loop (S := (ref_Ints_s2 a0 a1)) (J := (escQ (exQ .ret ref_Ints_s3) (exQ (.exit 0) ref_Ints_s4))) (by kernel_rfl) ?_ h28 _ v26 h29) ?_
    · rintro ⟨i16, x17⟩ s h
      refine W_seq (by kernel_rfl) ?_
      refine W_seq (by kernel_rfl) ?_
      refine W_run 4 [] [0, 1, 5, 14] [] (fr' := [(0, aD (.slice tI) a0), (1, aD (.slice tI) a1), (5, aI i16), (14, aB (decide (i16 < (List.length a0 : Int))))]) (L' := []) (obs := []) (by kernel_rfl) (by kernel_rfl) (by kernel_rfl) allP0 ?_
      refine seqQ_norm ?_
      refine W_cond (o := .tmp 14) (b := decide (i16 < (List.length a0 : Int))) (by kernel_rfl) (by kernel_rfl) (fun h21 => ?_) (fun h21 => ?_)
      · replace h := stepL_true h21 h
        obtain ⟨v19, _, h20, h, rfl⟩ := h
        refine W_skip [0, 1, 5] [] (fr' := [(0, aD (.slice tI) a0), (1, aD (.slice tI) a1), (5, aI i16)]) (L' := []) (by kernel_rfl) (by kernel_rfl) ?_
        refine seqQ_norm ?_
        refine W_seq (by kernel_rfl) ?_
        refine W_block (id := 1) (by kernel_rfl) ?_
        refine W_seq (by kernel_rfl) ?_
        obtain ⟨v22, h23, h⟩ := bind_of h
        refine W_draw2 9 [(5, .val (.dat tI v19)), (13, .val (.dat tI v22))] [] [0, 1, 5, 25] [] (fr' := [(0, aD (.slice tI) a0), (1, aD (.slice tI) a1), (5, aI i16), (25, aB (v19 != v22))]) (L' := []) (out := [(17, aD (.slice tI) a0), (18, aI i16), (19, .one (.dptr tI v19)), (20, aI v19), (21, aD (.slice tI) a1), (22, aI i16), (23, .one (.dptr tI v22)), (24, aI v22), (25, aB (v19 != v22))]) (obs := [Idx a0 i16 v19, Idx a1 i16 v22]) (obs2 := []) (calls := []) (by kernel_rfl) (by kernel_rfl) (by kernel_rfl) (by kernel_rfl) (allP2 (Idx.of h20) (allP1 (Idx.of h23))) allC0 (by kernel_rfl) allP0 ?_
        refine seqQ_norm ?_
        refine W_cond (o := .tmp 25) (b := v19 != v22) (by kernel_rfl) (by kernel_rfl) (fun h24 => ?_) (fun h24 => ?_)
        · replace h := ofT h24 h
          refine W_seq (by kernel_rfl) ?_
          refine W_run 1 [] [4] [] (fr' := [(4, aB false)]) (L' := []) (obs := []) (by kernel_rfl) (by kernel_rfl) (by kernel_rfl) allP0 ?_
          refine seqQ_norm ?_
          obtain rfl := Option.some.inj h
          refine W_ret [4] [] (fr' := [(4, aB false)]) (L' := []) (by kernel_rfl) (by kernel_rfl) ?_
          refine blockQ_ret ?_
          refine seqQ_ret ?_
          refine round_ret ?_
          refine escQ_ret ?_
          exact exQ_mk (by kernel_rfl) (by kernel_rfl)
        · replace h := ofF h24 h
          refine W_skip [0, 1, 5] [] (fr' := [(0, aD (.slice tI) a0), (1, aD (.slice tI) a1), (5, aI i16)]) (L' := []) (by kernel_rfl) (by kernel_rfl) ?_
          refine blockQ_norm ?_
          refine seqQ_norm ?_
          obtain rfl := Option.some.inj h
          refine W_run 3 [] [0, 1, 5] [] (fr' := [(0, aD (.slice tI) a0), (1, aD (.slice tI) a1), (5, aI (w64 (i16 + (1 : Int))))]) (L' := []) (obs := []) (by kernel_rfl) (by kernel_rfl) (by kernel_rfl) allP0 ?_
          exact round_next' (by kernel_rfl) (by kernel_rfl)
      · obtain rfl := stepL_false h21 h
        refine W_exit (id := 0) [] [] (fr' := []) (L' := []) (by kernel_rfl) (by kernel_rfl) ?_
        refine seqQ_exit ?_
        refine round_exit ?_
        refine escQ_brk ?_
        exact exQ_mk (by kernel_rfl) (by kernel_rfl)
    · intro e fr L hJ
      rcases v26 with v31 | v32
      · obtain ⟨rfl, rfl, rfl⟩ := hJ
        obtain rfl := Option.some.inj h
        refine LT_keep [4] [] (fr' := [(4, aB v31)]) (L' := []) (by kernel_rfl) ?_
        refine blockQ_ret ?_
        refine seqQ_ret ?_
        exact retQ_mk (by kernel_rfl) (by kernel_rfl) (by kernel_rfl)
      · obtain ⟨rfl, rfl, rfl⟩ := hJ
        refine LT_keep [] [] (fr' := []) (L' := []) (by kernel_rfl) ?_
        refine blockQ_hit ?_
        refine seqQ_norm ?_
        refine W_seq (by kernel_rfl) ?_
        refine W_run 1 [] [4] [] (fr' := [(4, aB true)]) (L' := []) (obs := []) (by kernel_rfl) (by kernel_rfl) (by kernel_rfl) allP0 ?_
        refine seqQ_norm ?_
        obtain rfl := Option.some.inj h
        refine W_ret [4] [] (fr' := [(4, aB true)]) (L' := []) (by kernel_rfl) (by kernel_rfl) ?_
        exact retQ_mk (by kernel_rfl) (by kernel_rfl) (by kernel_rfl)

noncomputable def ref_Lists_b1 (a1 : (List (List Int))) (i20 : Int) (v23 : (List Int)) (x21 : Unit) : Option (Flow Unit (Esc Bool Unit)) :=
(idx a1 i20).bind fun v26 =>
(ref_Ints v23 v26).bind fun r28 =>
bif !r28 then
(some (.done (.ret false)))
else
(some (.next ()))
@[reducible] noncomputable def ref_Lists_s2 (a0 : (List (List Int))) (a1 : (List (List Int))) (v : Int × Unit) : Fr × LL := ([(0, aD (.slice (.slice tI)) a0), (1, aD (.slice (.slice tI)) a1), (5, aI v.1)], [])
@[reducible] noncomputable def ref_Lists_s3 (v : Bool) : Fr × LL := ([(4, aB v)], [])
@[reducible] noncomputable def ref_Lists_s4 (v : Unit) : Fr × LL := ([], [])
noncomputable def ref_Lists (a0 : (List (List Int))) (a1 : (List (List Int))) : Option Bool :=
bif (List.length a0 : Int) != (List.length a1 : Int) then
(some false)
else
((forL (ref_Lists_b1 a1) (fun x21 => (.brk ())) a0 0 ()).bind fun v32 =>
match v32 with
| .ret v37 =>
(some v37)
| .brk v38 =>
(some true))
theorem ref_Lists_ok {a0 : (List (List Int))} {a1 : (List (List Int))} {r : Bool} (h : ref_Lists a0 a1 = some r) : FnC Try.prog 43 [aD (.slice (.slice tI)) a0, aD (.slice (.slice tI)) a1] [] (aB r) [] := by
  refine fnC_of_W (B := bodyOf Try.f43) (n := 27) Try.func43 (by kernel_rfl) (by kernel_rfl) (by kernel_rfl) (by kernel_rfl) (by kernel_rfl) ?_
  intro K
  refine W_seq (by kernel_rfl) ?_
  refine W_run 1 [] [0, 1] [] (fr' := [(0, aD (.slice (.slice tI)) a0), (1, aD (.slice (.slice tI)) a1)]) (L' := []) (obs := []) (by kernel_rfl) (by kernel_rfl) (by kernel_rfl) allP0 ?_
  refine seqQ_norm ?_
  refine W_seq (by kernel_rfl) ?_
  refine W_seq (by kernel_rfl) ?_
  refine W_run 5 [] [0, 1, 10] [] (fr' := [(0, aD (.slice (.slice tI)) a0), (1, aD (.slice (.slice tI)) a1), (10, aB ((List.length a0 : Int) != (List.length a1 : Int)))]) (L' := []) (obs := []) (by kernel_rfl) (by kernel_rfl) (by kernel_rfl) allP0 ?_
  refine seqQ_norm ?_
  refine W_cond (o := .tmp 10) (b := (List.length a0 : Int) != (List.length a1 : Int)) (by kernel_rfl) (by kernel_rfl) (fun h1 => ?_) (fun h1 => ?_)
  · replace h := ofT h1 h
    refine W_seq (by kernel_rfl) ?_
    refine W_run 1 [] [4] [] (fr' := [(4, aB false)]) (L' := []) (obs := []) (by kernel_rfl) (by kernel_rfl) (by kernel_rfl) allP0 ?_
    refine seqQ_norm ?_
    obtain rfl := Option.some.inj h
    refine W_ret [4] [] (fr' := [(4, aB false)]) (L' := []) (by kernel_rfl) (by kernel_rfl) ?_
    refine seqQ_ret ?_
    exact retQ_mk (by kernel_rfl) (by kernel_rfl) (by kernel_rfl)
  · replace h := ofF h1 h
    refine W_skip [0, 1] [] (fr' := [(0, aD (.slice (.slice tI)) a0), (1, aD (.slice (.slice tI)) a1)]) (L' := []) (by kernel_rfl) (by kernel_rfl) ?_
    refine seqQ_norm ?_
    refine W_seq (by kernel_rfl) ?_
    refine W_seq (by kernel_rfl) ?_
    refine W_run 1 [] [0, 1, 5] [] (fr' := [(0, aD (.slice (.slice tI)) a0), (1, aD (.slice (.slice tI)) a1), (5, aI (0 : Int))]) (L' := []) (obs := []) (by kernel_rfl) (by kernel_rfl) (by kernel_rfl) allP0 ?_
    refine seqQ_norm ?_
    refine W_block (id := 0) (by kernel_rfl) ?_
    obtain ⟨v32, h33, h⟩ := bind_of h
    refine W_len (t := 0) (u := (.slice tI)) (xs := a0) (by kernel_rfl) (fun h36 => ?_)
    obtain ⟨h34, h35⟩ := forL_iter h36 h33
    refine W_weaken [0, 1, 5] [] (fr' := ((ref_Lists_s2 a0 a1) ((0 : Int), ())).1) (L' := ((ref_Lists_s2 a0 a1) ((0 : Int), ())).2) (by kernel_rfl) ?_
    refine W_cutK (W_loop (S := (ref_Lists_s2 a0 a1)) (J := (escQ (exQ .ret ref_Lists_s3) (exQ (.exit 0) ref_Lists_s4))) (by kernel_rfl) ?_ h34 _ v32 h35) ?_
    · rintro ⟨i20, x21⟩ s h
      refine W_seq (by kernel_rfl) ?_
      refine W_seq (by kernel_rfl) ?_
      refine W_run 4 [] [0, 1, 5, 14] [] (fr' := [(0, aD (.slice (.slice tI)) a0), (1, aD (.slice (.slice tI)) a1), (5, aI i20), (14, aB (decide (i20 < (List.length a0 : Int))))]) (L' := []) (obs := []) (by kernel_rfl) (by kernel_rfl) (by kernel_rfl) allP0 ?_
      refine seqQ_norm ?_
      refine W_cond (o := .tmp 14) (b := decide (i20 < (List.length a0 : Int))) (by kernel_rfl) (by kernel_rfl) (fun h25 => ?_) (fun h25 => ?_)
      · replace h := stepL_true h25 h
        obtain ⟨v23, _, h24, h, rfl⟩ := h
        refine W_skip [0, 1, 5] [] (fr' := [(0, aD (.slice (.slice tI)) a0), (1, aD (.slice (.slice tI)) a1), (5, aI i20)]) (L' := []) (by kernel_rfl) (by kernel_rfl) ?_
        refine seqQ_norm ?_
        refine W_seq (by kernel_rfl) ?_
        refine W_block (id := 1) (by kernel_rfl) ?_
        refine W_seq (by kernel_rfl) ?_
        obtain ⟨v26, h27, h⟩ := bind_of h
        obtain ⟨r28, h29, h⟩ := bind_of h
        refine W_draw2 10 [(5, .val (.dat (.slice tI) v23)), (13, .val (.dat (.slice tI) v26))] [(8, [none, none], aB r28)] [0, 1, 5, 26] [] (fr' := [(0, aD (.slice (.slice tI)) a0), (1, aD (.slice (.slice tI)) a1), (5, aI i20), (26, aB (!r28))]) (L' := []) (out := [(17, aD (.slice (.slice tI)) a0), (18, aI i20), (19, .one (.dptr (.slice tI) v23)), (20, aD (.slice tI) v23), (21, aD (.slice (.slice tI)) a1), (22, aI i20), (23, .one (.dptr (.slice tI) v26)), (24, aD (.slice tI) v26), (25, aB r28), (26, aB (!r28))]) (obs := [Idx a0 i20 v23, Idx a1 i20 v26, True]) (obs2 := []) (calls := [(76, [aD (.slice tI) v23, aD (.slice tI) v26], aB r28)]) (by kernel_rfl) (by kernel_rfl) (by kernel_rfl) (by kernel_rfl) (allP2 (Idx.of h24) (allP2 (Idx.of h27) (allP1 trivial))) (allC1 (by kernel_rfl) (ref_Ints_ok h29) (by kernel_rfl) allC0) (by kernel_rfl) allP0 ?_
        refine seqQ_norm ?_
        refine W_cond (o := .tmp 26) (b := !r28) (by kernel_rfl) (by kernel_rfl) (fun h30 => ?_) (fun h30 => ?_)
        · replace h := ofT h30 h
          refine W_seq (by kernel_rfl) ?_
          refine W_run 1 [] [4] [] (fr' := [(4, aB false)]) (L' := []) (obs := []) (by kernel_rfl) (by kernel_rfl) (by kernel_rfl) allP0 ?_
          refine seqQ_norm ?_
          obtain rfl := Option.some.inj h
          refine W_ret [4] [] (fr' := [(4, aB false)]) (L' := []) (by kernel_rfl) (by kernel_rfl) ?_
          refine blockQ_ret ?_
          refine seqQ_ret ?_
          refine round_ret ?_
          refine escQ_ret ?_
          exact exQ_mk (by kernel_rfl) (by kernel_rfl)
        · replace h := ofF h30 h
          refine W_skip [0, 1, 5] [] (fr' := [(0, aD (.slice (.slice tI)) a0), (1, aD (.slice (.slice tI)) a1), (5, aI i20)]) (L' := []) (by kernel_rfl) (by kernel_rfl) ?_
          refine blockQ_norm ?_
          refine seqQ_norm ?_
          obtain rfl := Option.some.inj h
          refine W_run 3 [] [0, 1, 5] [] (fr' := [(0, aD (.slice (.slice tI)) a0), (1, aD (.slice (.slice tI)) a1), (5, aI (w64 (i20 + (1 : Int))))]) (L' := []) (obs := []) (by kernel_rfl) (by kernel_rfl) (by kernel_rfl) allP0 ?_
          exact round_next' (by kernel_rfl) (by kernel_rfl)
      · obtain rfl := stepL_false h25 h
        refine W_exit (id := 0) [] [] (fr' := []) (L' := []) (by kernel_rfl) (by kernel_rfl) ?_
        refine seqQ_exit ?_
        refine round_exit ?_
        refine escQ_brk ?_
        exact exQ_mk (by kernel_rfl) (by kernel_rfl)
    · intro e fr L hJ
      rcases v32 with v37 | v38
      · obtain ⟨rfl, rfl, rfl⟩ := hJ
        obtain rfl := Option.some.inj h
        refine LT_keep [4] [] (fr' := [(4, aB v37)]) (L' := []) (by kernel_rfl) ?_
        refine blockQ_ret ?_
        refine seqQ_ret ?_
        exact retQ_mk (by kernel_rfl) (by kernel_rfl) (by kernel_rfl)
      · obtain ⟨rfl, rfl, rfl⟩ := hJ
        refine LT_keep [] [] (fr' := []) (L' := []) (by kernel_rfl) ?_
        refine blockQ_hit ?_
        refine seqQ_norm ?_
        refine W_seq (by kernel_rfl) ?_
        refine W_run 1 [] [4] [] (fr' := [(4, aB true)]) (L' := []) (obs := []) (by kernel_rfl) (by kernel_rfl) (by kernel_rfl) allP0 ?_
        refine seqQ_norm ?_
        obtain rfl := Option.some.inj h
        refine W_ret [4] [] (fr' := [(4, aB true)]) (L' := []) (by kernel_rfl) (by kernel_rfl) ?_
        exact retQ_mk (by kernel_rfl) (by kernel_rfl) (by kernel_rfl)

noncomputable def law_CrossAlls_b1 (a1 : (List Int)) (r10 : (Int × Int × Int × (List (Int × Int)) × (List Int) × (List Int))) (x16 : (Int × (List (List Int)))) : Option (Flow (Int × (List (List Int))) (List (List Int))) :=
bif decide (x16.1 ≤ (List.length a1 : Int)) then
((ref_Over (r10.2.2.2.1, r10.1, r10.2.1, r10.2.2.1, r10.2.2.2.2.1, r10.2.2.2.2.2) x16.1).bind fun r22 =>
(ck ((List.length x16.2 : Int) + 1 ≤ 4294967296)).bind fun _ =>
some (.next (w64 (x16.1 + (1 : Int)), x16.2 ++ [r22])))
else
(some (.done x16.2))
@[reducible] noncomputable def law_CrossAlls_s2 (a1 : (List Int)) (r1 : ((List (List Int)) × Int)) (r10 : (Int × Int × Int × (List (Int × Int)) × (List Int) × (List Int))) (v : (Int × (List (List Int)))) : Fr × LL := ([(1, aD (.slice tI) a1), (7, aD (.slice (.slice tI)) r1.1), (8, aI r1.2), (10, .one (.ptr 10 0)), (11, .one (.slc 50)), (12, aI v.1)], [(10, .one (.pair (.slice (.pair tI tI)) (.pair tI (.pair tI (.pair tI (.pair (.slice tI) (.slice tI)))))) (r10.2.2.2.1, r10.1, r10.2.1, r10.2.2.1, r10.2.2.2.2.1, r10.2.2.2.2.2)), (50, .seq (.slice tI) v.2)])
@[reducible] noncomputable def law_CrossAlls_s3 (r1 : ((List (List Int)) × Int)) (v : (List (List Int))) : Fr × LL := ([(7, aD (.slice (.slice tI)) r1.1), (8, aI r1.2), (11, .one (.slc 50))], [(50, .seq (.slice tI) v)])
@[reducible] noncomputable def law_CrossAlls_s4 (v : Bool) : Fr × LL := ([(6, aB v)], [])
noncomputable def law_CrossAlls (fuel : Nat) (a0 : (Int × (Int × (List (List (Int × (Int × Int))))))) (a1 : (List Int)) (a2 : Int) : Option Bool :=
(cross_All fuel a0 a1 a2).bind fun r1 =>
(ref_RunCheck a0 a1 a2).bind fun r3 =>
bif r3 != (0 : Int) then
(some ((r1.2 == r3) && ((List.length r1.1 : Int) == (0 : Int))))
else
((ref_Start a1 (0 : Int) (0 : Int) (0 : Int)).bind fun r8 =>
(ref_Steps fuel a0 r8.1 r8.2.1 (0 : Int) a2 r8.2.2).bind fun r10 =>
(iter (law_CrossAlls_b1 a1 r10) fuel ((0 : Int), [])).bind fun v25 =>
(bif r1.2 == (0 : Int) then
((ref_Lists r1.1 v25).bind fun r36 =>
some r36)
else
(some false)).bind fun v38 =>
some v38)
theorem law_CrossAlls_ok {fuel : Nat} {a0 : (Int × (Int × (List (List (Int × (Int × Int))))))} {a1 : (List Int)} {a2 : Int} {r : Bool} (h : law_CrossAlls fuel a0 a1 a2 = some r) : FnC Try.prog 9 [aD (.pair tI (.pair tI (.slice (.slice (.pair tI (.pair tI tI)))))) a0, aD (.slice tI) a1, aI a2] [] (aB r) [] := by
  refine fnC_of_W (B := bodyOf Try.f9) (n := 58) Try.func9 (by kernel_rfl) (by kernel_rfl) (by kernel_rfl) (by kernel_rfl) (by kernel_rfl) ?_
  intro K
  refine W_seq (by kernel_rfl) ?_
  refine W_run 2 [] [1, 2, 3] [3] (fr' := [(1, aD (.slice tI) a1), (2, aI a2), (3, .one (.ptr 3 0))]) (L' := [(3, .one (.pair tI (.pair tI (.slice (.slice (.pair tI (.pair tI tI)))))) a0)]) (obs := []) (by kernel_rfl) (by kernel_rfl) (by kernel_rfl) allP0 ?_
  refine seqQ_norm ?_
  refine W_seq (by kernel_rfl) ?_
  refine W_region (by kernel_rfl) ?_
  refine WO_run (j := 3) (k := 3) (orcs := []) (kF := [1, 2, 3, 14, 15, 16]) (kL := [3]) (fr' := [(1, aD (.slice tI) a1), (2, aI a2), (3, .one (.ptr 3 0)), (14, aD (.pair tI (.pair tI (.slice (.slice (.pair tI (.pair tI tI)))))) a0), (15, aD (.slice tI) a1), (16, aI a2)]) (L' := [(3, .one (.pair tI (.pair tI (.slice (.slice (.pair tI (.pair tI tI)))))) a0)]) (obs := []) rfl (by kernel_rfl) allP0 ?_
  obtain ⟨r1, h2, h⟩ := bind_of h
  refine WO_call0 (us := [none, none, none]) (d := 17) (p := True) (j := 4) rfl ⟨by kernel_rfl, by kernel_rfl, by kernel_rfl⟩ trivial (cross_All_ok h2) (by kernel_rfl) ?_
  refine WO_run (j := 9) (k := 5) (orcs := []) (kF := [1, 2, 3, 7, 8]) (kL := [3]) (fr' := [(1, aD (.slice tI) a1), (2, aI a2), (3, .one (.ptr 3 0)), (7, aD (.slice (.slice tI)) r1.1), (8, aI r1.2)]) (L' := [(3, .one (.pair tI (.pair tI (.slice (.slice (.pair tI (.pair tI tI)))))) a0)]) (obs := []) rfl (by kernel_rfl) allP0 ?_
  refine WO_fin [1, 2, 3, 7, 8] [3] (fr' := [(1, aD (.slice tI) a1), (2, aI a2), (3, .one (.ptr 3 0)), (7, aD (.slice (.slice tI)) r1.1), (8, aI r1.2)]) (L' := [(3, .one (.pair tI (.pair tI (.slice (.slice (.pair tI (.pair tI tI)))))) a0)]) (by kernel_rfl) (by kernel_rfl) ?_
  refine seqQ_norm ?_
  refine W_seq (by kernel_rfl) ?_
  refine W_region (by kernel_rfl) ?_
  refine WO_run (j := 3) (k := 3) (orcs := []) (kF := [1, 2, 3, 7, 8, 20, 21, 22]) (kL := [3]) (fr' := [(1, aD (.slice tI) a1), (2, aI a2), (3, .one (.ptr 3 0)), (7, aD (.slice (.slice tI)) r1.1), (8, aI r1.2), (20, aD (.pair tI (.pair tI (.slice (.slice (.pair tI (.pair tI tI)))))) a0), (21, aD (.slice tI) a1), (22, aI a2)]) (L' := [(3, .one (.pair tI (.pair tI (.slice (.slice (.pair tI (.pair tI tI)))))) a0)]) (obs := []) rfl (by kernel_rfl) allP0 ?_
  obtain ⟨r3, h4, h⟩ := bind_of h
  refine WO_call0 (us := [none, none, none]) (d := 23) (p := True) (j := 4) rfl ⟨by kernel_rfl, by kernel_rfl, by kernel_rfl⟩ trivial (ref_RunCheck_ok h4) (by kernel_rfl) ?_
  refine WO_run (j := 5) (k := 1) (orcs := []) (kF := [1, 2, 3, 7, 8, 9]) (kL := [3]) (fr' := [(1, aD (.slice tI) a1), (2, aI a2), (3, .one (.ptr 3 0)), (7, aD (.slice (.slice tI)) r1.1), (8, aI r1.2), (9, aI r3)]) (L' := [(3, .one (.pair tI (.pair tI (.slice (.slice (.pair tI (.pair tI tI)))))) a0)]) (obs := []) rfl (by kernel_rfl) allP0 ?_
  refine WO_fin [1, 2, 3, 7, 8, 9] [3] (fr' := [(1, aD (.slice tI) a1), (2, aI a2), (3, .one (.ptr 3 0)), (7, aD (.slice (.slice tI)) r1.1), (8, aI r1.2), (9, aI r3)]) (L' := [(3, .one (.pair tI (.pair tI (.slice (.slice (.pair tI (.pair tI tI)))))) a0)]) (by kernel_rfl) (by kernel_rfl) ?_
  refine seqQ_norm ?_
  refine W_seq (by kernel_rfl) ?_
  refine W_seq (by kernel_rfl) ?_
  refine W_run 2 [] [1, 2, 3, 7, 8, 9, 25] [3] (fr' := [(1, aD (.slice tI) a1), (2, aI a2), (3, .one (.ptr 3 0)), (7, aD (.slice (.slice tI)) r1.1), (8, aI r1.2), (9, aI r3), (25, aB (r3 != (0 : Int)))]) (L' := [(3, .one (.pair tI (.pair tI (.slice (.slice (.pair tI (.pair tI tI)))))) a0)]) (obs := []) (by kernel_rfl) (by kernel_rfl) (by kernel_rfl) allP0 ?_
  refine seqQ_norm ?_
  refine W_cond (o := .tmp 25) (b := r3 != (0 : Int)) (by kernel_rfl) (by kernel_rfl) (fun h5 => ?_) (fun h5 => ?_)
  · replace h := ofT h5 h
    refine W_seq (by kernel_rfl) ?_
    refine W_run 9 [] [6] [] (fr' := [(6, aB ((r1.2 == r3) && ((List.length r1.1 : Int) == (0 : Int))))]) (L' := []) (obs := []) (by kernel_rfl) (by kernel_rfl) (by kernel_rfl) allP0 ?_
    refine seqQ_norm ?_
    obtain rfl := Option.some.inj h
    refine W_ret [6] [] (fr' := [(6, aB ((r1.2 == r3) && ((List.length r1.1 : Int) == (0 : Int))))]) (L' := []) (by kernel_rfl) (by kernel_rfl) ?_
    refine seqQ_ret ?_
    exact retQ_mk (by kernel_rfl) (by kernel_rfl) (by kernel_rfl)
  · replace h := ofF h5 h
    refine W_skip [1, 2, 3, 7, 8] [3] (fr' := [(1, aD (.slice tI) a1), (2, aI a2), (3, .one (.ptr 3 0)), (7, aD (.slice (.slice tI)) r1.1), (8, aI r1.2)]) (L' := [(3, .one (.pair tI (.pair tI (.slice (.slice (.pair tI (.pair tI tI)))))) a0)]) (by kernel_rfl) (by kernel_rfl) ?_
    refine seqQ_norm ?_
    refine W_seq (by kernel_rfl) ?_
    obtain ⟨r8, h9, h⟩ := bind_of h
    obtain ⟨r10, h11, h⟩ := bind_of h
    refine W_drawC5 6 [(2, [600], [(600, .seq (.pair tI tI) r8.2.2)]), (4, [600, 601, 602], [(600, .seq (.pair tI tI) r10.2.2.2.1), (601, .seq tI r10.2.2.2.2.1), (602, .seq tI r10.2.2.2.2.2)])] [(5, 10, .one (.pair (.slice (.pair tI tI)) (.pair tI (.pair tI (.pair tI (.pair (.slice tI) (.slice tI)))))) ([], (0 : Int), (0 : Int), (0 : Int), [], []))] [(2, .agg [.slc 600, .dat tI r8.1, .dat tI r8.2.1, .dat tI (0 : Int), .nilS, .nilS]), (4, .agg [.slc 600, .dat tI r10.1, .dat tI r10.2.1, .dat tI r10.2.2.1, .slc 601, .slc 602]), (5, .one (.ptr 10 0))] [] [] [1, 7, 8, 10, 38] [3, 10, 600, 601, 602] (out := [(34, aD (.pair tI (.pair tI (.slice (.slice (.pair tI (.pair tI tI)))))) a0), (35, aD (.slice tI) a1), (36, .agg [.slc 600, .dat tI r8.1, .dat tI r8.2.1, .dat tI (0 : Int), .nilS, .nilS]), (37, aI a2), (38, .agg [.slc 600, .dat tI r10.1, .dat tI r10.2.1, .dat tI r10.2.2.1, .slc 601, .slc 602]), (10, .one (.ptr 10 0))]) (obs := []) (calls := []) (fr' := [(1, aD (.slice tI) a1), (7, aD (.slice (.slice tI)) r1.1), (8, aI r1.2), (10, .one (.ptr 10 0)), (38, .agg [.slc 600, .dat tI r10.1, .dat tI r10.2.1, .dat tI r10.2.2.1, .slc 601, .slc 602])]) (L' := [(3, .one (.pair tI (.pair tI (.slice (.slice (.pair tI (.pair tI tI)))))) a0), (10, .one (.pair (.slice (.pair tI tI)) (.pair tI (.pair tI (.pair tI (.pair (.slice tI) (.slice tI)))))) ([], (0 : Int), (0 : Int), (0 : Int), [], [])), (600, .seq (.pair tI tI) r10.2.2.2.1), (601, .seq tI r10.2.2.2.2.1), (602, .seq tI r10.2.2.2.2.2)]) (by kernel_rfl) (by kernel_rfl) (by kernel_rfl) (by kernel_rfl) (by kernel_rfl) allP0 allD0 (chLend3 (us := [none, none, none, none]) (d := 36) (p := True) [(30, 600)] [30] ⟨by kernel_rfl, by kernel_rfl, by kernel_rfl⟩ trivial (ref_Start_ok h9) (by kernel_rfl) (by kernel_rfl) (by kernel_rfl) (by kernel_rfl) (by kernel_rfl) (chLend3 (us := [none, none, none]) (d := 38) (p := True) [(2000, 600), (47, 601), (63, 602)] [47, 63] ⟨by kernel_rfl, by kernel_rfl, by kernel_rfl⟩ trivial (ref_Steps_ok h11) (by kernel_rfl) (by kernel_rfl) (by kernel_rfl) (by kernel_rfl) (by kernel_rfl) chNil)) (mkDo (ty := true) (av := .one (.ptr 10 0)) (p := True) (by kernel_rfl) trivial (by kernel_rfl) mkNil) (by kernel_rfl) ?_
    refine WO_frz 600 (by kernel_rfl) ?_
    refine WO_frz 601 (by kernel_rfl) ?_
    refine WO_frz 602 (by kernel_rfl) ?_
    refine WO_run (j := 7) (k := 1) (orcs := []) (kF := [1, 7, 8, 10]) (kL := [3, 10]) (fr' := [(1, aD (.slice tI) a1), (7, aD (.slice (.slice tI)) r1.1), (8, aI r1.2), (10, .one (.ptr 10 0))]) (L' := [(3, .one (.pair tI (.pair tI (.slice (.slice (.pair tI (.pair tI tI)))))) a0), (10, .one (.pair (.slice (.pair tI tI)) (.pair tI (.pair tI (.pair tI (.pair (.slice tI) (.slice tI)))))) (r10.2.2.2.1, r10.1, r10.2.1, r10.2.2.1, r10.2.2.2.2.1, r10.2.2.2.2.2))]) (obs := [True]) rfl (by kernel_rfl) (allP1 trivial) ?_
    refine WO_fin [1, 7, 8, 10] [10] (fr' := [(1, aD (.slice tI) a1), (7, aD (.slice (.slice tI)) r1.1), (8, aI r1.2), (10, .one (.ptr 10 0))]) (L' := [(10, .one (.pair (.slice (.pair tI tI)) (.pair tI (.pair tI (.pair tI (.pair (.slice tI) (.slice tI)))))) (r10.2.2.2.1, r10.1, r10.2.1, r10.2.2.1, r10.2.2.2.2.1, r10.2.2.2.2.2))]) (by kernel_rfl) (by kernel_rfl) ?_
    refine ⟨rfl, ?_⟩
    refine seqQ_norm ?_
    refine W_seq (by kernel_rfl) ?_
    refine W_run 1 [] [1, 7, 8, 10, 11] [10] (fr' := [(1, aD (.slice tI) a1), (7, aD (.slice (.slice tI)) r1.1), (8, aI r1.2), (10, .one (.ptr 10 0)), (11, .one (.nilS))]) (L' := [(10, .one (.pair (.slice (.pair tI tI)) (.pair tI (.pair tI (.pair tI (.pair (.slice tI) (.slice tI)))))) (r10.2.2.2.1, r10.1, r10.2.1, r10.2.2.1, r10.2.2.2.2.1, r10.2.2.2.2.2))]) (obs := []) (by kernel_rfl) (by kernel_rfl) (by kernel_rfl) allP0 ?_
    refine seqQ_norm ?_
    refine W_seq (by kernel_rfl) ?_
    refine W_seq (by kernel_rfl) ?_
    refine W_run 1 [] [1, 7, 8, 10, 11, 12] [10] (fr' := [(1, aD (.slice tI) a1), (7, aD (.slice (.slice tI)) r1.1), (8, aI r1.2), (10, .one (.ptr 10 0)), (11, .one (.nilS)), (12, aI (0 : Int))]) (L' := [(10, .one (.pair (.slice (.pair tI tI)) (.pair tI (.pair tI (.pair tI (.pair (.slice tI) (.slice tI)))))) (r10.2.2.2.1, r10.1, r10.2.1, r10.2.2.1, r10.2.2.2.2.1, r10.2.2.2.2.2))]) (obs := []) (by kernel_rfl) (by kernel_rfl) (by kernel_rfl) allP0 ?_
    refine seqQ_norm ?_
    refine W_block (id := 0) (by kernel_rfl) ?_
    obtain ⟨v25, h26, h⟩ := bind_of h
    refine W_mine 11 50 (.slice tI) (by kernel_rfl) ?_
    refine W_weaken [1, 7, 8, 10, 11, 12] [10, 50] (fr' := ((law_CrossAlls_s2 a1 r1 r10) ((0 : Int), [])).1) (L' := ((law_CrossAlls_s2 a1 r1 r10) ((0 : Int), [])).2) (by kernel_rfl) ?_
    refine W_cutK (W_loop (S := (law_CrossAlls_s2 a1 r1 r10)) (J := (exQ (.exit 0) (law_CrossAlls_s3 r1))) (by kernel_rfl) ?_ fuel _ v25 h26) ?_
    · rintro x16 s h
      refine W_seq (by kernel_rfl) ?_
      refine W_seq (by kernel_rfl) ?_
      refine W_run 4 [] [1, 7, 8, 10, 11, 12, 42] [10, 50] (fr' := [(1, aD (.slice tI) a1), (7, aD (.slice (.slice tI)) r1.1), (8, aI r1.2), (10, .one (.ptr 10 0)), (11, .one (.slc 50)), (12, aI x16.1), (42, aB (decide (x16.1 ≤ (List.length a1 : Int))))]) (L' := [(10, .one (.pair (.slice (.pair tI tI)) (.pair tI (.pair tI (.pair tI (.pair (.slice tI) (.slice tI)))))) (r10.2.2.2.1, r10.1, r10.2.1, r10.2.2.1, r10.2.2.2.2.1, r10.2.2.2.2.2)), (50, .seq (.slice tI) x16.2)]) (obs := []) (by kernel_rfl) (by kernel_rfl) (by kernel_rfl) allP0 ?_
      refine seqQ_norm ?_
      refine W_cond (o := .tmp 42) (b := decide (x16.1 ≤ (List.length a1 : Int))) (by kernel_rfl) (by kernel_rfl) (fun h21 => ?_) (fun h21 => ?_)
      · replace h := ofT h21 h
        refine W_skip [1, 7, 8, 10, 11, 12] [10, 50] (fr' := [(1, aD (.slice tI) a1), (7, aD (.slice (.slice tI)) r1.1), (8, aI r1.2), (10, .one (.ptr 10 0)), (11, .one (.slc 50)), (12, aI x16.1)]) (L' := [(10, .one (.pair (.slice (.pair tI tI)) (.pair tI (.pair tI (.pair tI (.pair (.slice tI) (.slice tI)))))) (r10.2.2.2.1, r10.1, r10.2.1, r10.2.2.1, r10.2.2.2.2.1, r10.2.2.2.2.2)), (50, .seq (.slice tI) x16.2)]) (by kernel_rfl) (by kernel_rfl) ?_
        refine seqQ_norm ?_
        refine W_seq (by kernel_rfl) ?_
        refine W_block (id := 1) (by kernel_rfl) ?_
        refine W_region (by kernel_rfl) ?_
        refine WO_run (j := 3) (k := 3) (orcs := []) (kF := [1, 7, 8, 10, 11, 12, 45, 46, 47]) (kL := [10, 50]) (fr' := [(1, aD (.slice tI) a1), (7, aD (.slice (.slice tI)) r1.1), (8, aI r1.2), (10, .one (.ptr 10 0)), (11, .one (.slc 50)), (12, aI x16.1), (45, .one (.slc 50)), (46, aD (.pair (.slice (.pair tI tI)) (.pair tI (.pair tI (.pair tI (.pair (.slice tI) (.slice tI)))))) (r10.2.2.2.1, r10.1, r10.2.1, r10.2.2.1, r10.2.2.2.2.1, r10.2.2.2.2.2)), (47, aI x16.1)]) (L' := [(10, .one (.pair (.slice (.pair tI tI)) (.pair tI (.pair tI (.pair tI (.pair (.slice tI) (.slice tI)))))) (r10.2.2.2.1, r10.1, r10.2.1, r10.2.2.1, r10.2.2.2.2.1, r10.2.2.2.2.2)), (50, .seq (.slice tI) x16.2)]) (obs := []) rfl (by kernel_rfl) allP0 ?_
        obtain ⟨r22, h23, h⟩ := bind_of h
        refine WO_call0 (us := [none, none]) (d := 48) (p := True) (j := 4) rfl ⟨by kernel_rfl, by kernel_rfl, by kernel_rfl⟩ trivial (ref_Over_ok h23) (by kernel_rfl) ?_
        obtain ⟨_, h24, h⟩ := bind_of h
        replace h24 := ck_some h24
        refine WO_run (j := 7) (k := 3) (orcs := []) (kF := [1, 7, 8, 10, 11, 12]) (kL := [10, 49, 50]) (fr' := [(1, aD (.slice tI) a1), (7, aD (.slice (.slice tI)) r1.1), (8, aI r1.2), (10, .one (.ptr 10 0)), (11, .one (.slc 50)), (12, aI x16.1)]) (L' := [(10, .one (.pair (.slice (.pair tI tI)) (.pair tI (.pair tI (.pair tI (.pair (.slice tI) (.slice tI)))))) (r10.2.2.2.1, r10.1, r10.2.1, r10.2.2.1, r10.2.2.2.2.1, r10.2.2.2.2.2)), (49, .seq (.slice tI) [r22]), (50, .seq (.slice tI) (x16.2 ++ [r22]))]) (obs := [SmallLen (List.length x16.2 + List.length [r22])]) rfl (by kernel_rfl) (allP1 h24) ?_
        refine WO_fin [1, 7, 8, 10, 11, 12] [10, 50] (fr' := [(1, aD (.slice tI) a1), (7, aD (.slice (.slice tI)) r1.1), (8, aI r1.2), (10, .one (.ptr 10 0)), (11, .one (.slc 50)), (12, aI x16.1)]) (L' := [(10, .one (.pair (.slice (.pair tI tI)) (.pair tI (.pair tI (.pair tI (.pair (.slice tI) (.slice tI)))))) (r10.2.2.2.1, r10.1, r10.2.1, r10.2.2.1, r10.2.2.2.2.1, r10.2.2.2.2.2)), (50, .seq (.slice tI) (x16.2 ++ [r22]))]) (by kernel_rfl) (by kernel_rfl) ?_
        refine blockQ_norm ?_
        refine seqQ_norm ?_
        obtain rfl := Option.some.inj h
        refine W_run 3 [] [1, 7, 8, 10, 11, 12] [10, 50] (fr' := [(1, aD (.slice tI) a1), (7, aD (.slice (.slice tI)) r1.1), (8, aI r1.2), (10, .one (.ptr 10 0)), (11, .one (.slc 50)), (12, aI (w64 (x16.1 + (1 : Int))))]) (L' := [(10, .one (.pair (.slice (.pair tI tI)) (.pair tI (.pair tI (.pair tI (.pair (.slice tI) (.slice tI)))))) (r10.2.2.2.1, r10.1, r10.2.1, r10.2.2.1, r10.2.2.2.2.1, r10.2.2.2.2.2)), (50, .seq (.slice tI) (x16.2 ++ [r22]))]) (obs := []) (by kernel_rfl) (by kernel_rfl) (by kernel_rfl) allP0 ?_
        exact round_next' (by kernel_rfl) (by kernel_rfl)
      · replace h := ofF h21 h
        obtain rfl := Option.some.inj h
        refine W_exit (id := 0) [7, 8, 11] [50] (fr' := [(7, aD (.slice (.slice tI)) r1.1), (8, aI r1.2), (11, .one (.slc 50))]) (L' := [(50, .seq (.slice tI) x16.2)]) (by kernel_rfl) (by kernel_rfl) ?_
        refine seqQ_exit ?_
        refine round_exit ?_
        exact exQ_mk (by kernel_rfl) (by kernel_rfl)
    · intro e fr L hJ
      obtain ⟨rfl, rfl, rfl⟩ := hJ
      refine LT_keep [7, 8, 11] [50] (fr' := [(7, aD (.slice (.slice tI)) r1.1), (8, aI r1.2), (11, .one (.slc 50))]) (L' := [(50, .seq (.slice tI) v25)]) (by kernel_rfl) ?_
      refine blockQ_hit ?_
      refine seqQ_norm ?_
      refine W_seq (by kernel_rfl) ?_
      obtain ⟨v38, h39, h⟩ := bind_of h
      refine W_cutK (Q' := (exQ .normal law_CrossAlls_s4) v38) ?_ ?_
      · replace h := h39
        refine W_region (by kernel_rfl) ?_
        refine WO_run (j := 3) (k := 3) (orcs := []) (kF := [7, 11, 53]) (kL := [50]) (fr' := [(7, aD (.slice (.slice tI)) r1.1), (11, .one (.slc 50)), (53, aB (r1.2 == (0 : Int)))]) (L' := [(50, .seq (.slice tI) v25)]) (obs := []) rfl (by kernel_rfl) allP0 ?_
        rcases Bool.eq_false_or_eq_true (r1.2 == (0 : Int)) with h35 | h35
        · replace h := ofT h35 h
          refine WO_run (j := 5) (k := 2) (orcs := [(6, .known true), (8, .known true)]) (kF := [53, 54, 55]) (kL := [50]) (fr' := [(53, aB (r1.2 == (0 : Int))), (54, aD (.slice (.slice tI)) r1.1), (55, .one (.slc 50))]) (L' := [(50, .seq (.slice tI) v25)]) (obs := [((r1.2 == (0 : Int)) = true), ((r1.2 == (0 : Int)) = true)]) rfl (by kernel_rfl) (allP2 h35 (allP1 h35)) ?_
          obtain ⟨r36, h37, h⟩ := bind_of h
          refine WO_frz 50 (by kernel_rfl) ?_
          refine WO_call0 (us := [none, none]) (d := 56) (p := ((r1.2 == (0 : Int)) = true)) (j := 6) rfl ⟨by kernel_rfl, by kernel_rfl, by kernel_rfl⟩ h35 (ref_Lists_ok h37) (by kernel_rfl) ?_
          refine WO_run (j := 8) (k := 2) (orcs := [(13, .val (.dat .bool true))]) (kF := [6]) (kL := []) (fr' := [(6, aB r36)]) (L' := []) (obs := [((r1.2 == (0 : Int)) = true)]) rfl (by kernel_rfl) (allP1 h35) ?_
          obtain rfl := Option.some.inj h
          refine WO_fin [6] [] (fr' := [(6, aB r36)]) (L' := []) (by kernel_rfl) (by kernel_rfl) ?_
          exact exQ_mk (by kernel_rfl) (by kernel_rfl)
        · replace h := ofF h35 h
          refine WO_run (j := 8) (k := 5) (orcs := [(6, .known false), (8, .known false), (10, .known false), (13, .val (.dat .bool false))]) (kF := [6]) (kL := [50]) (fr' := [(6, aB false)]) (L' := [(50, .seq (.slice tI) v25)]) (obs := [((r1.2 == (0 : Int)) = false), ((r1.2 == (0 : Int)) = false), ((r1.2 == (0 : Int)) = false), ((r1.2 == (0 : Int)) = false)]) rfl (by kernel_rfl) (allP2 h35 (allP2 h35 (allP2 h35 (allP1 h35)))) ?_
          obtain rfl := Option.some.inj h
          refine WO_fin [6] [] (fr' := [(6, aB false)]) (L' := []) (by kernel_rfl) (by kernel_rfl) ?_
          exact exQ_mk (by kernel_rfl) (by kernel_rfl)
      · intro e fr L hJ
        obtain ⟨rfl, rfl, rfl⟩ := hJ
        refine LT_keep [6] [] (fr' := [(6, aB v38)]) (L' := []) (by kernel_rfl) ?_
        refine seqQ_norm ?_
        obtain rfl := Option.some.inj h
        refine W_ret [6] [] (fr' := [(6, aB v38)]) (L' := []) (by kernel_rfl) (by kernel_rfl) ?_
        exact retQ_mk (by kernel_rfl) (by kernel_rfl) (by kernel_rfl)
end Go.Proofs.Ytnblafiefaalgaa.crossAlls
