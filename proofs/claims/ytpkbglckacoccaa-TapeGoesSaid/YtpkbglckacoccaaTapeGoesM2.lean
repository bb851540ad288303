/- What the functions that TapeGoes calls compute, as models, and that they compute it: written by a program of mine. -/
import Derived.Test.YtpkbglckacoccaaProg
import Derived.Test.YtpkbglckacoccaaTapeGoesM1
set_option linter.all false
set_option maxRecDepth 100000
namespace Go.Proofs.Ytpkbglckacoccaa.tapeGoes
open Go Go.Sl
@[reducible] def ref_Steps_s9 (a0 : (Int × (Int × (List (List (Int × (Int × Int))))))) (a2 : Int) (x64 : (Int × Int × Int × (List (Int × Int)) × (List Int) × (List Int))) (v : Bool) : Fr × LL := ([(2, aI a2), (3, .one (.ptr 3 0)), (4, .one (.ptr 4 0)), (6, .one (.ptr 6 0)), (18, aB v)], [(4, .cells [.slc 2000, .dat tI x64.1, .dat tI x64.2.1, .dat tI x64.2.2.1, .slc 47, .slc 63]), (6, .cells [.nilS, .dat tI (0 : Int), .dat tI (0 : Int), .dat tI (0 : Int), .nilS, .nilS]), (3, .one (.pair tI (.pair tI (.slice (.slice (.pair tI (.pair tI tI)))))) a0), (2000, .seq (.pair tI tI) x64.2.2.2.1), (47, .seq tI x64.2.2.2.2.1), (63, .seq tI x64.2.2.2.2.2)])
noncomputable def ref_Steps_b10 (a0 : (Int × (Int × (List (List (Int × (Int × Int))))))) (a2 : Int) (x64 : (Int × Int × Int × (List (Int × Int)) × (List Int) × (List Int))) : Option (Flow (Int × Int × Int × (List (Int × Int)) × (List Int) × (List Int)) (Int × Int × Int × (List (Int × Int)) × (List Int) × (List Int))) :=
(bif decide (x64.2.2.1 < a2) then
(some (decide (x64.2.1 < a0.1)))
else
(some false)).bind fun v83 =>
bif v83 then
((idx a0.2.2 x64.2.1).bind fun v86 =>
(ref_Sign x64.1 x64.2.2.2.1).bind fun r88 =>
(idx v86 r88).bind fun v90 =>
(ck ((List.length x64.2.2.2.1 : Int) + 1 ≤ 4294967296)).bind fun _ =>
(ck ((List.length x64.2.2.2.2.1 : Int) + 1 ≤ 4294967296)).bind fun _ =>
(ck ((List.length x64.2.2.2.2.2 : Int) + 1 ≤ 4294967296)).bind fun _ =>
some (.next (w64 (x64.1 + v90.2.1), v90.2.2, w64 (x64.2.2.1 + (1 : Int)), x64.2.2.2.1 ++ [(x64.1, v90.1)], x64.2.2.2.2.1 ++ [x64.1], x64.2.2.2.2.2 ++ [v90.2.2])))
else
(some (.done (x64.1, x64.2.1, x64.2.2.1, x64.2.2.2.1, x64.2.2.2.2.1, x64.2.2.2.2.2)))
@[reducible] def ref_Steps_s11 (a0 : (Int × (Int × (List (List (Int × (Int × Int))))))) (a2 : Int) (v : (Int × Int × Int × (List (Int × Int)) × (List Int) × (List Int))) : Fr × LL := ([(2, aI a2), (3, .one (.ptr 3 0)), (4, .one (.ptr 4 0)), (6, .one (.ptr 6 0))], [(4, .cells [.slc 2000, .dat tI v.1, .dat tI v.2.1, .dat tI v.2.2.1, .slc 47, .slc 63]), (6, .cells [.nilS, .dat tI (0 : Int), .dat tI (0 : Int), .dat tI (0 : Int), .nilS, .nilS]), (3, .one (.pair tI (.pair tI (.slice (.slice (.pair tI (.pair tI tI)))))) a0), (2000, .seq (.pair tI tI) v.2.2.2.1), (47, .seq tI v.2.2.2.2.1), (63, .seq tI v.2.2.2.2.2)])
@[reducible] def ref_Steps_s12 (v : (Int × Int × Int × (List (Int × Int)) × (List Int) × (List Int))) : Fr × LL := ([(4, .one (.ptr 4 0)), (6, .one (.ptr 6 0))], [(4, .cells [.slc 2000, .dat tI v.1, .dat tI v.2.1, .dat tI v.2.2.1, .slc 47, .slc 63]), (6, .cells [.nilS, .dat tI (0 : Int), .dat tI (0 : Int), .dat tI (0 : Int), .nilS, .nilS]), (2000, .seq (.pair tI tI) v.2.2.2.1), (47, .seq tI v.2.2.2.2.1), (63, .seq tI v.2.2.2.2.2)])
noncomputable def ref_Steps (fuel : Nat) (a0 : (Int × (Int × (List (List (Int × (Int × Int))))))) (a1_1 : Int) (a1_2 : Int) (a1_3 : Int) (a2 : Int) (c0 : (List (Int × Int))) : Option (Int × Int × Int × (List (Int × Int)) × (List Int) × (List Int)) :=
(iter (ref_Steps_b10 a0 a2) fuel (a1_1, a1_2, a1_3, c0, [], [])).bind fun v95 =>
some (v95.1, v95.2.1, v95.2.2.1, v95.2.2.2.1, v95.2.2.2.2.1, v95.2.2.2.2.2)
theorem ref_Steps_ok {fuel : Nat} {a0 : (Int × (Int × (List (List (Int × (Int × Int))))))} {a1_1 : Int} {a1_2 : Int} {a1_3 : Int} {a2 : Int} {c0 : (List (Int × Int))} {r : (Int × Int × Int × (List (Int × Int)) × (List Int) × (List Int))} (h : ref_Steps fuel a0 a1_1 a1_2 a1_3 a2 c0 = some r) : FnC Try.prog 29 [aD (.pair tI (.pair tI (.slice (.slice (.pair tI (.pair tI tI)))))) a0, .agg [.slc 2000, .dat tI a1_1, .dat tI a1_2, .dat tI a1_3, .nilS, .nilS], aI a2] [(2000, .seq (.pair tI tI) c0)] (.agg [.slc 2000, .dat tI r.1, .dat tI r.2.1, .dat tI r.2.2.1, .slc 47, .slc 63]) [(2000, .seq (.pair tI tI) r.2.2.2.1), (47, .seq tI r.2.2.2.2.1), (63, .seq tI r.2.2.2.2.2)] := by
  refine fnC_of_W (B := bodyOf Try.f29) (n := 70) Try.func29 (by kernel_rfl) (by kernel_rfl) (by kernel_rfl) (by kernel_rfl) (by kernel_rfl) ?_
  intro K
  refine W_seq (by kernel_rfl) ?_
  refine W_run 3 [] [2, 3, 4, 6] [3, 4, 6, 2000] (fr' := [(2, aI a2), (3, .one (.ptr 3 0)), (4, .one (.ptr 4 0)), (6, .one (.ptr 6 0))]) (L' := [(3, .one (.pair tI (.pair tI (.slice (.slice (.pair tI (.pair tI tI)))))) a0), (4, .cells [.slc 2000, .dat tI a1_1, .dat tI a1_2, .dat tI a1_3, .nilS, .nilS]), (6, .cells [.nilS, .dat tI (0 : Int), .dat tI (0 : Int), .dat tI (0 : Int), .nilS, .nilS]), (2000, .seq (.pair tI tI) c0)]) (obs := []) (by kernel_rfl) (by kernel_rfl) (by kernel_rfl) allP0 ?_
  refine seqQ_norm ?_
  refine W_seq (by kernel_rfl) ?_
  refine W_block (id := 0) (by kernel_rfl) ?_
  obtain ⟨v95, h96, h⟩ := bind_of h
  refine W_cellown 4 4 47 tI (by kernel_rfl) ?_
  refine W_cellown 4 5 63 tI (by kernel_rfl) ?_
  refine W_weaken [2, 3, 4, 6] [4, 6, 3, 2000, 47, 63] (fr' := ((ref_Steps_s11 a0 a2) (a1_1, a1_2, a1_3, c0, [], [])).1) (L' := ((ref_Steps_s11 a0 a2) (a1_1, a1_2, a1_3, c0, [], [])).2) (by kernel_rfl) ?_
  refine W_cutK (W_loop (S := (ref_Steps_s11 a0 a2)) (J := (exQ (.exit 0) ref_Steps_s12)) (by kernel_rfl) ?_ fuel _ v95 h96) ?_
  · rintro x64 s h
    refine W_seq (by kernel_rfl) ?_
    refine W_seq (by kernel_rfl) ?_
    obtain ⟨v83, h84, h⟩ := bind_of h
    refine W_cutK (Q' := (exQ .normal (ref_Steps_s9 a0 a2 x64)) v83) ?_ ?_
    · replace h := h84
      refine W_region (by kernel_rfl) ?_
      refine WO_run (j := 5) (k := 5) (orcs := []) (kF := [2, 3, 4, 6, 12]) (kL := [3, 4, 6, 47, 63, 2000]) (fr' := [(2, aI a2), (3, .one (.ptr 3 0)), (4, .one (.ptr 4 0)), (6, .one (.ptr 6 0)), (12, aB (decide (x64.2.2.1 < a2)))]) (L' := [(3, .one (.pair tI (.pair tI (.slice (.slice (.pair tI (.pair tI tI)))))) a0), (4, .cells [.slc 2000, .dat tI x64.1, .dat tI x64.2.1, .dat tI x64.2.2.1, .slc 47, .slc 63]), (6, .cells [.nilS, .dat tI (0 : Int), .dat tI (0 : Int), .dat tI (0 : Int), .nilS, .nilS]), (47, .seq tI x64.2.2.2.2.1), (63, .seq tI x64.2.2.2.2.2), (2000, .seq (.pair tI tI) x64.2.2.2.1)]) (obs := []) rfl (by kernel_rfl) allP0 ?_
      rcases Bool.eq_false_or_eq_true (decide (x64.2.2.1 < a2)) with h82 | h82
      · replace h := ofT h82 h
        refine WO_run (j := 11) (k := 6) (orcs := [(10, .known true), (12, .known true), (14, .known true), (16, .known true), (18, .known true), (21, .val (.dat .bool true))]) (kF := [2, 3, 4, 6, 18]) (kL := [3, 4, 6, 47, 63, 2000]) (fr' := [(2, aI a2), (3, .one (.ptr 3 0)), (4, .one (.ptr 4 0)), (6, .one (.ptr 6 0)), (18, aB (decide (x64.2.1 < a0.1)))]) (L' := [(3, .one (.pair tI (.pair tI (.slice (.slice (.pair tI (.pair tI tI)))))) a0), (4, .cells [.slc 2000, .dat tI x64.1, .dat tI x64.2.1, .dat tI x64.2.2.1, .slc 47, .slc 63]), (6, .cells [.nilS, .dat tI (0 : Int), .dat tI (0 : Int), .dat tI (0 : Int), .nilS, .nilS]), (47, .seq tI x64.2.2.2.2.1), (63, .seq tI x64.2.2.2.2.2), (2000, .seq (.pair tI tI) x64.2.2.2.1)]) (obs := [((decide (x64.2.2.1 < a2)) = true), ((decide (x64.2.2.1 < a2)) = true), ((decide (x64.2.2.1 < a2)) = true), ((decide (x64.2.2.1 < a2)) = true), ((decide (x64.2.2.1 < a2)) = true), ((decide (x64.2.2.1 < a2)) = true)]) rfl (by kernel_rfl) (allP2 h82 (allP2 h82 (allP2 h82 (allP2 h82 (allP2 h82 (allP1 h82)))))) ?_
        obtain rfl := Option.some.inj h
        refine WO_fin [2, 3, 4, 6, 18] [4, 6, 3, 2000, 47, 63] (fr' := [(2, aI a2), (3, .one (.ptr 3 0)), (4, .one (.ptr 4 0)), (6, .one (.ptr 6 0)), (18, aB (decide (x64.2.1 < a0.1)))]) (L' := [(4, .cells [.slc 2000, .dat tI x64.1, .dat tI x64.2.1, .dat tI x64.2.2.1, .slc 47, .slc 63]), (6, .cells [.nilS, .dat tI (0 : Int), .dat tI (0 : Int), .dat tI (0 : Int), .nilS, .nilS]), (3, .one (.pair tI (.pair tI (.slice (.slice (.pair tI (.pair tI tI)))))) a0), (2000, .seq (.pair tI tI) x64.2.2.2.1), (47, .seq tI x64.2.2.2.2.1), (63, .seq tI x64.2.2.2.2.2)]) (by kernel_rfl) (by kernel_rfl) ?_
        exact exQ_mk (by kernel_rfl) (by kernel_rfl)
      · replace h := ofF h82 h
        refine WO_run (j := 11) (k := 6) (orcs := [(10, .known false), (12, .known false), (14, .known false), (16, .known false), (18, .known false), (21, .val (.dat .bool false))]) (kF := [2, 3, 4, 6, 18]) (kL := [3, 4, 6, 47, 63, 2000]) (fr' := [(2, aI a2), (3, .one (.ptr 3 0)), (4, .one (.ptr 4 0)), (6, .one (.ptr 6 0)), (18, aB false)]) (L' := [(3, .one (.pair tI (.pair tI (.slice (.slice (.pair tI (.pair tI tI)))))) a0), (4, .cells [.slc 2000, .dat tI x64.1, .dat tI x64.2.1, .dat tI x64.2.2.1, .slc 47, .slc 63]), (6, .cells [.nilS, .dat tI (0 : Int), .dat tI (0 : Int), .dat tI (0 : Int), .nilS, .nilS]), (47, .seq tI x64.2.2.2.2.1), (63, .seq tI x64.2.2.2.2.2), (2000, .seq (.pair tI tI) x64.2.2.2.1)]) (obs := [((decide (x64.2.2.1 < a2)) = false), ((decide (x64.2.2.1 < a2)) = false), ((decide (x64.2.2.1 < a2)) = false), ((decide (x64.2.2.1 < a2)) = false), ((decide (x64.2.2.1 < a2)) = false), ((decide (x64.2.2.1 < a2)) = false)]) rfl (by kernel_rfl) (allP2 h82 (allP2 h82 (allP2 h82 (allP2 h82 (allP2 h82 (allP1 h82)))))) ?_
        obtain rfl := Option.some.inj h
        refine WO_fin [2, 3, 4, 6, 18] [4, 6, 3, 2000, 47, 63] (fr' := [(2, aI a2), (3, .one (.ptr 3 0)), (4, .one (.ptr 4 0)), (6, .one (.ptr 6 0)), (18, aB false)]) (L' := [(4, .cells [.slc 2000, .dat tI x64.1, .dat tI x64.2.1, .dat tI x64.2.2.1, .slc 47, .slc 63]), (6, .cells [.nilS, .dat tI (0 : Int), .dat tI (0 : Int), .dat tI (0 : Int), .nilS, .nilS]), (3, .one (.pair tI (.pair tI (.slice (.slice (.pair tI (.pair tI tI)))))) a0), (2000, .seq (.pair tI tI) x64.2.2.2.1), (47, .seq tI x64.2.2.2.2.1), (63, .seq tI x64.2.2.2.2.2)]) (by kernel_rfl) (by kernel_rfl) ?_
        exact exQ_mk (by kernel_rfl) (by kernel_rfl)
    · intro e fr L hJ
      obtain ⟨rfl, rfl, rfl⟩ := hJ
      refine LT_keep [2, 3, 4, 6, 18] [3, 4, 6, 2000, 47, 63] (fr' := [(2, aI a2), (3, .one (.ptr 3 0)), (4, .one (.ptr 4 0)), (6, .one (.ptr 6 0)), (18, aB v83)]) (L' := [(3, .one (.pair tI (.pair tI (.slice (.slice (.pair tI (.pair tI tI)))))) a0), (4, .cells [.slc 2000, .dat tI x64.1, .dat tI x64.2.1, .dat tI x64.2.2.1, .slc 47, .slc 63]), (6, .cells [.nilS, .dat tI (0 : Int), .dat tI (0 : Int), .dat tI (0 : Int), .nilS, .nilS]), (2000, .seq (.pair tI tI) x64.2.2.2.1), (47, .seq tI x64.2.2.2.2.1), (63, .seq tI x64.2.2.2.2.2)]) (by kernel_rfl) ?_
      refine seqQ_norm ?_
      refine W_cond (o := .tmp 18) (b := v83) (by kernel_rfl) (by kernel_rfl) (fun h85 => ?_) (fun h85 => ?_)
      · replace h := ofT h85 h
        refine W_skip [2, 3, 4, 6] [3, 4, 6, 2000, 47, 63] (fr' := [(2, aI a2), (3, .one (.ptr 3 0)), (4, .one (.ptr 4 0)), (6, .one (.ptr 6 0))]) (L' := [(3, .one (.pair tI (.pair tI (.slice (.slice (.pair tI (.pair tI tI)))))) a0), (4, .cells [.slc 2000, .dat tI x64.1, .dat tI x64.2.1, .dat tI x64.2.2.1, .slc 47, .slc 63]), (6, .cells [.nilS, .dat tI (0 : Int), .dat tI (0 : Int), .dat tI (0 : Int), .nilS, .nilS]), (2000, .seq (.pair tI tI) x64.2.2.2.1), (47, .seq tI x64.2.2.2.2.1), (63, .seq tI x64.2.2.2.2.2)]) (by kernel_rfl) (by kernel_rfl) ?_
        refine seqQ_norm ?_
        refine W_block (id := 1) (by kernel_rfl) ?_
        refine W_seq (by kernel_rfl) ?_
        obtain ⟨v86, h87, h⟩ := bind_of h
        obtain ⟨r88, h89, h⟩ := bind_of h
        obtain ⟨v90, h91, h⟩ := bind_of h
        refine W_drawC5 14 [] [(13, 7, .cells [.dat tI (0 : Int), .dat tI (0 : Int), .dat tI (0 : Int)])] [(13, .one (.ptr 7 0))] [(9, .val (.dat (.slice (.pair tI (.pair tI tI))) v86)), (23, .val (.dat (.pair tI (.pair tI tI)) v90))] [(10, [none, none], aI r88)] [2, 3, 4, 6, 7, 31] [3, 4, 6, 7, 47, 63, 2000] (out := [(19, .one (.ptr 3 2)), (20, aD (.slice (.slice (.pair tI (.pair tI tI)))) a0.2.2), (21, .one (.ptr 4 2)), (22, aI x64.2.1), (23, .one (.dptr (.slice (.pair tI (.pair tI tI))) v86)), (24, aD (.slice (.pair tI (.pair tI tI))) v86), (25, .one (.ptr 4 0)), (26, .one (.slc 2000)), (27, .one (.ptr 4 1)), (28, aI x64.1), (29, aI r88), (30, .one (.dptr (.pair tI (.pair tI tI)) v90)), (31, aD (.pair tI (.pair tI tI)) v90), (7, .one (.ptr 7 0))]) (obs := [Idx a0.2.2 x64.2.1 v86, True, Idx v86 r88 v90]) (calls := [(61, [.one (.slc 2000), aI x64.1], aI r88)]) (fr' := [(2, aI a2), (3, .one (.ptr 3 0)), (4, .one (.ptr 4 0)), (6, .one (.ptr 6 0)), (7, .one (.ptr 7 0)), (31, aD (.pair tI (.pair tI tI)) v90)]) (L' := [(3, .one (.pair tI (.pair tI (.slice (.slice (.pair tI (.pair tI tI)))))) a0), (4, .cells [.slc 2000, .dat tI x64.1, .dat tI x64.2.1, .dat tI x64.2.2.1, .slc 47, .slc 63]), (6, .cells [.nilS, .dat tI (0 : Int), .dat tI (0 : Int), .dat tI (0 : Int), .nilS, .nilS]), (7, .cells [.dat tI (0 : Int), .dat tI (0 : Int), .dat tI (0 : Int)]), (47, .seq tI x64.2.2.2.2.1), (63, .seq tI x64.2.2.2.2.2), (2000, .seq (.pair tI tI) x64.2.2.2.1)]) (by kernel_rfl) (by kernel_rfl) (by kernel_rfl) (by kernel_rfl) (by kernel_rfl) (allP2 (Idx.of h87) (allP2 trivial (allP1 (Idx.of h91)))) (allD2 [(1000, 2000)] _ _ (by kernel_rfl) (ref_Sign_ok h89) (by kernel_rfl) (by kernel_rfl) (by kernel_rfl) (by kernel_rfl) allD0) chNil (mkDo (ty := false) (av := .one (.ptr 7 0)) (p := True) (by kernel_rfl) trivial (by kernel_rfl) mkNil) (by kernel_rfl) ?_
        refine WO_run (j := 15) (k := 1) (orcs := []) (kF := [2, 3, 4, 6, 7]) (kL := [3, 4, 6, 7, 47, 63, 2000]) (fr' := [(2, aI a2), (3, .one (.ptr 3 0)), (4, .one (.ptr 4 0)), (6, .one (.ptr 6 0)), (7, .one (.ptr 7 0))]) (L' := [(3, .one (.pair tI (.pair tI (.slice (.slice (.pair tI (.pair tI tI)))))) a0), (4, .cells [.slc 2000, .dat tI x64.1, .dat tI x64.2.1, .dat tI x64.2.2.1, .slc 47, .slc 63]), (6, .cells [.nilS, .dat tI (0 : Int), .dat tI (0 : Int), .dat tI (0 : Int), .nilS, .nilS]), (7, .cells [.dat tI v90.1, .dat tI v90.2.1, .dat tI v90.2.2]), (47, .seq tI x64.2.2.2.2.1), (63, .seq tI x64.2.2.2.2.2), (2000, .seq (.pair tI tI) x64.2.2.2.1)]) (obs := [True]) rfl (by kernel_rfl) (allP1 trivial) ?_
        refine WO_fin [2, 3, 4, 6, 7] [3, 4, 6, 7, 2000, 47, 63] (fr' := [(2, aI a2), (3, .one (.ptr 3 0)), (4, .one (.ptr 4 0)), (6, .one (.ptr 6 0)), (7, .one (.ptr 7 0))]) (L' := [(3, .one (.pair tI (.pair tI (.slice (.slice (.pair tI (.pair tI tI)))))) a0), (4, .cells [.slc 2000, .dat tI x64.1, .dat tI x64.2.1, .dat tI x64.2.2.1, .slc 47, .slc 63]), (6, .cells [.nilS, .dat tI (0 : Int), .dat tI (0 : Int), .dat tI (0 : Int), .nilS, .nilS]), (7, .cells [.dat tI v90.1, .dat tI v90.2.1, .dat tI v90.2.2]), (2000, .seq (.pair tI tI) x64.2.2.2.1), (47, .seq tI x64.2.2.2.2.1), (63, .seq tI x64.2.2.2.2.2)]) (by kernel_rfl) (by kernel_rfl) ?_
        refine ⟨rfl, ?_⟩
        refine seqQ_norm ?_
        refine W_seq (by kernel_rfl) ?_
        obtain ⟨_, h92, h⟩ := bind_of h
        replace h92 := ck_some h92
        refine W_run 11 [] [2, 3, 4, 6, 7] [3, 4, 6, 7, 2000, 47, 63] (fr' := [(2, aI a2), (3, .one (.ptr 3 0)), (4, .one (.ptr 4 0)), (6, .one (.ptr 6 0)), (7, .one (.ptr 7 0))]) (L' := [(3, .one (.pair tI (.pair tI (.slice (.slice (.pair tI (.pair tI tI)))))) a0), (4, .cells [.slc 2000, .dat tI x64.1, .dat tI x64.2.1, .dat tI x64.2.2.1, .slc 47, .slc 63]), (6, .cells [.nilS, .dat tI (0 : Int), .dat tI (0 : Int), .dat tI (0 : Int), .nilS, .nilS]), (7, .cells [.dat tI v90.1, .dat tI v90.2.1, .dat tI v90.2.2]), (2000, .seq (.pair tI tI) (x64.2.2.2.1 ++ [(x64.1, v90.1)])), (47, .seq tI x64.2.2.2.2.1), (63, .seq tI x64.2.2.2.2.2)]) (obs := [SmallLen (List.length x64.2.2.2.1 + List.length [(x64.1, v90.1)]), True]) (by kernel_rfl) (by kernel_rfl) (by kernel_rfl) (allP2 h92 (allP1 trivial)) ?_
        refine seqQ_norm ?_
        refine W_seq (by kernel_rfl) ?_
        obtain ⟨_, h93, h⟩ := bind_of h
        replace h93 := ck_some h93
        refine W_run 8 [] [2, 3, 4, 6, 7] [3, 4, 6, 7, 2000, 47, 63] (fr' := [(2, aI a2), (3, .one (.ptr 3 0)), (4, .one (.ptr 4 0)), (6, .one (.ptr 6 0)), (7, .one (.ptr 7 0))]) (L' := [(3, .one (.pair tI (.pair tI (.slice (.slice (.pair tI (.pair tI tI)))))) a0), (4, .cells [.slc 2000, .dat tI x64.1, .dat tI x64.2.1, .dat tI x64.2.2.1, .slc 47, .slc 63]), (6, .cells [.nilS, .dat tI (0 : Int), .dat tI (0 : Int), .dat tI (0 : Int), .nilS, .nilS]), (7, .cells [.dat tI v90.1, .dat tI v90.2.1, .dat tI v90.2.2]), (2000, .seq (.pair tI tI) (x64.2.2.2.1 ++ [(x64.1, v90.1)])), (47, .seq tI (x64.2.2.2.2.1 ++ [x64.1])), (63, .seq tI x64.2.2.2.2.2)]) (obs := [SmallLen (List.length x64.2.2.2.2.1 + List.length [x64.1]), True]) (by kernel_rfl) (by kernel_rfl) (by kernel_rfl) (allP2 h93 (allP1 trivial)) ?_
        refine seqQ_norm ?_
        refine W_seq (by kernel_rfl) ?_
        refine W_run 7 [] [2, 3, 4, 6, 7] [3, 4, 6, 7, 2000, 47, 63] (fr' := [(2, aI a2), (3, .one (.ptr 3 0)), (4, .one (.ptr 4 0)), (6, .one (.ptr 6 0)), (7, .one (.ptr 7 0))]) (L' := [(3, .one (.pair tI (.pair tI (.slice (.slice (.pair tI (.pair tI tI)))))) a0), (4, .cells [.slc 2000, .dat tI (w64 (x64.1 + v90.2.1)), .dat tI x64.2.1, .dat tI x64.2.2.1, .slc 47, .slc 63]), (6, .cells [.nilS, .dat tI (0 : Int), .dat tI (0 : Int), .dat tI (0 : Int), .nilS, .nilS]), (7, .cells [.dat tI v90.1, .dat tI v90.2.1, .dat tI v90.2.2]), (2000, .seq (.pair tI tI) (x64.2.2.2.1 ++ [(x64.1, v90.1)])), (47, .seq tI (x64.2.2.2.2.1 ++ [x64.1])), (63, .seq tI x64.2.2.2.2.2)]) (obs := [True]) (by kernel_rfl) (by kernel_rfl) (by kernel_rfl) (allP1 trivial) ?_
        refine seqQ_norm ?_
        refine W_seq (by kernel_rfl) ?_
        refine W_run 4 [] [2, 3, 4, 6] [3, 4, 6, 2000, 47, 63] (fr' := [(2, aI a2), (3, .one (.ptr 3 0)), (4, .one (.ptr 4 0)), (6, .one (.ptr 6 0))]) (L' := [(3, .one (.pair tI (.pair tI (.slice (.slice (.pair tI (.pair tI tI)))))) a0), (4, .cells [.slc 2000, .dat tI (w64 (x64.1 + v90.2.1)), .dat tI v90.2.2, .dat tI x64.2.2.1, .slc 47, .slc 63]), (6, .cells [.nilS, .dat tI (0 : Int), .dat tI (0 : Int), .dat tI (0 : Int), .nilS, .nilS]), (2000, .seq (.pair tI tI) (x64.2.2.2.1 ++ [(x64.1, v90.1)])), (47, .seq tI (x64.2.2.2.2.1 ++ [x64.1])), (63, .seq tI x64.2.2.2.2.2)]) (obs := [True]) (by kernel_rfl) (by kernel_rfl) (by kernel_rfl) (allP1 trivial) ?_
        refine seqQ_norm ?_
        refine W_seq (by kernel_rfl) ?_
        obtain ⟨_, h94, h⟩ := bind_of h
        replace h94 := ck_some h94
        refine W_run 8 [] [2, 3, 4, 6] [3, 4, 6, 2000, 47, 63] (fr' := [(2, aI a2), (3, .one (.ptr 3 0)), (4, .one (.ptr 4 0)), (6, .one (.ptr 6 0))]) (L' := [(3, .one (.pair tI (.pair tI (.slice (.slice (.pair tI (.pair tI tI)))))) a0), (4, .cells [.slc 2000, .dat tI (w64 (x64.1 + v90.2.1)), .dat tI v90.2.2, .dat tI x64.2.2.1, .slc 47, .slc 63]), (6, .cells [.nilS, .dat tI (0 : Int), .dat tI (0 : Int), .dat tI (0 : Int), .nilS, .nilS]), (2000, .seq (.pair tI tI) (x64.2.2.2.1 ++ [(x64.1, v90.1)])), (47, .seq tI (x64.2.2.2.2.1 ++ [x64.1])), (63, .seq tI (x64.2.2.2.2.2 ++ [v90.2.2]))]) (obs := [SmallLen (List.length x64.2.2.2.2.2 + List.length [v90.2.2]), True]) (by kernel_rfl) (by kernel_rfl) (by kernel_rfl) (allP2 h94 (allP1 trivial)) ?_
        refine seqQ_norm ?_
        obtain rfl := Option.some.inj h
        refine W_run 5 [] [2, 3, 4, 6] [4, 6, 3, 2000, 47, 63] (fr' := [(2, aI a2), (3, .one (.ptr 3 0)), (4, .one (.ptr 4 0)), (6, .one (.ptr 6 0))]) (L' := [(4, .cells [.slc 2000, .dat tI (w64 (x64.1 + v90.2.1)), .dat tI v90.2.2, .dat tI (w64 (x64.2.2.1 + (1 : Int))), .slc 47, .slc 63]), (6, .cells [.nilS, .dat tI (0 : Int), .dat tI (0 : Int), .dat tI (0 : Int), .nilS, .nilS]), (3, .one (.pair tI (.pair tI (.slice (.slice (.pair tI (.pair tI tI)))))) a0), (2000, .seq (.pair tI tI) (x64.2.2.2.1 ++ [(x64.1, v90.1)])), (47, .seq tI (x64.2.2.2.2.1 ++ [x64.1])), (63, .seq tI (x64.2.2.2.2.2 ++ [v90.2.2]))]) (obs := [True]) (by kernel_rfl) (by kernel_rfl) (by kernel_rfl) (allP1 trivial) ?_
        refine blockQ_norm ?_
        exact round_next' (by kernel_rfl) (by kernel_rfl)
      · replace h := ofF h85 h
        obtain rfl := Option.some.inj h
        refine W_exit (id := 0) [4, 6] [4, 6, 2000, 47, 63] (fr' := [(4, .one (.ptr 4 0)), (6, .one (.ptr 6 0))]) (L' := [(4, .cells [.slc 2000, .dat tI x64.1, .dat tI x64.2.1, .dat tI x64.2.2.1, .slc 47, .slc 63]), (6, .cells [.nilS, .dat tI (0 : Int), .dat tI (0 : Int), .dat tI (0 : Int), .nilS, .nilS]), (2000, .seq (.pair tI tI) x64.2.2.2.1), (47, .seq tI x64.2.2.2.2.1), (63, .seq tI x64.2.2.2.2.2)]) (by kernel_rfl) (by kernel_rfl) ?_
        refine seqQ_exit ?_
        refine round_exit ?_
        exact exQ_mk (by kernel_rfl) (by kernel_rfl)
  · intro e fr L hJ
    obtain ⟨rfl, rfl, rfl⟩ := hJ
    refine LT_keep [4, 6] [4, 6, 2000, 47, 63] (fr' := [(4, .one (.ptr 4 0)), (6, .one (.ptr 6 0))]) (L' := [(4, .cells [.slc 2000, .dat tI v95.1, .dat tI v95.2.1, .dat tI v95.2.2.1, .slc 47, .slc 63]), (6, .cells [.nilS, .dat tI (0 : Int), .dat tI (0 : Int), .dat tI (0 : Int), .nilS, .nilS]), (2000, .seq (.pair tI tI) v95.2.2.2.1), (47, .seq tI v95.2.2.2.2.1), (63, .seq tI v95.2.2.2.2.2)]) (by kernel_rfl) ?_
    refine blockQ_hit ?_
    refine seqQ_norm ?_
    refine W_seq (by kernel_rfl) ?_
    refine W_run 2 [] [6] [6, 2000, 47, 63] (fr' := [(6, .one (.ptr 6 0))]) (L' := [(6, .cells [.slc 2000, .dat tI v95.1, .dat tI v95.2.1, .dat tI v95.2.2.1, .slc 47, .slc 63]), (2000, .seq (.pair tI tI) v95.2.2.2.1), (47, .seq tI v95.2.2.2.2.1), (63, .seq tI v95.2.2.2.2.2)]) (obs := [True]) (by kernel_rfl) (by kernel_rfl) (by kernel_rfl) (allP1 trivial) ?_
    refine seqQ_norm ?_
    obtain rfl := Option.some.inj h
    refine W_ret [6] [6, 2000, 47, 63] (fr' := [(6, .one (.ptr 6 0))]) (L' := [(6, .cells [.slc 2000, .dat tI v95.1, .dat tI v95.2.1, .dat tI v95.2.2.1, .slc 47, .slc 63]), (2000, .seq (.pair tI tI) v95.2.2.2.1), (47, .seq tI v95.2.2.2.2.1), (63, .seq tI v95.2.2.2.2.2)]) (by kernel_rfl) (by kernel_rfl) ?_
    exact retQ_mk (by kernel_rfl) (by kernel_rfl) (by kernel_rfl)

@[reducible] def ref_Sign_i2_s3 (a0 : (List (Int × Int))) (a1 : Int) (i27 : Int) (v : Int) : Fr × LL := ([(1, aI a1), (5, aI v), (8, aD (.slice (.pair tI tI)) a0), (9, aI (List.length a0 : Int)), (10, aI i27)], [])
noncomputable def ref_Sign_i2_b4 (a1 : Int) (i27 : Int) (v30 : (Int × Int)) (x28 : Int) : Option (Flow Int Int) :=
(bif v30.1 == a1 then
(some v30.2)
else
(some x28)).bind fun v36 =>
some (.next v36)
@[reducible] def ref_Sign_i2_s5 (a0 : (List (Int × Int))) (a1 : Int) (v : Int × Int) : Fr × LL := ([(1, aI a1), (5, aI v.2), (8, aD (.slice (.pair tI tI)) a0), (9, aI (List.length a0 : Int)), (10, aI v.1)], [])
@[reducible] def ref_Sign_i2_s6 (v : Int) : Fr × LL := ([(5, aI v)], [])
noncomputable def ref_Sign_i2 (a0 : (List (Int × Int))) (a1 : Int) : Option Int :=
(forL (ref_Sign_i2_b4 a1) (fun x28 => x28) a0 0 (0 : Int)).bind fun v39 =>
some v39
theorem ref_Sign_i2_ok {a0 : (List (Int × Int))} {a1 : Int} {r : Int} (h : ref_Sign_i2 a0 a1 = some r) : FnC Try.prog 61 [aD (.slice (.pair tI tI)) a0, aI a1] [] (aI r) [] := by
  refine fnC_of_W (B := bodyOf Try.f61) (n := 22) Try.func61 (by kernel_rfl) (by kernel_rfl) (by kernel_rfl) (by kernel_rfl) (by kernel_rfl) ?_
  intro K
  refine W_seq (by kernel_rfl) ?_
  refine W_run 1 [] [0, 1] [] (fr' := [(0, aD (.slice (.pair tI tI)) a0), (1, aI a1)]) (L' := []) (obs := []) (by kernel_rfl) (by kernel_rfl) (by kernel_rfl) allP0 ?_
  refine seqQ_norm ?_
  refine W_seq (by kernel_rfl) ?_
  refine W_run 1 [] [0, 1, 5] [] (fr' := [(0, aD (.slice (.pair tI tI)) a0), (1, aI a1), (5, aI (0 : Int))]) (L' := []) (obs := []) (by kernel_rfl) (by kernel_rfl) (by kernel_rfl) allP0 ?_
  refine seqQ_norm ?_
  refine W_seq (by kernel_rfl) ?_
  refine W_seq (by kernel_rfl) ?_
  refine W_run 3 [] [1, 5, 8, 9, 10] [] (fr' := [(1, aI a1), (5, aI (0 : Int)), (8, aD (.slice (.pair tI tI)) a0), (9, aI (List.length a0 : Int)), (10, aI (0 : Int))]) (L' := []) (obs := []) (by kernel_rfl) (by kernel_rfl) (by kernel_rfl) allP0 ?_
  refine seqQ_norm ?_
  refine W_block (id := 0) (by kernel_rfl) ?_
  obtain ⟨v39, h40, h⟩ := bind_of h
  refine W_len (t := 8) (u := (.pair tI tI)) (xs := a0) (by kernel_rfl) (fun h43 => ?_)
  obtain ⟨h41, h42⟩ := forL_iter h43 h40
  refine W_weaken [1, 5, 8, 9, 10] [] (fr' := ((ref_Sign_i2_s5 a0 a1) ((0 : Int), (0 : Int))).1) (L' := ((ref_Sign_i2_s5 a0 a1) ((0 : Int), (0 : Int))).2) (by kernel_rfl) ?_
  refine W_cutK (W_loop (S := (ref_Sign_i2_s5 a0 a1)) (J := (exQ (.exit 0) ref_Sign_i2_s6)) (by kernel_rfl) ?_ h41 _ v39 h42) ?_
  · rintro ⟨i27, x28⟩ s h
    refine W_seq (by kernel_rfl) ?_
    refine W_run 1 [] [1, 5, 8, 9, 10, 11] [] (fr' := [(1, aI a1), (5, aI x28), (8, aD (.slice (.pair tI tI)) a0), (9, aI (List.length a0 : Int)), (10, aI i27), (11, aB (decide (i27 < (List.length a0 : Int))))]) (L' := []) (obs := []) (by kernel_rfl) (by kernel_rfl) (by kernel_rfl) allP0 ?_
    refine seqQ_norm ?_
    refine W_seq (by kernel_rfl) ?_
    refine W_cond (o := .tmp 11) (b := decide (i27 < (List.length a0 : Int))) (by kernel_rfl) (by kernel_rfl) (fun h32 => ?_) (fun h32 => ?_)
    · replace h := stepL_true h32 h
      obtain ⟨v30, _, h31, h, rfl⟩ := h
      refine W_skip [1, 5, 8, 9, 10] [] (fr' := [(1, aI a1), (5, aI x28), (8, aD (.slice (.pair tI tI)) a0), (9, aI (List.length a0 : Int)), (10, aI i27)]) (L' := []) (by kernel_rfl) (by kernel_rfl) ?_
      refine seqQ_norm ?_
      refine W_seq (by kernel_rfl) ?_
      obtain ⟨v36, h37, h⟩ := bind_of h
      refine W_cutK (Q' := (exQ .normal (ref_Sign_i2_s3 a0 a1 i27)) v36) ?_ ?_
      · replace h := h37
        refine W_block (id := 1) (by kernel_rfl) ?_
        refine W_seq (by kernel_rfl) ?_
        refine W_run 4 [(1, .val (.dat (.pair tI tI) v30)), (5, .typed)] [1, 5, 7, 8, 9, 10] [7] (fr' := [(1, aI a1), (5, aI x28), (7, .one (.ptr 7 0)), (8, aD (.slice (.pair tI tI)) a0), (9, aI (List.length a0 : Int)), (10, aI i27)]) (L' := [(7, .one (.pair tI tI) v30)]) (obs := [Idx a0 i27 v30, True]) (by kernel_rfl) (by kernel_rfl) (by kernel_rfl) (allP2 (Idx.of h31) (allP1 trivial)) ?_
        refine seqQ_norm ?_
        refine W_seq (by kernel_rfl) ?_
        refine W_run 4 [] [1, 5, 7, 8, 9, 10, 17] [7] (fr' := [(1, aI a1), (5, aI x28), (7, .one (.ptr 7 0)), (8, aD (.slice (.pair tI tI)) a0), (9, aI (List.length a0 : Int)), (10, aI i27), (17, aB (v30.1 == a1))]) (L' := [(7, .one (.pair tI tI) v30)]) (obs := []) (by kernel_rfl) (by kernel_rfl) (by kernel_rfl) allP0 ?_
        refine seqQ_norm ?_
        refine W_cond (o := .tmp 17) (b := v30.1 == a1) (by kernel_rfl) (by kernel_rfl) (fun h35 => ?_) (fun h35 => ?_)
        · replace h := ofT h35 h
          obtain rfl := Option.some.inj h
          refine W_run 3 [] [1, 5, 8, 9, 10] [] (fr' := [(1, aI a1), (5, aI v30.2), (8, aD (.slice (.pair tI tI)) a0), (9, aI (List.length a0 : Int)), (10, aI i27)]) (L' := []) (obs := []) (by kernel_rfl) (by kernel_rfl) (by kernel_rfl) allP0 ?_
          refine blockQ_norm ?_
          exact exQ_mk (by kernel_rfl) (by kernel_rfl)
        · replace h := ofF h35 h
          obtain rfl := Option.some.inj h
          refine W_skip [1, 5, 8, 9, 10] [] (fr' := [(1, aI a1), (5, aI x28), (8, aD (.slice (.pair tI tI)) a0), (9, aI (List.length a0 : Int)), (10, aI i27)]) (L' := []) (by kernel_rfl) (by kernel_rfl) ?_
          refine blockQ_norm ?_
          exact exQ_mk (by kernel_rfl) (by kernel_rfl)
      · intro e fr L hJ
        obtain ⟨rfl, rfl, rfl⟩ := hJ
        refine LT_keep [1, 5, 8, 9, 10] [] (fr' := [(1, aI a1), (5, aI v36), (8, aD (.slice (.pair tI tI)) a0), (9, aI (List.length a0 : Int)), (10, aI i27)]) (L' := []) (by kernel_rfl) ?_
        refine seqQ_norm ?_
        obtain rfl := Option.some.inj h
        refine W_run 2 [] [1, 5, 8, 9, 10] [] (fr' := [(1, aI a1), (5, aI v36), (8, aD (.slice (.pair tI tI)) a0), (9, aI (List.length a0 : Int)), (10, aI (w64 (i27 + (1 : Int))))]) (L' := []) (obs := []) (by kernel_rfl) (by kernel_rfl) (by kernel_rfl) allP0 ?_
        exact round_next' (by kernel_rfl) (by kernel_rfl)
    · obtain rfl := stepL_false h32 h
      refine W_exit (id := 0) [5] [] (fr' := [(5, aI x28)]) (L' := []) (by kernel_rfl) (by kernel_rfl) ?_
      refine seqQ_exit ?_
      refine round_exit ?_
      exact exQ_mk (by kernel_rfl) (by kernel_rfl)
  · intro e fr L hJ
    obtain ⟨rfl, rfl, rfl⟩ := hJ
    refine LT_keep [5] [] (fr' := [(5, aI v39)]) (L' := []) (by kernel_rfl) ?_
    refine blockQ_hit ?_
    refine seqQ_norm ?_
    refine W_seq (by kernel_rfl) ?_
    refine W_run 2 [] [4] [] (fr' := [(4, aI v39)]) (L' := []) (obs := []) (by kernel_rfl) (by kernel_rfl) (by kernel_rfl) allP0 ?_
    refine seqQ_norm ?_
    obtain rfl := Option.some.inj h
    refine W_ret [4] [] (fr' := [(4, aI v39)]) (L' := []) (by kernel_rfl) (by kernel_rfl) ?_
    exact retQ_mk (by kernel_rfl) (by kernel_rfl) (by kernel_rfl)

@[reducible] def ref_Told_s13 (a0 : ((List (Int × Int)) × (Int × (Int × (Int × ((List Int) × (List Int))))))) (i75 : Int) (x76 : (Int × Int)) (v78 : (Int × Int)) (v : Int) : Fr × LL := ([(1, .one (.ptr 1 0)), (2, .one (.ptr 2 0)), (3, aI v), (4, aI x76.2), (6, .one (.ptr 6 0)), (14, aD (.slice (.pair tI tI)) a0.1), (15, aI (List.length a0.1 : Int)), (16, aI i75)], [(2, .cells [.dat tI (0 : Int), .dat tI (0 : Int), .dat tI (0 : Int), .nilS]), (6, .cells [.dat tI v78.1, .dat tI v78.2]), (1, .one (.pair (.slice (.pair tI tI)) (.pair tI (.pair tI (.pair tI (.pair (.slice tI) (.slice tI)))))) a0)])
noncomputable def ref_Told_g14 (a0 : ((List (Int × Int)) × (Int × (Int × (Int × ((List Int) × (List Int))))))) (x76 : (Int × Int)) (v78 : (Int × Int)) : Option (Int × Int) :=
(ref_Sign_i2 a0.1 v78.1).bind fun r99 =>
bif r99 != (0 : Int) then
((bif decide (v78.1 < x76.1) then
(some v78.1)
else
(some x76.1)).bind fun v105 =>
bif decide (v78.1 > x76.2) then
(some (v105, v78.1))
else
(some (v105, x76.2)))
else
(some (x76.1, x76.2))
@[reducible] def ref_Told_s15 (a0 : ((List (Int × Int)) × (Int × (Int × (Int × ((List Int) × (List Int))))))) (i75 : Int) (v : (Int × Int)) : Fr × LL := ([(1, .one (.ptr 1 0)), (2, .one (.ptr 2 0)), (3, aI v.1), (4, aI v.2), (14, aD (.slice (.pair tI tI)) a0.1), (15, aI (List.length a0.1 : Int)), (16, aI i75)], [(2, .cells [.dat tI (0 : Int), .dat tI (0 : Int), .dat tI (0 : Int), .nilS]), (1, .one (.pair (.slice (.pair tI tI)) (.pair tI (.pair tI (.pair tI (.pair (.slice tI) (.slice tI)))))) a0)])
noncomputable def ref_Told_b16 (a0 : ((List (Int × Int)) × (Int × (Int × (Int × ((List Int) × (List Int))))))) (i75 : Int) (v78 : (Int × Int)) (x76 : (Int × Int)) : Option (Flow (Int × Int) (Int × Int)) :=
(ref_Told_g14 a0 x76 v78).bind fun v108 =>
some (.next (v108.1, v108.2))
@[reducible] def ref_Told_s17 (a0 : ((List (Int × Int)) × (Int × (Int × (Int × ((List Int) × (List Int))))))) (v : Int × (Int × Int)) : Fr × LL := ([(1, .one (.ptr 1 0)), (2, .one (.ptr 2 0)), (3, aI v.2.1), (4, aI v.2.2), (14, aD (.slice (.pair tI tI)) a0.1), (15, aI (List.length a0.1 : Int)), (16, aI v.1)], [(2, .cells [.dat tI (0 : Int), .dat tI (0 : Int), .dat tI (0 : Int), .nilS]), (1, .one (.pair (.slice (.pair tI tI)) (.pair tI (.pair tI (.pair tI (.pair (.slice tI) (.slice tI)))))) a0)])
@[reducible] def ref_Told_s18 (a0 : ((List (Int × Int)) × (Int × (Int × (Int × ((List Int) × (List Int))))))) (v : (Int × Int)) : Fr × LL := ([(1, .one (.ptr 1 0)), (2, .one (.ptr 2 0)), (3, aI v.1), (4, aI v.2)], [(2, .cells [.dat tI (0 : Int), .dat tI (0 : Int), .dat tI (0 : Int), .nilS]), (1, .one (.pair (.slice (.pair tI tI)) (.pair tI (.pair tI (.pair tI (.pair (.slice tI) (.slice tI)))))) a0)])
noncomputable def ref_Told_b19 (a0 : ((List (Int × Int)) × (Int × (Int × (Int × ((List Int) × (List Int))))))) (v111 : (Int × Int)) (x132 : (Int × (List Int))) : Option (Flow (Int × (List Int)) (List Int)) :=
bif decide (x132.1 ≤ v111.2) then
((ref_Sign_i2 a0.1 x132.1).bind fun r138 =>
(ck ((List.length x132.2 : Int) + 1 ≤ 4294967296)).bind fun _ =>
some (.next (w64 (x132.1 + (1 : Int)), x132.2 ++ [r138])))
else
(some (.done x132.2))
@[reducible] def ref_Told_s20 (a0 : ((List (Int × Int)) × (Int × (Int × (Int × ((List Int) × (List Int))))))) (v111 : (Int × Int)) (v : (Int × (List Int))) : Fr × LL := ([(1, .one (.ptr 1 0)), (2, .one (.ptr 2 0)), (4, aI v111.2), (7, .one (.ptr 7 0)), (8, aI v.1)], [(2, .cells [.dat tI (0 : Int), .dat tI (0 : Int), .dat tI (0 : Int), .nilS]), (7, .cells [.dat tI a0.2.2.1, .dat tI a0.2.1, .dat tI v111.1, .slc 58]), (1, .one (.pair (.slice (.pair tI tI)) (.pair tI (.pair tI (.pair tI (.pair (.slice tI) (.slice tI)))))) a0), (58, .seq tI v.2)])
@[reducible] def ref_Told_s21 (a0 : ((List (Int × Int)) × (Int × (Int × (Int × ((List Int) × (List Int))))))) (v111 : (Int × Int)) (v : (List Int)) : Fr × LL := ([(2, .one (.ptr 2 0)), (7, .one (.ptr 7 0))], [(2, .cells [.dat tI (0 : Int), .dat tI (0 : Int), .dat tI (0 : Int), .nilS]), (7, .cells [.dat tI a0.2.2.1, .dat tI a0.2.1, .dat tI v111.1, .slc 58]), (58, .seq tI v)])
noncomputable def ref_Told (fuel : Nat) (a0 : ((List (Int × Int)) × (Int × (Int × (Int × ((List Int) × (List Int))))))) : Option (Int × (Int × (Int × (List Int)))) :=
(forL (ref_Told_b16 a0) (fun x76 => (x76.1, x76.2)) a0.1 0 (a0.2.1, a0.2.1)).bind fun v111 =>
(iter (ref_Told_b19 a0 v111) fuel (v111.1, [])).bind fun v141 =>
some (a0.2.2.1, a0.2.1, v111.1, v141)
theorem ref_Told_ok {fuel : Nat} {a0 : ((List (Int × Int)) × (Int × (Int × (Int × ((List Int) × (List Int))))))} {r : (Int × (Int × (Int × (List Int))))} (h : ref_Told fuel a0 = some r) : FnC Try.prog 31 [aD (.pair (.slice (.pair tI tI)) (.pair tI (.pair tI (.pair tI (.pair (.slice tI) (.slice tI)))))) a0] [] (aD (.pair tI (.pair tI (.pair tI (.slice tI)))) r) [] := by
  refine fnC_of_W (B := bodyOf Try.f31) (n := 61) Try.func31 (by kernel_rfl) (by kernel_rfl) (by kernel_rfl) (by kernel_rfl) (by kernel_rfl) ?_
  intro K
  refine W_seq (by kernel_rfl) ?_
  refine W_run 2 [] [1, 2] [1, 2] (fr' := [(1, .one (.ptr 1 0)), (2, .one (.ptr 2 0))]) (L' := [(1, .one (.pair (.slice (.pair tI tI)) (.pair tI (.pair tI (.pair tI (.pair (.slice tI) (.slice tI)))))) a0), (2, .cells [.dat tI (0 : Int), .dat tI (0 : Int), .dat tI (0 : Int), .nilS])]) (obs := []) (by kernel_rfl) (by kernel_rfl) (by kernel_rfl) allP0 ?_
  refine seqQ_norm ?_
  refine W_seq (by kernel_rfl) ?_
  refine W_run 3 [] [1, 2, 3] [1, 2] (fr' := [(1, .one (.ptr 1 0)), (2, .one (.ptr 2 0)), (3, aI a0.2.1)]) (L' := [(1, .one (.pair (.slice (.pair tI tI)) (.pair tI (.pair tI (.pair tI (.pair (.slice tI) (.slice tI)))))) a0), (2, .cells [.dat tI (0 : Int), .dat tI (0 : Int), .dat tI (0 : Int), .nilS])]) (obs := []) (by kernel_rfl) (by kernel_rfl) (by kernel_rfl) allP0 ?_
  refine seqQ_norm ?_
  refine W_seq (by kernel_rfl) ?_
  refine W_run 3 [] [1, 2, 3, 4] [1, 2] (fr' := [(1, .one (.ptr 1 0)), (2, .one (.ptr 2 0)), (3, aI a0.2.1), (4, aI a0.2.1)]) (L' := [(1, .one (.pair (.slice (.pair tI tI)) (.pair tI (.pair tI (.pair tI (.pair (.slice tI) (.slice tI)))))) a0), (2, .cells [.dat tI (0 : Int), .dat tI (0 : Int), .dat tI (0 : Int), .nilS])]) (obs := []) (by kernel_rfl) (by kernel_rfl) (by kernel_rfl) allP0 ?_
  refine seqQ_norm ?_
  refine W_seq (by kernel_rfl) ?_
  refine W_seq (by kernel_rfl) ?_
  refine W_run 4 [] [1, 2, 3, 4, 14, 15, 16] [1, 2] (fr' := [(1, .one (.ptr 1 0)), (2, .one (.ptr 2 0)), (3, aI a0.2.1), (4, aI a0.2.1), (14, aD (.slice (.pair tI tI)) a0.1), (15, aI (List.length a0.1 : Int)), (16, aI (0 : Int))]) (L' := [(1, .one (.pair (.slice (.pair tI tI)) (.pair tI (.pair tI (.pair tI (.pair (.slice tI) (.slice tI)))))) a0), (2, .cells [.dat tI (0 : Int), .dat tI (0 : Int), .dat tI (0 : Int), .nilS])]) (obs := []) (by kernel_rfl) (by kernel_rfl) (by kernel_rfl) allP0 ?_
  refine seqQ_norm ?_
  refine W_block (id := 0) (by kernel_rfl) ?_
  obtain ⟨v111, h112, h⟩ := bind_of h
  refine W_len (t := 14) (u := (.pair tI tI)) (xs := a0.1) (by kernel_rfl) (fun h115 => ?_)
  obtain ⟨h113, h114⟩ := forL_iter h115 h112
  refine W_weaken [1, 2, 3, 4, 14, 15, 16] [2, 1] (fr' := ((ref_Told_s17 a0) ((0 : Int), (a0.2.1, a0.2.1))).1) (L' := ((ref_Told_s17 a0) ((0 : Int), (a0.2.1, a0.2.1))).2) (by kernel_rfl) ?_
  refine W_cutK (W_loop (S := (ref_Told_s17 a0)) (J := (exQ (.exit 0) (ref_Told_s18 a0))) (by kernel_rfl) ?_ h113 _ v111 h114) ?_
  · rintro ⟨i75, x76⟩ s h
    refine W_seq (by kernel_rfl) ?_
    refine W_run 1 [] [1, 2, 3, 4, 14, 15, 16, 17] [1, 2] (fr' := [(1, .one (.ptr 1 0)), (2, .one (.ptr 2 0)), (3, aI x76.1), (4, aI x76.2), (14, aD (.slice (.pair tI tI)) a0.1), (15, aI (List.length a0.1 : Int)), (16, aI i75), (17, aB (decide (i75 < (List.length a0.1 : Int))))]) (L' := [(1, .one (.pair (.slice (.pair tI tI)) (.pair tI (.pair tI (.pair tI (.pair (.slice tI) (.slice tI)))))) a0), (2, .cells [.dat tI (0 : Int), .dat tI (0 : Int), .dat tI (0 : Int), .nilS])]) (obs := []) (by kernel_rfl) (by kernel_rfl) (by kernel_rfl) allP0 ?_
    refine seqQ_norm ?_
    refine W_seq (by kernel_rfl) ?_
    refine W_cond (o := .tmp 17) (b := decide (i75 < (List.length a0.1 : Int))) (by kernel_rfl) (by kernel_rfl) (fun h80 => ?_) (fun h80 => ?_)
    · replace h := stepL_true h80 h
      obtain ⟨v78, _, h79, h, rfl⟩ := h
      refine W_skip [1, 2, 3, 4, 14, 15, 16] [1, 2] (fr' := [(1, .one (.ptr 1 0)), (2, .one (.ptr 2 0)), (3, aI x76.1), (4, aI x76.2), (14, aD (.slice (.pair tI tI)) a0.1), (15, aI (List.length a0.1 : Int)), (16, aI i75)]) (L' := [(1, .one (.pair (.slice (.pair tI tI)) (.pair tI (.pair tI (.pair tI (.pair (.slice tI) (.slice tI)))))) a0), (2, .cells [.dat tI (0 : Int), .dat tI (0 : Int), .dat tI (0 : Int), .nilS])]) (by kernel_rfl) (by kernel_rfl) ?_
      refine seqQ_norm ?_
      refine W_seq (by kernel_rfl) ?_
      obtain ⟨v108, h109, h⟩ := bind_of h
      refine W_cutK (Q' := (exQ .normal (ref_Told_s15 a0 i75)) v108) ?_ ?_
      · replace h := h109
        refine W_block (id := 1) (by kernel_rfl) ?_
        refine W_seq (by kernel_rfl) ?_
        refine W_run 4 [(1, .val (.dat (.pair tI tI) v78))] [1, 2, 3, 4, 6, 14, 15, 16] [1, 2, 6] (fr' := [(1, .one (.ptr 1 0)), (2, .one (.ptr 2 0)), (3, aI x76.1), (4, aI x76.2), (6, .one (.ptr 6 0)), (14, aD (.slice (.pair tI tI)) a0.1), (15, aI (List.length a0.1 : Int)), (16, aI i75)]) (L' := [(1, .one (.pair (.slice (.pair tI tI)) (.pair tI (.pair tI (.pair tI (.pair (.slice tI) (.slice tI)))))) a0), (2, .cells [.dat tI (0 : Int), .dat tI (0 : Int), .dat tI (0 : Int), .nilS]), (6, .cells [.dat tI v78.1, .dat tI v78.2])]) (obs := [Idx a0.1 i75 v78, True]) (by kernel_rfl) (by kernel_rfl) (by kernel_rfl) (allP2 (Idx.of h79) (allP1 trivial)) ?_
        refine seqQ_norm ?_
        refine W_seq (by kernel_rfl) ?_
        refine W_region (by kernel_rfl) ?_
        refine WO_run (j := 4) (k := 4) (orcs := []) (kF := [1, 2, 3, 4, 6, 14, 15, 16, 21, 23]) (kL := [1, 2, 6]) (fr' := [(1, .one (.ptr 1 0)), (2, .one (.ptr 2 0)), (3, aI x76.1), (4, aI x76.2), (6, .one (.ptr 6 0)), (14, aD (.slice (.pair tI tI)) a0.1), (15, aI (List.length a0.1 : Int)), (16, aI i75), (21, aD (.slice (.pair tI tI)) a0.1), (23, aI v78.1)]) (L' := [(1, .one (.pair (.slice (.pair tI tI)) (.pair tI (.pair tI (.pair tI (.pair (.slice tI) (.slice tI)))))) a0), (2, .cells [.dat tI (0 : Int), .dat tI (0 : Int), .dat tI (0 : Int), .nilS]), (6, .cells [.dat tI v78.1, .dat tI v78.2])]) (obs := []) rfl (by kernel_rfl) allP0 ?_
        obtain ⟨r99, h100, h⟩ := bind_of h
        refine WO_call0 (us := [none, none]) (d := 24) (p := True) (j := 5) rfl ⟨by kernel_rfl, by kernel_rfl, by kernel_rfl⟩ trivial (ref_Sign_i2_ok h100) (by kernel_rfl) ?_
        refine WO_run (j := 6) (k := 1) (orcs := []) (kF := [1, 2, 3, 4, 6, 14, 15, 16, 25]) (kL := [1, 2, 6]) (fr' := [(1, .one (.ptr 1 0)), (2, .one (.ptr 2 0)), (3, aI x76.1), (4, aI x76.2), (6, .one (.ptr 6 0)), (14, aD (.slice (.pair tI tI)) a0.1), (15, aI (List.length a0.1 : Int)), (16, aI i75), (25, aB (r99 != (0 : Int)))]) (L' := [(1, .one (.pair (.slice (.pair tI tI)) (.pair tI (.pair tI (.pair tI (.pair (.slice tI) (.slice tI)))))) a0), (2, .cells [.dat tI (0 : Int), .dat tI (0 : Int), .dat tI (0 : Int), .nilS]), (6, .cells [.dat tI v78.1, .dat tI v78.2])]) (obs := []) rfl (by kernel_rfl) allP0 ?_
        refine WO_fin [1, 2, 3, 4, 6, 14, 15, 16, 25] [1, 2, 6] (fr' := [(1, .one (.ptr 1 0)), (2, .one (.ptr 2 0)), (3, aI x76.1), (4, aI x76.2), (6, .one (.ptr 6 0)), (14, aD (.slice (.pair tI tI)) a0.1), (15, aI (List.length a0.1 : Int)), (16, aI i75), (25, aB (r99 != (0 : Int)))]) (L' := [(1, .one (.pair (.slice (.pair tI tI)) (.pair tI (.pair tI (.pair tI (.pair (.slice tI) (.slice tI)))))) a0), (2, .cells [.dat tI (0 : Int), .dat tI (0 : Int), .dat tI (0 : Int), .nilS]), (6, .cells [.dat tI v78.1, .dat tI v78.2])]) (by kernel_rfl) (by kernel_rfl) ?_
        refine seqQ_norm ?_
        refine W_cond (o := .tmp 25) (b := r99 != (0 : Int)) (by kernel_rfl) (by kernel_rfl) (fun h101 => ?_) (fun h101 => ?_)
        · replace h := ofT h101 h
          refine W_seq (by kernel_rfl) ?_
          obtain ⟨v105, h106, h⟩ := bind_of h
          refine W_cutK (Q' := (exQ .normal (ref_Told_s13 a0 i75 x76 v78)) v105) ?_ ?_
          · replace h := h106
            refine W_seq (by kernel_rfl) ?_
            refine W_run 4 [] [1, 2, 3, 4, 6, 14, 15, 16, 29] [1, 2, 6] (fr' := [(1, .one (.ptr 1 0)), (2, .one (.ptr 2 0)), (3, aI x76.1), (4, aI x76.2), (6, .one (.ptr 6 0)), (14, aD (.slice (.pair tI tI)) a0.1), (15, aI (List.length a0.1 : Int)), (16, aI i75), (29, aB (decide (v78.1 < x76.1)))]) (L' := [(1, .one (.pair (.slice (.pair tI tI)) (.pair tI (.pair tI (.pair tI (.pair (.slice tI) (.slice tI)))))) a0), (2, .cells [.dat tI (0 : Int), .dat tI (0 : Int), .dat tI (0 : Int), .nilS]), (6, .cells [.dat tI v78.1, .dat tI v78.2])]) (obs := []) (by kernel_rfl) (by kernel_rfl) (by kernel_rfl) allP0 ?_
            refine seqQ_norm ?_
            refine W_cond (o := .tmp 29) (b := decide (v78.1 < x76.1)) (by kernel_rfl) (by kernel_rfl) (fun h104 => ?_) (fun h104 => ?_)
            · replace h := ofT h104 h
              obtain rfl := Option.some.inj h
              refine W_run 3 [] [1, 2, 3, 4, 6, 14, 15, 16] [2, 6, 1] (fr' := [(1, .one (.ptr 1 0)), (2, .one (.ptr 2 0)), (3, aI v78.1), (4, aI x76.2), (6, .one (.ptr 6 0)), (14, aD (.slice (.pair tI tI)) a0.1), (15, aI (List.length a0.1 : Int)), (16, aI i75)]) (L' := [(2, .cells [.dat tI (0 : Int), .dat tI (0 : Int), .dat tI (0 : Int), .nilS]), (6, .cells [.dat tI v78.1, .dat tI v78.2]), (1, .one (.pair (.slice (.pair tI tI)) (.pair tI (.pair tI (.pair tI (.pair (.slice tI) (.slice tI)))))) a0)]) (obs := []) (by kernel_rfl) (by kernel_rfl) (by kernel_rfl) allP0 ?_
              exact exQ_mk (by kernel_rfl) (by kernel_rfl)
            · replace h := ofF h104 h
              obtain rfl := Option.some.inj h
              refine W_skip [1, 2, 3, 4, 6, 14, 15, 16] [2, 6, 1] (fr' := [(1, .one (.ptr 1 0)), (2, .one (.ptr 2 0)), (3, aI x76.1), (4, aI x76.2), (6, .one (.ptr 6 0)), (14, aD (.slice (.pair tI tI)) a0.1), (15, aI (List.length a0.1 : Int)), (16, aI i75)]) (L' := [(2, .cells [.dat tI (0 : Int), .dat tI (0 : Int), .dat tI (0 : Int), .nilS]), (6, .cells [.dat tI v78.1, .dat tI v78.2]), (1, .one (.pair (.slice (.pair tI tI)) (.pair tI (.pair tI (.pair tI (.pair (.slice tI) (.slice tI)))))) a0)]) (by kernel_rfl) (by kernel_rfl) ?_
              exact exQ_mk (by kernel_rfl) (by kernel_rfl)
          · intro e fr L hJ
            obtain ⟨rfl, rfl, rfl⟩ := hJ
            refine LT_keep [1, 2, 3, 4, 6, 14, 15, 16] [1, 2, 6] (fr' := [(1, .one (.ptr 1 0)), (2, .one (.ptr 2 0)), (3, aI v105), (4, aI x76.2), (6, .one (.ptr 6 0)), (14, aD (.slice (.pair tI tI)) a0.1), (15, aI (List.length a0.1 : Int)), (16, aI i75)]) (L' := [(1, .one (.pair (.slice (.pair tI tI)) (.pair tI (.pair tI (.pair tI (.pair (.slice tI) (.slice tI)))))) a0), (2, .cells [.dat tI (0 : Int), .dat tI (0 : Int), .dat tI (0 : Int), .nilS]), (6, .cells [.dat tI v78.1, .dat tI v78.2])]) (by kernel_rfl) ?_
            refine seqQ_norm ?_
            refine W_seq (by kernel_rfl) ?_
            refine W_run 4 [] [1, 2, 3, 4, 6, 14, 15, 16, 35] [1, 2, 6] (fr' := [(1, .one (.ptr 1 0)), (2, .one (.ptr 2 0)), (3, aI v105), (4, aI x76.2), (6, .one (.ptr 6 0)), (14, aD (.slice (.pair tI tI)) a0.1), (15, aI (List.length a0.1 : Int)), (16, aI i75), (35, aB (decide (v78.1 > x76.2)))]) (L' := [(1, .one (.pair (.slice (.pair tI tI)) (.pair tI (.pair tI (.pair tI (.pair (.slice tI) (.slice tI)))))) a0), (2, .cells [.dat tI (0 : Int), .dat tI (0 : Int), .dat tI (0 : Int), .nilS]), (6, .cells [.dat tI v78.1, .dat tI v78.2])]) (obs := []) (by kernel_rfl) (by kernel_rfl) (by kernel_rfl) allP0 ?_
            refine seqQ_norm ?_
            refine W_cond (o := .tmp 35) (b := decide (v78.1 > x76.2)) (by kernel_rfl) (by kernel_rfl) (fun h107 => ?_) (fun h107 => ?_)
            · replace h := ofT h107 h
              obtain rfl := Option.some.inj h
              refine W_run 3 [] [1, 2, 3, 4, 14, 15, 16] [2, 1] (fr' := [(1, .one (.ptr 1 0)), (2, .one (.ptr 2 0)), (3, aI v105), (4, aI v78.1), (14, aD (.slice (.pair tI tI)) a0.1), (15, aI (List.length a0.1 : Int)), (16, aI i75)]) (L' := [(2, .cells [.dat tI (0 : Int), .dat tI (0 : Int), .dat tI (0 : Int), .nilS]), (1, .one (.pair (.slice (.pair tI tI)) (.pair tI (.pair tI (.pair tI (.pair (.slice tI) (.slice tI)))))) a0)]) (obs := []) (by kernel_rfl) (by kernel_rfl) (by kernel_rfl) allP0 ?_
              refine blockQ_norm ?_
              exact exQ_mk (by kernel_rfl) (by kernel_rfl)
            · replace h := ofF h107 h
              obtain rfl := Option.some.inj h
              refine W_skip [1, 2, 3, 4, 14, 15, 16] [2, 1] (fr' := [(1, .one (.ptr 1 0)), (2, .one (.ptr 2 0)), (3, aI v105), (4, aI x76.2), (14, aD (.slice (.pair tI tI)) a0.1), (15, aI (List.length a0.1 : Int)), (16, aI i75)]) (L' := [(2, .cells [.dat tI (0 : Int), .dat tI (0 : Int), .dat tI (0 : Int), .nilS]), (1, .one (.pair (.slice (.pair tI tI)) (.pair tI (.pair tI (.pair tI (.pair (.slice tI) (.slice tI)))))) a0)]) (by kernel_rfl) (by kernel_rfl) ?_
              refine blockQ_norm ?_
              exact exQ_mk (by kernel_rfl) (by kernel_rfl)
        · replace h := ofF h101 h
          obtain rfl := Option.some.inj h
          refine W_skip [1, 2, 3, 4, 14, 15, 16] [2, 1] (fr' := [(1, .one (.ptr 1 0)), (2, .one (.ptr 2 0)), (3, aI x76.1), (4, aI x76.2), (14, aD (.slice (.pair tI tI)) a0.1), (15, aI (List.length a0.1 : Int)), (16, aI i75)]) (L' := [(2, .cells [.dat tI (0 : Int), .dat tI (0 : Int), .dat tI (0 : Int), .nilS]), (1, .one (.pair (.slice (.pair tI tI)) (.pair tI (.pair tI (.pair tI (.pair (.slice tI) (.slice tI)))))) a0)]) (by kernel_rfl) (by kernel_rfl) ?_
          refine blockQ_norm ?_
          exact exQ_mk (by kernel_rfl) (by kernel_rfl)
      · intro e fr L hJ
        obtain ⟨rfl, rfl, rfl⟩ := hJ
        refine LT_keep [1, 2, 3, 4, 14, 15, 16] [1, 2] (fr' := [(1, .one (.ptr 1 0)), (2, .one (.ptr 2 0)), (3, aI v108.1), (4, aI v108.2), (14, aD (.slice (.pair tI tI)) a0.1), (15, aI (List.length a0.1 : Int)), (16, aI i75)]) (L' := [(1, .one (.pair (.slice (.pair tI tI)) (.pair tI (.pair tI (.pair tI (.pair (.slice tI) (.slice tI)))))) a0), (2, .cells [.dat tI (0 : Int), .dat tI (0 : Int), .dat tI (0 : Int), .nilS])]) (by kernel_rfl) ?_
        refine seqQ_norm ?_
        obtain rfl := Option.some.inj h
        refine W_run 2 [] [1, 2, 3, 4, 14, 15, 16] [2, 1] (fr' := [(1, .one (.ptr 1 0)), (2, .one (.ptr 2 0)), (3, aI v108.1), (4, aI v108.2), (14, aD (.slice (.pair tI tI)) a0.1), (15, aI (List.length a0.1 : Int)), (16, aI (w64 (i75 + (1 : Int))))]) (L' := [(2, .cells [.dat tI (0 : Int), .dat tI (0 : Int), .dat tI (0 : Int), .nilS]), (1, .one (.pair (.slice (.pair tI tI)) (.pair tI (.pair tI (.pair tI (.pair (.slice tI) (.slice tI)))))) a0)]) (obs := []) (by kernel_rfl) (by kernel_rfl) (by kernel_rfl) allP0 ?_
        exact round_next' (by kernel_rfl) (by kernel_rfl)
    · obtain rfl := stepL_false h80 h
      refine W_exit (id := 0) [1, 2, 3, 4] [2, 1] (fr' := [(1, .one (.ptr 1 0)), (2, .one (.ptr 2 0)), (3, aI x76.1), (4, aI x76.2)]) (L' := [(2, .cells [.dat tI (0 : Int), .dat tI (0 : Int), .dat tI (0 : Int), .nilS]), (1, .one (.pair (.slice (.pair tI tI)) (.pair tI (.pair tI (.pair tI (.pair (.slice tI) (.slice tI)))))) a0)]) (by kernel_rfl) (by kernel_rfl) ?_
      refine seqQ_exit ?_
      refine round_exit ?_
      exact exQ_mk (by kernel_rfl) (by kernel_rfl)
  · intro e fr L hJ
    obtain ⟨rfl, rfl, rfl⟩ := hJ
    refine LT_keep [1, 2, 3, 4] [1, 2] (fr' := [(1, .one (.ptr 1 0)), (2, .one (.ptr 2 0)), (3, aI v111.1), (4, aI v111.2)]) (L' := [(1, .one (.pair (.slice (.pair tI tI)) (.pair tI (.pair tI (.pair tI (.pair (.slice tI) (.slice tI)))))) a0), (2, .cells [.dat tI (0 : Int), .dat tI (0 : Int), .dat tI (0 : Int), .nilS])]) (by kernel_rfl) ?_
    refine blockQ_hit ?_
    refine seqQ_norm ?_
    refine W_seq (by kernel_rfl) ?_
    refine W_run 8 [(11, .val .nilP)] [1, 2, 3, 4, 7] [1, 2, 7] (fr' := [(1, .one (.ptr 1 0)), (2, .one (.ptr 2 0)), (3, aI v111.1), (4, aI v111.2), (7, .one (.ptr 7 0))]) (L' := [(1, .one (.pair (.slice (.pair tI tI)) (.pair tI (.pair tI (.pair tI (.pair (.slice tI) (.slice tI)))))) a0), (2, .cells [.dat tI (0 : Int), .dat tI (0 : Int), .dat tI (0 : Int), .nilS]), (7, .cells [.dat tI a0.2.2.1, .dat tI a0.2.1, .dat tI v111.1, .nilS])]) (obs := [True]) (by kernel_rfl) (by kernel_rfl) (by kernel_rfl) (allP1 trivial) ?_
    refine seqQ_norm ?_
    refine W_seq (by kernel_rfl) ?_
    refine W_seq (by kernel_rfl) ?_
    refine W_run 2 [] [1, 2, 4, 7, 8] [1, 2, 7] (fr' := [(1, .one (.ptr 1 0)), (2, .one (.ptr 2 0)), (4, aI v111.2), (7, .one (.ptr 7 0)), (8, aI v111.1)]) (L' := [(1, .one (.pair (.slice (.pair tI tI)) (.pair tI (.pair tI (.pair tI (.pair (.slice tI) (.slice tI)))))) a0), (2, .cells [.dat tI (0 : Int), .dat tI (0 : Int), .dat tI (0 : Int), .nilS]), (7, .cells [.dat tI a0.2.2.1, .dat tI a0.2.1, .dat tI v111.1, .nilS])]) (obs := []) (by kernel_rfl) (by kernel_rfl) (by kernel_rfl) allP0 ?_
    refine seqQ_norm ?_
    refine W_block (id := 2) (by kernel_rfl) ?_
    obtain ⟨v141, h142, h⟩ := bind_of h
    refine W_cellown 7 3 58 tI (by kernel_rfl) ?_
    refine W_weaken [1, 2, 4, 7, 8] [2, 7, 1, 58] (fr' := ((ref_Told_s20 a0 v111) (v111.1, [])).1) (L' := ((ref_Told_s20 a0 v111) (v111.1, [])).2) (by kernel_rfl) ?_
    refine W_cutK (W_loop (S := (ref_Told_s20 a0 v111)) (J := (exQ (.exit 2) (ref_Told_s21 a0 v111))) (by kernel_rfl) ?_ fuel _ v141 h142) ?_
    · rintro x132 s h
      refine W_seq (by kernel_rfl) ?_
      refine W_seq (by kernel_rfl) ?_
      refine W_run 3 [] [1, 2, 4, 7, 8, 48] [1, 2, 7, 58] (fr' := [(1, .one (.ptr 1 0)), (2, .one (.ptr 2 0)), (4, aI v111.2), (7, .one (.ptr 7 0)), (8, aI x132.1), (48, aB (decide (x132.1 ≤ v111.2)))]) (L' := [(1, .one (.pair (.slice (.pair tI tI)) (.pair tI (.pair tI (.pair tI (.pair (.slice tI) (.slice tI)))))) a0), (2, .cells [.dat tI (0 : Int), .dat tI (0 : Int), .dat tI (0 : Int), .nilS]), (7, .cells [.dat tI a0.2.2.1, .dat tI a0.2.1, .dat tI v111.1, .slc 58]), (58, .seq tI x132.2)]) (obs := []) (by kernel_rfl) (by kernel_rfl) (by kernel_rfl) allP0 ?_
      refine seqQ_norm ?_
      refine W_cond (o := .tmp 48) (b := decide (x132.1 ≤ v111.2)) (by kernel_rfl) (by kernel_rfl) (fun h137 => ?_) (fun h137 => ?_)
      · replace h := ofT h137 h
        refine W_skip [1, 2, 4, 7, 8] [1, 2, 7, 58] (fr' := [(1, .one (.ptr 1 0)), (2, .one (.ptr 2 0)), (4, aI v111.2), (7, .one (.ptr 7 0)), (8, aI x132.1)]) (L' := [(1, .one (.pair (.slice (.pair tI tI)) (.pair tI (.pair tI (.pair tI (.pair (.slice tI) (.slice tI)))))) a0), (2, .cells [.dat tI (0 : Int), .dat tI (0 : Int), .dat tI (0 : Int), .nilS]), (7, .cells [.dat tI a0.2.2.1, .dat tI a0.2.1, .dat tI v111.1, .slc 58]), (58, .seq tI x132.2)]) (by kernel_rfl) (by kernel_rfl) ?_
        refine seqQ_norm ?_
        refine W_seq (by kernel_rfl) ?_
        refine W_block (id := 3) (by kernel_rfl) ?_
        obtain ⟨r138, h139, h⟩ := bind_of h
        refine W_drawC5 7 [] [] [] [] [(5, [none, none], aI r138)] [1, 2, 4, 7, 8, 52, 57] [1, 2, 7, 58] (out := [(51, .one (.ptr 7 3)), (52, .one (.slc 58)), (53, .one (.ptr 1 0)), (54, aD (.slice (.pair tI tI)) a0.1), (55, aI x132.1), (56, aI r138), (57, aD (.slice tI) [r138])]) (obs := [True, True]) (calls := [(61, [aD (.slice (.pair tI tI)) a0.1, aI x132.1], aI r138)]) (fr' := [(1, .one (.ptr 1 0)), (2, .one (.ptr 2 0)), (4, aI v111.2), (7, .one (.ptr 7 0)), (8, aI x132.1), (52, .one (.slc 58)), (57, aD (.slice tI) [r138])]) (L' := [(1, .one (.pair (.slice (.pair tI tI)) (.pair tI (.pair tI (.pair tI (.pair (.slice tI) (.slice tI)))))) a0), (2, .cells [.dat tI (0 : Int), .dat tI (0 : Int), .dat tI (0 : Int), .nilS]), (7, .cells [.dat tI a0.2.2.1, .dat tI a0.2.1, .dat tI v111.1, .slc 58]), (58, .seq tI x132.2)]) (by kernel_rfl) (by kernel_rfl) (by kernel_rfl) (by kernel_rfl) (by kernel_rfl) (allP2 trivial (allP1 trivial)) (allD2 [] _ _ (by kernel_rfl) (ref_Sign_i2_ok h139) (by kernel_rfl) (by kernel_rfl) (by kernel_rfl) (by kernel_rfl) allD0) chNil mkNil (by kernel_rfl) ?_
        obtain ⟨_, h140, h⟩ := bind_of h
        replace h140 := ck_some h140
        refine WO_run (j := 10) (k := 3) (orcs := []) (kF := [1, 2, 4, 7, 8]) (kL := [1, 2, 7, 58]) (fr' := [(1, .one (.ptr 1 0)), (2, .one (.ptr 2 0)), (4, aI v111.2), (7, .one (.ptr 7 0)), (8, aI x132.1)]) (L' := [(1, .one (.pair (.slice (.pair tI tI)) (.pair tI (.pair tI (.pair tI (.pair (.slice tI) (.slice tI)))))) a0), (2, .cells [.dat tI (0 : Int), .dat tI (0 : Int), .dat tI (0 : Int), .nilS]), (7, .cells [.dat tI a0.2.2.1, .dat tI a0.2.1, .dat tI v111.1, .slc 58]), (58, .seq tI (x132.2 ++ [r138]))]) (obs := [SmallLen (List.length x132.2 + List.length [r138]), True]) rfl (by kernel_rfl) (allP2 h140 (allP1 trivial)) ?_
        refine WO_fin [1, 2, 4, 7, 8] [1, 2, 7, 58] (fr' := [(1, .one (.ptr 1 0)), (2, .one (.ptr 2 0)), (4, aI v111.2), (7, .one (.ptr 7 0)), (8, aI x132.1)]) (L' := [(1, .one (.pair (.slice (.pair tI tI)) (.pair tI (.pair tI (.pair tI (.pair (.slice tI) (.slice tI)))))) a0), (2, .cells [.dat tI (0 : Int), .dat tI (0 : Int), .dat tI (0 : Int), .nilS]), (7, .cells [.dat tI a0.2.2.1, .dat tI a0.2.1, .dat tI v111.1, .slc 58]), (58, .seq tI (x132.2 ++ [r138]))]) (by kernel_rfl) (by kernel_rfl) ?_
        refine ⟨rfl, ?_⟩
        refine blockQ_norm ?_
        refine seqQ_norm ?_
        obtain rfl := Option.some.inj h
        refine W_run 3 [] [1, 2, 4, 7, 8] [2, 7, 1, 58] (fr' := [(1, .one (.ptr 1 0)), (2, .one (.ptr 2 0)), (4, aI v111.2), (7, .one (.ptr 7 0)), (8, aI (w64 (x132.1 + (1 : Int))))]) (L' := [(2, .cells [.dat tI (0 : Int), .dat tI (0 : Int), .dat tI (0 : Int), .nilS]), (7, .cells [.dat tI a0.2.2.1, .dat tI a0.2.1, .dat tI v111.1, .slc 58]), (1, .one (.pair (.slice (.pair tI tI)) (.pair tI (.pair tI (.pair tI (.pair (.slice tI) (.slice tI)))))) a0), (58, .seq tI (x132.2 ++ [r138]))]) (obs := []) (by kernel_rfl) (by kernel_rfl) (by kernel_rfl) allP0 ?_
        exact round_next' (by kernel_rfl) (by kernel_rfl)
      · replace h := ofF h137 h
        obtain rfl := Option.some.inj h
        refine W_exit (id := 2) [2, 7] [2, 7, 58] (fr' := [(2, .one (.ptr 2 0)), (7, .one (.ptr 7 0))]) (L' := [(2, .cells [.dat tI (0 : Int), .dat tI (0 : Int), .dat tI (0 : Int), .nilS]), (7, .cells [.dat tI a0.2.2.1, .dat tI a0.2.1, .dat tI v111.1, .slc 58]), (58, .seq tI x132.2)]) (by kernel_rfl) (by kernel_rfl) ?_
        refine seqQ_exit ?_
        refine round_exit ?_
        exact exQ_mk (by kernel_rfl) (by kernel_rfl)
    · intro e fr L hJ
      obtain ⟨rfl, rfl, rfl⟩ := hJ
      refine LT_keep [2, 7] [2, 7, 58] (fr' := [(2, .one (.ptr 2 0)), (7, .one (.ptr 7 0))]) (L' := [(2, .cells [.dat tI (0 : Int), .dat tI (0 : Int), .dat tI (0 : Int), .nilS]), (7, .cells [.dat tI a0.2.2.1, .dat tI a0.2.1, .dat tI v111.1, .slc 58]), (58, .seq tI v141)]) (by kernel_rfl) ?_
      refine blockQ_hit ?_
      refine seqQ_norm ?_
      refine W_seq (by kernel_rfl) ?_
      refine W_run 2 [] [2] [2, 58] (fr' := [(2, .one (.ptr 2 0))]) (L' := [(2, .cells [.dat tI a0.2.2.1, .dat tI a0.2.1, .dat tI v111.1, .slc 58]), (58, .seq tI v141)]) (obs := [True]) (by kernel_rfl) (by kernel_rfl) (by kernel_rfl) (allP1 trivial) ?_
      refine seqQ_norm ?_
      obtain rfl := Option.some.inj h
      refine W_frz 58 (by kernel_rfl) ?_
      refine W_pack 2 (.pair tI (.pair tI (.pair tI (.slice tI)))) (by kernel_rfl) ?_
      refine W_ret [2] [2] (fr' := [(2, .one (.ptr 2 0))]) (L' := [(2, .one (.pair tI (.pair tI (.pair tI (.slice tI)))) (a0.2.2.1, a0.2.1, v111.1, v141))]) (by kernel_rfl) (by kernel_rfl) ?_
      exact retQ_mk (by kernel_rfl) (by kernel_rfl) (by kernel_rfl)

@[reducible] def law_TapeGoes_s1 (v : Bool) : Fr × LL := ([(6, aB v)], [])
noncomputable def law_TapeGoes_g2 (fuel : Nat) (r1 : ((Int × (Int × (Int × (List Int)))) × Int × Int)) (r21 : (Int × Int × Int × (List (Int × Int)) × (List Int) × (List Int))) : Option Bool :=
bif r1.2.2 == (0 : Int) then
(bif r1.2.1 == r21.2.2.1 then
((ref_Told fuel (r21.2.2.2.1, r21.1, r21.2.1, r21.2.2.1, r21.2.2.2.2.1, r21.2.2.2.2.2)).bind fun r37 =>
(ref_Nows r1.1 r37).bind fun r39 =>
some r39)
else
(some false))
else
(some false)
@[reducible] def law_TapeGoes_s3 (v : Bool) : Fr × LL := ([(6, aB v)], [])
noncomputable def law_TapeGoes (fuel : Nat) (a0 : (Int × (Int × (List (List (Int × (Int × Int))))))) (a1 : (Int × (Int × (Int × (List Int))))) (a2 : Int) : Option Bool :=
(tape_Go fuel a0 a1 a2).bind fun r1 =>
(ref_GoCheck a0 a1 a2).bind fun r3 =>
bif r3 != (0 : Int) then
((bif (r1.2.2 == r3) && (r1.2.1 == (0 : Int)) then
((ref_Nows r1.1 ((0 : Int), (0 : Int), (0 : Int), [])).bind fun r13 =>
some r13)
else
(some false)).bind fun v15 =>
some v15)
else
((ref_Start a1.2.2.2 a1.2.2.1 a1.1 a1.2.1).bind fun r19 =>
(ref_Steps fuel a0 r19.1 r19.2.1 (0 : Int) a2 r19.2.2).bind fun r21 =>
(law_TapeGoes_g2 fuel r1 r21).bind fun v41 =>
some v41)
theorem law_TapeGoes_ok {fuel : Nat} {a0 : (Int × (Int × (List (List (Int × (Int × Int))))))} {a1 : (Int × (Int × (Int × (List Int))))} {a2 : Int} {r : Bool} (h : law_TapeGoes fuel a0 a1 a2 = some r) : FnC Try.prog 8 [aD (.pair tI (.pair tI (.slice (.slice (.pair tI (.pair tI tI)))))) a0, aD (.pair tI (.pair tI (.pair tI (.slice tI)))) a1, aI a2] [] (aB r) [] := by
  refine fnC_of_W (B := bodyOf Try.f8) (n := 64) Try.func8 (by kernel_rfl) (by kernel_rfl) (by kernel_rfl) (by kernel_rfl) (by kernel_rfl) ?_
  intro K
  refine W_seq (by kernel_rfl) ?_
  refine W_run 3 [] [2, 3, 4] [3, 4] (fr' := [(2, aI a2), (3, .one (.ptr 3 0)), (4, .one (.ptr 4 0))]) (L' := [(3, .one (.pair tI (.pair tI (.slice (.slice (.pair tI (.pair tI tI)))))) a0), (4, .one (.pair tI (.pair tI (.pair tI (.slice tI)))) a1)]) (obs := []) (by kernel_rfl) (by kernel_rfl) (by kernel_rfl) allP0 ?_
  refine seqQ_norm ?_
  refine W_seq (by kernel_rfl) ?_
  refine W_region (by kernel_rfl) ?_
  refine WO_run (j := 3) (k := 3) (orcs := []) (kF := [2, 3, 4, 13, 14, 15]) (kL := [3, 4]) (fr' := [(2, aI a2), (3, .one (.ptr 3 0)), (4, .one (.ptr 4 0)), (13, aD (.pair tI (.pair tI (.slice (.slice (.pair tI (.pair tI tI)))))) a0), (14, aD (.pair tI (.pair tI (.pair tI (.slice tI)))) a1), (15, aI a2)]) (L' := [(3, .one (.pair tI (.pair tI (.slice (.slice (.pair tI (.pair tI tI)))))) a0), (4, .one (.pair tI (.pair tI (.pair tI (.slice tI)))) a1)]) (obs := []) rfl (by kernel_rfl) allP0 ?_
  obtain ⟨r1, h2, h⟩ := bind_of h
  refine WO_call0 (us := [none, none, none]) (d := 16) (p := True) (j := 4) rfl ⟨by kernel_rfl, by kernel_rfl, by kernel_rfl⟩ trivial (tape_Go_ok h2) (by kernel_rfl) ?_
  refine WO_run (j := 12) (k := 8) (orcs := [(17, .typed)]) (kF := [2, 3, 4, 7, 8, 9]) (kL := [3, 4, 7]) (fr' := [(2, aI a2), (3, .one (.ptr 3 0)), (4, .one (.ptr 4 0)), (7, .one (.ptr 7 0)), (8, aI r1.2.1), (9, aI r1.2.2)]) (L' := [(3, .one (.pair tI (.pair tI (.slice (.slice (.pair tI (.pair tI tI)))))) a0), (4, .one (.pair tI (.pair tI (.pair tI (.slice tI)))) a1), (7, .one (.pair tI (.pair tI (.pair tI (.slice tI)))) r1.1)]) (obs := [True]) rfl (by kernel_rfl) (allP1 trivial) ?_
  refine WO_fin [2, 3, 4, 7, 8, 9] [3, 4, 7] (fr' := [(2, aI a2), (3, .one (.ptr 3 0)), (4, .one (.ptr 4 0)), (7, .one (.ptr 7 0)), (8, aI r1.2.1), (9, aI r1.2.2)]) (L' := [(3, .one (.pair tI (.pair tI (.slice (.slice (.pair tI (.pair tI tI)))))) a0), (4, .one (.pair tI (.pair tI (.pair tI (.slice tI)))) a1), (7, .one (.pair tI (.pair tI (.pair tI (.slice tI)))) r1.1)]) (by kernel_rfl) (by kernel_rfl) ?_
  refine seqQ_norm ?_
  refine W_seq (by kernel_rfl) ?_
  refine W_region (by kernel_rfl) ?_
  refine WO_run (j := 3) (k := 3) (orcs := []) (kF := [2, 3, 4, 7, 8, 9, 20, 21, 22]) (kL := [3, 4, 7]) (fr' := [(2, aI a2), (3, .one (.ptr 3 0)), (4, .one (.ptr 4 0)), (7, .one (.ptr 7 0)), (8, aI r1.2.1), (9, aI r1.2.2), (20, aD (.pair tI (.pair tI (.slice (.slice (.pair tI (.pair tI tI)))))) a0), (21, aD (.pair tI (.pair tI (.pair tI (.slice tI)))) a1), (22, aI a2)]) (L' := [(3, .one (.pair tI (.pair tI (.slice (.slice (.pair tI (.pair tI tI)))))) a0), (4, .one (.pair tI (.pair tI (.pair tI (.slice tI)))) a1), (7, .one (.pair tI (.pair tI (.pair tI (.slice tI)))) r1.1)]) (obs := []) rfl (by kernel_rfl) allP0 ?_
  obtain ⟨r3, h4, h⟩ := bind_of h
  refine WO_call0 (us := [none, none, none]) (d := 23) (p := True) (j := 4) rfl ⟨by kernel_rfl, by kernel_rfl, by kernel_rfl⟩ trivial (ref_GoCheck_ok h4) (by kernel_rfl) ?_
  refine WO_run (j := 5) (k := 1) (orcs := []) (kF := [2, 3, 4, 7, 8, 9, 10]) (kL := [3, 4, 7]) (fr' := [(2, aI a2), (3, .one (.ptr 3 0)), (4, .one (.ptr 4 0)), (7, .one (.ptr 7 0)), (8, aI r1.2.1), (9, aI r1.2.2), (10, aI r3)]) (L' := [(3, .one (.pair tI (.pair tI (.slice (.slice (.pair tI (.pair tI tI)))))) a0), (4, .one (.pair tI (.pair tI (.pair tI (.slice tI)))) a1), (7, .one (.pair tI (.pair tI (.pair tI (.slice tI)))) r1.1)]) (obs := []) rfl (by kernel_rfl) allP0 ?_
  refine WO_fin [2, 3, 4, 7, 8, 9, 10] [3, 4, 7] (fr' := [(2, aI a2), (3, .one (.ptr 3 0)), (4, .one (.ptr 4 0)), (7, .one (.ptr 7 0)), (8, aI r1.2.1), (9, aI r1.2.2), (10, aI r3)]) (L' := [(3, .one (.pair tI (.pair tI (.slice (.slice (.pair tI (.pair tI tI)))))) a0), (4, .one (.pair tI (.pair tI (.pair tI (.slice tI)))) a1), (7, .one (.pair tI (.pair tI (.pair tI (.slice tI)))) r1.1)]) (by kernel_rfl) (by kernel_rfl) ?_
  refine seqQ_norm ?_
  refine W_seq (by kernel_rfl) ?_
  refine W_seq (by kernel_rfl) ?_
  refine W_run 2 [] [2, 3, 4, 7, 8, 9, 10, 25] [3, 4, 7] (fr' := [(2, aI a2), (3, .one (.ptr 3 0)), (4, .one (.ptr 4 0)), (7, .one (.ptr 7 0)), (8, aI r1.2.1), (9, aI r1.2.2), (10, aI r3), (25, aB (r3 != (0 : Int)))]) (L' := [(3, .one (.pair tI (.pair tI (.slice (.slice (.pair tI (.pair tI tI)))))) a0), (4, .one (.pair tI (.pair tI (.pair tI (.slice tI)))) a1), (7, .one (.pair tI (.pair tI (.pair tI (.slice tI)))) r1.1)]) (obs := []) (by kernel_rfl) (by kernel_rfl) (by kernel_rfl) allP0 ?_
  refine seqQ_norm ?_
  refine W_cond (o := .tmp 25) (b := r3 != (0 : Int)) (by kernel_rfl) (by kernel_rfl) (fun h5 => ?_) (fun h5 => ?_)
  · replace h := ofT h5 h
    refine W_seq (by kernel_rfl) ?_
    obtain ⟨v15, h16, h⟩ := bind_of h
    refine W_cutK (Q' := (exQ .normal law_TapeGoes_s1) v15) ?_ ?_
    · replace h := h16
      refine W_region (by kernel_rfl) ?_
      refine WO_run (j := 8) (k := 8) (orcs := []) (kF := [7, 33]) (kL := [3, 4, 7]) (fr' := [(7, .one (.ptr 7 0)), (33, aB ((r1.2.2 == r3) && (r1.2.1 == (0 : Int))))]) (L' := [(3, .one (.pair tI (.pair tI (.slice (.slice (.pair tI (.pair tI tI)))))) a0), (4, .one (.pair tI (.pair tI (.pair tI (.slice tI)))) a1), (7, .one (.pair tI (.pair tI (.pair tI (.slice tI)))) r1.1)]) (obs := []) rfl (by kernel_rfl) allP0 ?_
      rcases Bool.eq_false_or_eq_true ((r1.2.2 == r3) && (r1.2.1 == (0 : Int))) with h12 | h12
      · replace h := ofT h12 h
        refine WO_run (j := 10) (k := 2) (orcs := [(16, .known true), (18, .known true)]) (kF := [33, 34, 35]) (kL := [3, 4, 7]) (fr' := [(33, aB ((r1.2.2 == r3) && (r1.2.1 == (0 : Int)))), (34, aD (.pair tI (.pair tI (.pair tI (.slice tI)))) r1.1), (35, aD (.pair tI (.pair tI (.pair tI (.slice tI)))) ((0 : Int), (0 : Int), (0 : Int), []))]) (L' := [(3, .one (.pair tI (.pair tI (.slice (.slice (.pair tI (.pair tI tI)))))) a0), (4, .one (.pair tI (.pair tI (.pair tI (.slice tI)))) a1), (7, .one (.pair tI (.pair tI (.pair tI (.slice tI)))) r1.1)]) (obs := [(((r1.2.2 == r3) && (r1.2.1 == (0 : Int))) = true), (((r1.2.2 == r3) && (r1.2.1 == (0 : Int))) = true)]) rfl (by kernel_rfl) (allP2 h12 (allP1 h12)) ?_
        obtain ⟨r13, h14, h⟩ := bind_of h
        refine WO_call0 (us := [none, none]) (d := 36) (p := (((r1.2.2 == r3) && (r1.2.1 == (0 : Int))) = true)) (j := 11) rfl ⟨by kernel_rfl, by kernel_rfl, by kernel_rfl⟩ h12 (ref_Nows_ok h14) (by kernel_rfl) ?_
        refine WO_run (j := 13) (k := 2) (orcs := [(23, .val (.dat .bool true))]) (kF := [6]) (kL := [3, 4, 7]) (fr' := [(6, aB r13)]) (L' := [(3, .one (.pair tI (.pair tI (.slice (.slice (.pair tI (.pair tI tI)))))) a0), (4, .one (.pair tI (.pair tI (.pair tI (.slice tI)))) a1), (7, .one (.pair tI (.pair tI (.pair tI (.slice tI)))) r1.1)]) (obs := [(((r1.2.2 == r3) && (r1.2.1 == (0 : Int))) = true)]) rfl (by kernel_rfl) (allP1 h12) ?_
        obtain rfl := Option.some.inj h
        refine WO_fin [6] [] (fr' := [(6, aB r13)]) (L' := []) (by kernel_rfl) (by kernel_rfl) ?_
        exact exQ_mk (by kernel_rfl) (by kernel_rfl)
      · replace h := ofF h12 h
        refine WO_run (j := 13) (k := 5) (orcs := [(16, .known false), (18, .known false), (20, .known false), (23, .val (.dat .bool false))]) (kF := [6]) (kL := [3, 4, 7]) (fr' := [(6, aB false)]) (L' := [(3, .one (.pair tI (.pair tI (.slice (.slice (.pair tI (.pair tI tI)))))) a0), (4, .one (.pair tI (.pair tI (.pair tI (.slice tI)))) a1), (7, .one (.pair tI (.pair tI (.pair tI (.slice tI)))) r1.1)]) (obs := [(((r1.2.2 == r3) && (r1.2.1 == (0 : Int))) = false), (((r1.2.2 == r3) && (r1.2.1 == (0 : Int))) = false), (((r1.2.2 == r3) && (r1.2.1 == (0 : Int))) = false), (((r1.2.2 == r3) && (r1.2.1 == (0 : Int))) = false)]) rfl (by kernel_rfl) (allP2 h12 (allP2 h12 (allP2 h12 (allP1 h12)))) ?_
        obtain rfl := Option.some.inj h
        refine WO_fin [6] [] (fr' := [(6, aB false)]) (L' := []) (by kernel_rfl) (by kernel_rfl) ?_
        exact exQ_mk (by kernel_rfl) (by kernel_rfl)
    · intro e fr L hJ
      obtain ⟨rfl, rfl, rfl⟩ := hJ
      refine LT_keep [6] [] (fr' := [(6, aB v15)]) (L' := []) (by kernel_rfl) ?_
      refine seqQ_norm ?_
      obtain rfl := Option.some.inj h
      refine W_ret [6] [] (fr' := [(6, aB v15)]) (L' := []) (by kernel_rfl) (by kernel_rfl) ?_
      refine seqQ_ret ?_
      exact retQ_mk (by kernel_rfl) (by kernel_rfl) (by kernel_rfl)
  · replace h := ofF h5 h
    refine W_skip [2, 3, 4, 7, 8, 9] [3, 4, 7] (fr' := [(2, aI a2), (3, .one (.ptr 3 0)), (4, .one (.ptr 4 0)), (7, .one (.ptr 7 0)), (8, aI r1.2.1), (9, aI r1.2.2)]) (L' := [(3, .one (.pair tI (.pair tI (.slice (.slice (.pair tI (.pair tI tI)))))) a0), (4, .one (.pair tI (.pair tI (.pair tI (.slice tI)))) a1), (7, .one (.pair tI (.pair tI (.pair tI (.slice tI)))) r1.1)]) (by kernel_rfl) (by kernel_rfl) ?_
    refine seqQ_norm ?_
    refine W_seq (by kernel_rfl) ?_
    obtain ⟨r19, h20, h⟩ := bind_of h
    obtain ⟨r21, h22, h⟩ := bind_of h
    refine W_drawC5 13 [(9, [600], [(600, .seq (.pair tI tI) r19.2.2)]), (11, [600, 601, 602], [(600, .seq (.pair tI tI) r21.2.2.2.1), (601, .seq tI r21.2.2.2.2.1), (602, .seq tI r21.2.2.2.2.2)])] [(12, 11, .one (.pair (.slice (.pair tI tI)) (.pair tI (.pair tI (.pair tI (.pair (.slice tI) (.slice tI)))))) ([], (0 : Int), (0 : Int), (0 : Int), [], []))] [(9, .agg [.slc 600, .dat tI r19.1, .dat tI r19.2.1, .dat tI (0 : Int), .nilS, .nilS]), (11, .agg [.slc 600, .dat tI r21.1, .dat tI r21.2.1, .dat tI r21.2.2.1, .slc 601, .slc 602]), (12, .one (.ptr 11 0))] [] [] [7, 8, 9, 11, 49] [3, 4, 7, 11, 600, 601, 602] (out := [(38, aD (.pair tI (.pair tI (.slice (.slice (.pair tI (.pair tI tI)))))) a0), (39, .one (.ptr 4 3)), (40, aD (.slice tI) a1.2.2.2), (41, .one (.ptr 4 2)), (42, aI a1.2.2.1), (43, .one (.ptr 4 0)), (44, aI a1.1), (45, .one (.ptr 4 1)), (46, aI a1.2.1), (47, .agg [.slc 600, .dat tI r19.1, .dat tI r19.2.1, .dat tI (0 : Int), .nilS, .nilS]), (48, aI a2), (49, .agg [.slc 600, .dat tI r21.1, .dat tI r21.2.1, .dat tI r21.2.2.1, .slc 601, .slc 602]), (11, .one (.ptr 11 0))]) (obs := []) (calls := []) (fr' := [(7, .one (.ptr 7 0)), (8, aI r1.2.1), (9, aI r1.2.2), (11, .one (.ptr 11 0)), (49, .agg [.slc 600, .dat tI r21.1, .dat tI r21.2.1, .dat tI r21.2.2.1, .slc 601, .slc 602])]) (L' := [(3, .one (.pair tI (.pair tI (.slice (.slice (.pair tI (.pair tI tI)))))) a0), (4, .one (.pair tI (.pair tI (.pair tI (.slice tI)))) a1), (7, .one (.pair tI (.pair tI (.pair tI (.slice tI)))) r1.1), (11, .one (.pair (.slice (.pair tI tI)) (.pair tI (.pair tI (.pair tI (.pair (.slice tI) (.slice tI)))))) ([], (0 : Int), (0 : Int), (0 : Int), [], [])), (600, .seq (.pair tI tI) r21.2.2.2.1), (601, .seq tI r21.2.2.2.2.1), (602, .seq tI r21.2.2.2.2.2)]) (by kernel_rfl) (by kernel_rfl) (by kernel_rfl) (by kernel_rfl) (by kernel_rfl) allP0 allD0 (chLend3 (us := [none, none, none, none]) (d := 47) (p := True) [(30, 600)] [30] ⟨by kernel_rfl, by kernel_rfl, by kernel_rfl⟩ trivial (ref_Start_ok h20) (by kernel_rfl) (by kernel_rfl) (by kernel_rfl) (by kernel_rfl) (by kernel_rfl) (chLend3 (us := [none, none, none]) (d := 49) (p := True) [(2000, 600), (47, 601), (63, 602)] [47, 63] ⟨by kernel_rfl, by kernel_rfl, by kernel_rfl⟩ trivial (ref_Steps_ok h22) (by kernel_rfl) (by kernel_rfl) (by kernel_rfl) (by kernel_rfl) (by kernel_rfl) chNil)) (mkDo (ty := true) (av := .one (.ptr 11 0)) (p := True) (by kernel_rfl) trivial (by kernel_rfl) mkNil) (by kernel_rfl) ?_
    refine WO_frz 600 (by kernel_rfl) ?_
    refine WO_frz 601 (by kernel_rfl) ?_
    refine WO_frz 602 (by kernel_rfl) ?_
    refine WO_run (j := 14) (k := 1) (orcs := []) (kF := [7, 8, 9, 11]) (kL := [3, 4, 7, 11]) (fr' := [(7, .one (.ptr 7 0)), (8, aI r1.2.1), (9, aI r1.2.2), (11, .one (.ptr 11 0))]) (L' := [(3, .one (.pair tI (.pair tI (.slice (.slice (.pair tI (.pair tI tI)))))) a0), (4, .one (.pair tI (.pair tI (.pair tI (.slice tI)))) a1), (7, .one (.pair tI (.pair tI (.pair tI (.slice tI)))) r1.1), (11, .one (.pair (.slice (.pair tI tI)) (.pair tI (.pair tI (.pair tI (.pair (.slice tI) (.slice tI)))))) (r21.2.2.2.1, r21.1, r21.2.1, r21.2.2.1, r21.2.2.2.2.1, r21.2.2.2.2.2))]) (obs := [True]) rfl (by kernel_rfl) (allP1 trivial) ?_
    refine WO_fin [7, 8, 9, 11] [7, 11] (fr' := [(7, .one (.ptr 7 0)), (8, aI r1.2.1), (9, aI r1.2.2), (11, .one (.ptr 11 0))]) (L' := [(7, .one (.pair tI (.pair tI (.pair tI (.slice tI)))) r1.1), (11, .one (.pair (.slice (.pair tI tI)) (.pair tI (.pair tI (.pair tI (.pair (.slice tI) (.slice tI)))))) (r21.2.2.2.1, r21.1, r21.2.1, r21.2.2.1, r21.2.2.2.2.1, r21.2.2.2.2.2))]) (by kernel_rfl) (by kernel_rfl) ?_
    refine ⟨rfl, ?_⟩
    refine seqQ_norm ?_
    refine W_seq (by kernel_rfl) ?_
    obtain ⟨v41, h42, h⟩ := bind_of h
    refine W_cutK (Q' := (exQ .normal law_TapeGoes_s3) v41) ?_ ?_
    · replace h := h42
      rcases Bool.eq_false_or_eq_true (r1.2.2 == (0 : Int)) with h35 | h35
      · replace h := ofT h35 h
        rcases Bool.eq_false_or_eq_true (r1.2.1 == r21.2.2.1) with h36 | h36
        · replace h := ofT h36 h
          obtain ⟨r37, h38, h⟩ := bind_of h
          obtain ⟨r39, h40, h⟩ := bind_of h
          obtain rfl := Option.some.inj h
          refine W_draw2 14 [(6, .known true), (8, .known true), (10, .known true), (12, .known true), (15, .val (.dat .bool true)), (18, .known true), (20, .known true), (27, .val (.dat .bool true))] [(11, [none], aD (.pair tI (.pair tI (.pair tI (.slice tI)))) r37), (12, [none, none], aB r39)] [6] [] (fr' := [(6, aB r39)]) (L' := []) (out := [(50, aI r1.2.2), (51, aB (r1.2.2 == (0 : Int))), (52, aB (r1.2.2 == (0 : Int))), (53, aI r1.2.1), (54, .one (.ptr 11 3)), (55, aI r21.2.2.1), (56, aB (r1.2.1 == r21.2.2.1)), (57, aB (r1.2.1 == r21.2.2.1)), (58, aB (r1.2.1 == r21.2.2.1)), (59, aD (.pair tI (.pair tI (.pair tI (.slice tI)))) r1.1), (60, aD (.pair (.slice (.pair tI tI)) (.pair tI (.pair tI (.pair tI (.pair (.slice tI) (.slice tI)))))) (r21.2.2.2.1, r21.1, r21.2.1, r21.2.2.1, r21.2.2.2.2.1, r21.2.2.2.2.2)), (61, aD (.pair tI (.pair tI (.pair tI (.slice tI)))) r37), (62, aB r39), (63, aB r39)]) (obs := [((r1.2.2 == (0 : Int)) = true), ((r1.2.2 == (0 : Int)) = true), ((r1.2.2 == (0 : Int)) = true), ((r1.2.2 == (0 : Int)) = true), ((r1.2.2 == (0 : Int)) = true), ((r1.2.1 == r21.2.2.1) = true), ((r1.2.1 == r21.2.2.1) = true), ((r1.2.1 == r21.2.2.1) = true), ((r1.2.1 == r21.2.2.1) = true), ((r1.2.1 == r21.2.2.1) = true)]) (obs2 := []) (calls := [(31, [aD (.pair (.slice (.pair tI tI)) (.pair tI (.pair tI (.pair tI (.pair (.slice tI) (.slice tI)))))) (r21.2.2.2.1, r21.1, r21.2.1, r21.2.2.1, r21.2.2.2.2.1, r21.2.2.2.2.2)], aD (.pair tI (.pair tI (.pair tI (.slice tI)))) r37), (28, [aD (.pair tI (.pair tI (.pair tI (.slice tI)))) r1.1, aD (.pair tI (.pair tI (.pair tI (.slice tI)))) r37], aB r39)]) (by kernel_rfl) (by kernel_rfl) (by kernel_rfl) (by kernel_rfl) (allP2 h35 (allP2 h35 (allP2 h35 (allP2 h35 (allP2 h35 (allP2 h36 (allP2 h36 (allP2 h36 (allP2 h36 (allP1 h36)))))))))) (allC1 (by kernel_rfl) (ref_Told_ok h38) (by kernel_rfl) (allC1 (by kernel_rfl) (ref_Nows_ok h40) (by kernel_rfl) allC0)) (by kernel_rfl) allP0 ?_
          exact exQ_mk (by kernel_rfl) (by kernel_rfl)
        · replace h := ofF h36 h
          obtain rfl := Option.some.inj h
          refine W_draw2 14 [(6, .known true), (8, .known true), (10, .known true), (12, .known true), (15, .val (.dat .bool true)), (18, .known false), (20, .known false), (22, .known false), (24, .known false), (27, .val (.dat .bool false))] [] [6] [] (fr' := [(6, aB false)]) (L' := []) (out := [(50, aI r1.2.2), (51, aB (r1.2.2 == (0 : Int))), (52, aB (r1.2.2 == (0 : Int))), (53, aI r1.2.1), (54, .one (.ptr 11 3)), (55, aI r21.2.2.1), (56, aB (r1.2.1 == r21.2.2.1)), (57, aB (r1.2.1 == r21.2.2.1)), (58, aB (r1.2.1 == r21.2.2.1)), (59, .tup []), (60, .tup []), (61, .tup []), (62, .tup []), (63, aB false)]) (obs := [((r1.2.2 == (0 : Int)) = true), ((r1.2.2 == (0 : Int)) = true), ((r1.2.2 == (0 : Int)) = true), ((r1.2.2 == (0 : Int)) = true), ((r1.2.2 == (0 : Int)) = true), ((r1.2.1 == r21.2.2.1) = false), ((r1.2.1 == r21.2.2.1) = false), ((r1.2.1 == r21.2.2.1) = false), ((r1.2.1 == r21.2.2.1) = false), ((r1.2.1 == r21.2.2.1) = false)]) (obs2 := []) (calls := []) (by kernel_rfl) (by kernel_rfl) (by kernel_rfl) (by kernel_rfl) (allP2 h35 (allP2 h35 (allP2 h35 (allP2 h35 (allP2 h35 (allP2 h36 (allP2 h36 (allP2 h36 (allP2 h36 (allP1 h36)))))))))) allC0 (by kernel_rfl) allP0 ?_
          exact exQ_mk (by kernel_rfl) (by kernel_rfl)
      · replace h := ofF h35 h
        obtain rfl := Option.some.inj h
        refine W_draw2 14 [(6, .known false), (8, .known false), (10, .known false), (12, .known false), (15, .val (.dat .bool false)), (18, .known false), (20, .known false), (22, .known false), (24, .known false), (27, .val (.dat .bool false))] [] [6] [] (fr' := [(6, aB false)]) (L' := []) (out := [(50, aI r1.2.2), (51, aB (r1.2.2 == (0 : Int))), (52, aB (r1.2.2 == (0 : Int))), (53, .tup []), (54, .tup []), (55, .tup []), (56, .tup []), (57, aB false), (58, aB false), (59, .tup []), (60, .tup []), (61, .tup []), (62, .tup []), (63, aB false)]) (obs := [((r1.2.2 == (0 : Int)) = false), ((r1.2.2 == (0 : Int)) = false), ((r1.2.2 == (0 : Int)) = false), ((r1.2.2 == (0 : Int)) = false), ((r1.2.2 == (0 : Int)) = false), (false = false), (false = false), (false = false), (false = false), (false = false)]) (obs2 := []) (calls := []) (by kernel_rfl) (by kernel_rfl) (by kernel_rfl) (by kernel_rfl) (allP2 h35 (allP2 h35 (allP2 h35 (allP2 h35 (allP2 h35 (allP2 rfl (allP2 rfl (allP2 rfl (allP2 rfl (allP1 rfl)))))))))) allC0 (by kernel_rfl) allP0 ?_
        exact exQ_mk (by kernel_rfl) (by kernel_rfl)
    · intro e fr L hJ
      obtain ⟨rfl, rfl, rfl⟩ := hJ
      refine LT_keep [6] [] (fr' := [(6, aB v41)]) (L' := []) (by kernel_rfl) ?_
      refine seqQ_norm ?_
      obtain rfl := Option.some.inj h
      refine W_ret [6] [] (fr' := [(6, aB v41)]) (L' := []) (by kernel_rfl) (by kernel_rfl) ?_
      exact retQ_mk (by kernel_rfl) (by kernel_rfl) (by kernel_rfl)
end Go.Proofs.Ytpkbglckacoccaa.tapeGoes
