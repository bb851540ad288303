/- What the functions that TopTwo calls compute, as models, and that they compute it: written by a program of mine. -/
import Derived.Test.YtbjfglckfknheaaProg
import Derived.Test.YtbjfglckfknheaaTopTwoM1
set_option linter.all false
set_option maxRecDepth 100000
namespace Go.Proofs.Ytbjfglckfknheaa.topTwo
open Go Go.Sl
noncomputable def ref_Counted_b1 (a0 : (List (Int × (Int × (Int × Int))))) (a3 : Int) (x12 : (Int × Int × (List Int))) : Option (Flow (Int × Int × (List Int)) (Int × Int × (List Int))) :=
bif (decide (x12.2.1 < a3)) && (decide (x12.1 < (List.length a0 : Int))) then
((idx a0 x12.1).bind fun v23 =>
bif v23.1 == (1 : Int) then
((idx x12.2.2 v23.2.1).bind fun v26 =>
some (.next (v23.2.2.1, w64 (x12.2.1 + (1 : Int)), List.set x12.2.2 (Int.toNat v23.2.1) (w64 (v26 + (1 : Int))))))
else
((idx x12.2.2 v23.2.1).bind fun v28 =>
bif decide (v28 > (0 : Int)) then
(some (.next (v23.2.2.1, w64 (x12.2.1 + (1 : Int)), List.set x12.2.2 (Int.toNat v23.2.1) (w64 (v28 - (1 : Int))))))
else
(some (.next (v23.2.2.2, w64 (x12.2.1 + (1 : Int)), x12.2.2)))))
else
(some (.done (x12.1, x12.2.1, x12.2.2)))
@[reducible] def ref_Counted_s2 (a0 : (List (Int × (Int × (Int × Int))))) (a3 : Int) (v : (Int × Int × (List Int))) : Fr × LL := ([(0, aD (.slice (.pair tI (.pair tI (.pair tI tI)))) a0), (2, aI v.1), (3, aI a3), (11, .one (.slc 14)), (12, aI v.2.1)], [(14, .seq tI v.2.2)])
@[reducible] def ref_Counted_s3 (v : (Int × Int × (List Int))) : Fr × LL := ([(2, aI v.1), (11, .one (.slc 14)), (12, aI v.2.1)], [(14, .seq tI v.2.2)])
noncomputable def ref_Counted (fuel : Nat) (a0 : (List (Int × (Int × (Int × Int))))) (a1 : (List Int)) (a2 : Int) (a3 : Int) : Option ((List Int) × Int × Int) :=
(ck ((0 : Int) + (List.length a1 : Int) ≤ 4294967296)).bind fun _ =>
(iter (ref_Counted_b1 a0 a3) fuel (a2, (0 : Int), [] ++ a1)).bind fun v31 =>
some (v31.2.2, v31.1, v31.2.1)
theorem ref_Counted_ok {fuel : Nat} {a0 : (List (Int × (Int × (Int × Int))))} {a1 : (List Int)} {a2 : Int} {a3 : Int} {r : ((List Int) × Int × Int)} (h : ref_Counted fuel a0 a1 a2 a3 = some r) : FnC Try.prog 17 [aD (.slice (.pair tI (.pair tI (.pair tI tI)))) a0, aD (.slice tI) a1, aI a2, aI a3] [] (.tup [.dat (.slice tI) r.1, .dat tI r.2.1, .dat tI r.2.2]) [] := by
  refine fnC_of_W (B := bodyOf Try.f17) (n := 70) Try.func17 (by kernel_rfl) (by kernel_rfl) (by kernel_rfl) (by kernel_rfl) (by kernel_rfl) ?_
  intro K
  refine W_seq (by kernel_rfl) ?_
  refine W_run 3 [] [0, 1, 2, 3] [] (fr' := [(0, aD (.slice (.pair tI (.pair tI (.pair tI tI)))) a0), (1, aD (.slice tI) a1), (2, aI a2), (3, aI a3)]) (L' := []) (obs := []) (by kernel_rfl) (by kernel_rfl) (by kernel_rfl) allP0 ?_
  refine seqQ_norm ?_
  refine W_seq (by kernel_rfl) ?_
  obtain ⟨_, h1, h⟩ := bind_of h
  replace h1 := ck_some h1
  refine W_run 4 [] [0, 2, 3, 11] [14] (fr' := [(0, aD (.slice (.pair tI (.pair tI (.pair tI tI)))) a0), (2, aI a2), (3, aI a3), (11, .one (.slc 14))]) (L' := [(14, .seq tI ([] ++ a1))]) (obs := [SmallLen (List.length ([] : (List Int)) + List.length a1)]) (by kernel_rfl) (by kernel_rfl) (by kernel_rfl) (allP1 h1) ?_
  refine seqQ_norm ?_
  refine W_seq (by kernel_rfl) ?_
  refine W_run 1 [] [0, 2, 3, 11, 12] [14] (fr' := [(0, aD (.slice (.pair tI (.pair tI (.pair tI tI)))) a0), (2, aI a2), (3, aI a3), (11, .one (.slc 14)), (12, aI (0 : Int))]) (L' := [(14, .seq tI ([] ++ a1))]) (obs := []) (by kernel_rfl) (by kernel_rfl) (by kernel_rfl) allP0 ?_
  refine seqQ_norm ?_
  refine W_seq (by kernel_rfl) ?_
  refine W_block (id := 0) (by kernel_rfl) ?_
  obtain ⟨v31, h32, h⟩ := bind_of h
  refine W_weaken [0, 2, 3, 11, 12] [14] (fr' := ((ref_Counted_s2 a0 a3) (a2, (0 : Int), [] ++ a1)).1) (L' := ((ref_Counted_s2 a0 a3) (a2, (0 : Int), [] ++ a1)).2) (by kernel_rfl) ?_
  refine W_cutK (W_loop (S := (ref_Counted_s2 a0 a3)) (J := (exQ (.exit 0) ref_Counted_s3)) (by kernel_rfl) ?_ fuel _ v31 h32) ?_
  · rintro x12 s h
    refine W_seq (by kernel_rfl) ?_
    refine W_seq (by kernel_rfl) ?_
    refine W_run 9 [] [0, 2, 3, 11, 12, 25] [14] (fr' := [(0, aD (.slice (.pair tI (.pair tI (.pair tI tI)))) a0), (2, aI x12.1), (3, aI a3), (11, .one (.slc 14)), (12, aI x12.2.1), (25, aB ((decide (x12.2.1 < a3)) && (decide (x12.1 < (List.length a0 : Int)))))]) (L' := [(14, .seq tI x12.2.2)]) (obs := []) (by kernel_rfl) (by kernel_rfl) (by kernel_rfl) allP0 ?_
    refine seqQ_norm ?_
    refine W_cond (o := .tmp 25) (b := (decide (x12.2.1 < a3)) && (decide (x12.1 < (List.length a0 : Int)))) (by kernel_rfl) (by kernel_rfl) (fun h22 => ?_) (fun h22 => ?_)
    · replace h := ofT h22 h
      refine W_skip [0, 2, 3, 11, 12] [14] (fr' := [(0, aD (.slice (.pair tI (.pair tI (.pair tI tI)))) a0), (2, aI x12.1), (3, aI a3), (11, .one (.slc 14)), (12, aI x12.2.1)]) (L' := [(14, .seq tI x12.2.2)]) (by kernel_rfl) (by kernel_rfl) ?_
      refine seqQ_norm ?_
      refine W_block (id := 1) (by kernel_rfl) ?_
      refine W_seq (by kernel_rfl) ?_
      obtain ⟨v23, h24, h⟩ := bind_of h
      refine W_run 6 [(5, .val (.dat (.pair tI (.pair tI (.pair tI tI))) v23)), (9, .typed)] [0, 3, 11, 12, 13] [14, 13] (fr' := [(0, aD (.slice (.pair tI (.pair tI (.pair tI tI)))) a0), (3, aI a3), (11, .one (.slc 14)), (12, aI x12.2.1), (13, .one (.ptr 13 0))]) (L' := [(14, .seq tI x12.2.2), (13, .one (.pair tI (.pair tI (.pair tI tI))) v23)]) (obs := [Idx a0 x12.1 v23, True]) (by kernel_rfl) (by kernel_rfl) (by kernel_rfl) (allP2 (Idx.of h24) (allP1 trivial)) ?_
      refine seqQ_norm ?_
      refine W_seq (by kernel_rfl) ?_
      refine W_run 3 [] [0, 3, 11, 12, 13] [14, 13] (fr' := [(0, aD (.slice (.pair tI (.pair tI (.pair tI tI)))) a0), (3, aI a3), (11, .one (.slc 14)), (12, aI (w64 (x12.2.1 + (1 : Int)))), (13, .one (.ptr 13 0))]) (L' := [(14, .seq tI x12.2.2), (13, .one (.pair tI (.pair tI (.pair tI tI))) v23)]) (obs := []) (by kernel_rfl) (by kernel_rfl) (by kernel_rfl) allP0 ?_
      refine seqQ_norm ?_
      refine W_seq (by kernel_rfl) ?_
      refine W_run 3 [] [0, 3, 11, 12, 13, 34] [14, 13] (fr' := [(0, aD (.slice (.pair tI (.pair tI (.pair tI tI)))) a0), (3, aI a3), (11, .one (.slc 14)), (12, aI (w64 (x12.2.1 + (1 : Int)))), (13, .one (.ptr 13 0)), (34, aB (v23.1 == (1 : Int)))]) (L' := [(14, .seq tI x12.2.2), (13, .one (.pair tI (.pair tI (.pair tI tI))) v23)]) (obs := []) (by kernel_rfl) (by kernel_rfl) (by kernel_rfl) allP0 ?_
      refine seqQ_norm ?_
      refine W_cond (o := .tmp 34) (b := v23.1 == (1 : Int)) (by kernel_rfl) (by kernel_rfl) (fun h25 => ?_) (fun h25 => ?_)
      · replace h := ofT h25 h
        refine W_seq (by kernel_rfl) ?_
        obtain ⟨v26, h27, h⟩ := bind_of h
        refine W_draw2 9 [(15, .val (.dat tI v26))] [] [0, 3, 11, 12, 13] [14, 13] (fr' := [(0, aD (.slice (.pair tI (.pair tI (.pair tI tI)))) a0), (3, aI a3), (11, .one (.slc 14)), (12, aI (w64 (x12.2.1 + (1 : Int)))), (13, .one (.ptr 13 0))]) (L' := [(14, .seq tI (List.set x12.2.2 (Int.toNat v23.2.1) (w64 (v26 + (1 : Int))))), (13, .one (.pair tI (.pair tI (.pair tI tI))) v23)]) (out := [(35, .one (.slc 14)), (36, .one (.ptr 13 1)), (37, aI v23.2.1), (38, .one (.slc 14)), (39, .one (.ptr 13 1)), (40, aI v23.2.1), (41, .one (.eptr 14 1 v23.2.1 0)), (42, aI v26), (43, aI (w64 (v26 + (1 : Int))))]) (obs := [InR v23.2.1 (List.length x12.2.2), Idx x12.2.2 v23.2.1 v26]) (obs2 := [InR v23.2.1 (List.length x12.2.2), InR v23.2.1 (List.length x12.2.2)]) (calls := []) (by kernel_rfl) (by kernel_rfl) (by kernel_rfl) (by kernel_rfl) (allP2 (InR.of h27) (allP1 (Idx.of h27))) allC0 (by kernel_rfl) (allP2 (InR.of h27) (allP1 (InR.of h27))) ?_
        refine seqQ_norm ?_
        obtain rfl := Option.some.inj h
        refine W_run 3 [] [0, 2, 3, 11, 12] [14] (fr' := [(0, aD (.slice (.pair tI (.pair tI (.pair tI tI)))) a0), (2, aI v23.2.2.1), (3, aI a3), (11, .one (.slc 14)), (12, aI (w64 (x12.2.1 + (1 : Int))))]) (L' := [(14, .seq tI (List.set x12.2.2 (Int.toNat v23.2.1) (w64 (v26 + (1 : Int)))))]) (obs := []) (by kernel_rfl) (by kernel_rfl) (by kernel_rfl) allP0 ?_
        refine blockQ_norm ?_
        exact round_next' (by kernel_rfl) (by kernel_rfl)
      · replace h := ofF h25 h
        refine W_seq (by kernel_rfl) ?_
        obtain ⟨v28, h29, h⟩ := bind_of h
        refine W_run 6 [(9, .val (.dat tI v28))] [0, 3, 11, 12, 13, 52] [14, 13] (fr' := [(0, aD (.slice (.pair tI (.pair tI (.pair tI tI)))) a0), (3, aI a3), (11, .one (.slc 14)), (12, aI (w64 (x12.2.1 + (1 : Int)))), (13, .one (.ptr 13 0)), (52, aB (decide (v28 > (0 : Int))))]) (L' := [(14, .seq tI x12.2.2), (13, .one (.pair tI (.pair tI (.pair tI tI))) v23)]) (obs := [InR v23.2.1 (List.length x12.2.2), Idx x12.2.2 v23.2.1 v28]) (by kernel_rfl) (by kernel_rfl) (by kernel_rfl) (allP2 (InR.of h29) (allP1 (Idx.of h29))) ?_
        refine seqQ_norm ?_
        refine W_cond (o := .tmp 52) (b := decide (v28 > (0 : Int))) (by kernel_rfl) (by kernel_rfl) (fun h30 => ?_) (fun h30 => ?_)
        · replace h := ofT h30 h
          refine W_seq (by kernel_rfl) ?_
          refine W_draw2 9 [(15, .val (.dat tI v28))] [] [0, 3, 11, 12, 13] [14, 13] (fr' := [(0, aD (.slice (.pair tI (.pair tI (.pair tI tI)))) a0), (3, aI a3), (11, .one (.slc 14)), (12, aI (w64 (x12.2.1 + (1 : Int)))), (13, .one (.ptr 13 0))]) (L' := [(14, .seq tI (List.set x12.2.2 (Int.toNat v23.2.1) (w64 (v28 - (1 : Int))))), (13, .one (.pair tI (.pair tI (.pair tI tI))) v23)]) (out := [(53, .one (.slc 14)), (54, .one (.ptr 13 1)), (55, aI v23.2.1), (56, .one (.slc 14)), (57, .one (.ptr 13 1)), (58, aI v23.2.1), (59, .one (.eptr 14 1 v23.2.1 0)), (60, aI v28), (61, aI (w64 (v28 - (1 : Int))))]) (obs := [InR v23.2.1 (List.length x12.2.2), Idx x12.2.2 v23.2.1 v28]) (obs2 := [InR v23.2.1 (List.length x12.2.2), InR v23.2.1 (List.length x12.2.2)]) (calls := []) (by kernel_rfl) (by kernel_rfl) (by kernel_rfl) (by kernel_rfl) (allP2 (InR.of h29) (allP1 (Idx.of h29))) allC0 (by kernel_rfl) (allP2 (InR.of h29) (allP1 (InR.of h29))) ?_
          refine seqQ_norm ?_
          obtain rfl := Option.some.inj h
          refine W_run 3 [] [0, 2, 3, 11, 12] [14] (fr' := [(0, aD (.slice (.pair tI (.pair tI (.pair tI tI)))) a0), (2, aI v23.2.2.1), (3, aI a3), (11, .one (.slc 14)), (12, aI (w64 (x12.2.1 + (1 : Int))))]) (L' := [(14, .seq tI (List.set x12.2.2 (Int.toNat v23.2.1) (w64 (v28 - (1 : Int)))))]) (obs := []) (by kernel_rfl) (by kernel_rfl) (by kernel_rfl) allP0 ?_
          refine blockQ_norm ?_
          exact round_next' (by kernel_rfl) (by kernel_rfl)
        · replace h := ofF h30 h
          obtain rfl := Option.some.inj h
          refine W_run 3 [] [0, 2, 3, 11, 12] [14] (fr' := [(0, aD (.slice (.pair tI (.pair tI (.pair tI tI)))) a0), (2, aI v23.2.2.2), (3, aI a3), (11, .one (.slc 14)), (12, aI (w64 (x12.2.1 + (1 : Int))))]) (L' := [(14, .seq tI x12.2.2)]) (obs := []) (by kernel_rfl) (by kernel_rfl) (by kernel_rfl) allP0 ?_
          refine blockQ_norm ?_
          exact round_next' (by kernel_rfl) (by kernel_rfl)
    · replace h := ofF h22 h
      obtain rfl := Option.some.inj h
      refine W_exit (id := 0) [2, 11, 12] [14] (fr' := [(2, aI x12.1), (11, .one (.slc 14)), (12, aI x12.2.1)]) (L' := [(14, .seq tI x12.2.2)]) (by kernel_rfl) (by kernel_rfl) ?_
      refine seqQ_exit ?_
      refine round_exit ?_
      exact exQ_mk (by kernel_rfl) (by kernel_rfl)
  · intro e fr L hJ
    obtain ⟨rfl, rfl, rfl⟩ := hJ
    refine LT_keep [2, 11, 12] [14] (fr' := [(2, aI v31.1), (11, .one (.slc 14)), (12, aI v31.2.1)]) (L' := [(14, .seq tI v31.2.2)]) (by kernel_rfl) ?_
    refine blockQ_hit ?_
    refine seqQ_norm ?_
    refine W_seq (by kernel_rfl) ?_
    refine W_run 6 [] [8, 9, 10] [14] (fr' := [(8, .one (.slc 14)), (9, aI v31.1), (10, aI v31.2.1)]) (L' := [(14, .seq tI v31.2.2)]) (obs := []) (by kernel_rfl) (by kernel_rfl) (by kernel_rfl) allP0 ?_
    refine seqQ_norm ?_
    obtain rfl := Option.some.inj h
    refine W_frz 14 (by kernel_rfl) ?_
    refine W_ret [8, 9, 10] [] (fr' := [(8, aD (.slice tI) v31.2.2), (9, aI v31.1), (10, aI v31.2.1)]) (L' := []) (by kernel_rfl) (by kernel_rfl) ?_
    exact retQ_mk (by kernel_rfl) (by kernel_rfl) (by kernel_rfl)

noncomputable def ref_Packed_b7 (i41 : Int) (i55 : Int) (x56 : Int) : Option (Flow Int Int) :=
(idx [(2 : Int), (3 : Int), (5 : Int), (7 : Int)] i41).bind fun v59 =>
some (.next (w64 (x56 * v59)))
@[reducible] def ref_Packed_s8 (a0 : (List Int)) (i41 : Int) (v44 : Int) (v : Int × Int) : Fr × LL := ([(3, aI v.2), (4, aI i41), (5, aI v44), (6, aI v.1), (7, aD (.slice tI) a0), (8, aI (List.length a0 : Int)), (9, aI i41)], [])
@[reducible] def ref_Packed_s9 (a0 : (List Int)) (i41 : Int) (v : Int) : Fr × LL := ([(3, aI v), (7, aD (.slice tI) a0), (8, aI (List.length a0 : Int)), (9, aI i41)], [])
noncomputable def ref_Packed_b10 (i41 : Int) (v44 : Int) (x42 : Int) : Option (Flow Int Int) :=
(forI (0 : Int) v44 (ref_Packed_b7 i41) (fun x56 => x56) x42).bind fun v62 =>
some (.next v62)
@[reducible] def ref_Packed_s11 (a0 : (List Int)) (v : Int × Int) : Fr × LL := ([(3, aI v.2), (7, aD (.slice tI) a0), (8, aI (List.length a0 : Int)), (9, aI v.1)], [])
@[reducible] def ref_Packed_s12 (v : Int) : Fr × LL := ([(3, aI v)], [])
noncomputable def ref_Packed (a0 : (List Int)) : Option Int :=
(forL ref_Packed_b10 (fun x42 => x42) a0 0 (1 : Int)).bind fun v67 =>
some v67
theorem ref_Packed_ok {a0 : (List Int)} {r : Int} (h : ref_Packed a0 = some r) : FnC Try.prog 27 [aD (.slice tI) a0] [] (aI r) [] := by
  refine fnC_of_W (B := bodyOf Try.f27) (n := 27) Try.func27 (by kernel_rfl) (by kernel_rfl) (by kernel_rfl) (by kernel_rfl) (by kernel_rfl) ?_
  intro K
  refine W_seq (by kernel_rfl) ?_
  refine W_run 1 [] [0] [] (fr' := [(0, aD (.slice tI) a0)]) (L' := []) (obs := []) (by kernel_rfl) (by kernel_rfl) (by kernel_rfl) allP0 ?_
  refine seqQ_norm ?_
  refine W_seq (by kernel_rfl) ?_
  refine W_run 1 [] [0, 3] [] (fr' := [(0, aD (.slice tI) a0), (3, aI (1 : Int))]) (L' := []) (obs := []) (by kernel_rfl) (by kernel_rfl) (by kernel_rfl) allP0 ?_
  refine seqQ_norm ?_
  refine W_seq (by kernel_rfl) ?_
  refine W_seq (by kernel_rfl) ?_
  refine W_run 3 [] [3, 7, 8, 9] [] (fr' := [(3, aI (1 : Int)), (7, aD (.slice tI) a0), (8, aI (List.length a0 : Int)), (9, aI (0 : Int))]) (L' := []) (obs := []) (by kernel_rfl) (by kernel_rfl) (by kernel_rfl) allP0 ?_
  refine seqQ_norm ?_
  refine W_block (id := 0) (by kernel_rfl) ?_
  obtain ⟨v67, h68, h⟩ := bind_of h
  refine W_len (t := 7) (u := tI) (xs := a0) (by kernel_rfl) (fun h71 => ?_)
  obtain ⟨h69, h70⟩ := forL_iter h71 h68
  refine W_weaken [3, 7, 8, 9] [] (fr' := ((ref_Packed_s11 a0) ((0 : Int), (1 : Int))).1) (L' := ((ref_Packed_s11 a0) ((0 : Int), (1 : Int))).2) (by kernel_rfl) ?_
  refine W_cutK (W_loop (S := (ref_Packed_s11 a0)) (J := (exQ (.exit 0) ref_Packed_s12)) (by kernel_rfl) ?_ h69 _ v67 h70) ?_
  · rintro ⟨i41, x42⟩ s h
    refine W_seq (by kernel_rfl) ?_
    refine W_run 1 [] [3, 7, 8, 9, 10] [] (fr' := [(3, aI x42), (7, aD (.slice tI) a0), (8, aI (List.length a0 : Int)), (9, aI i41), (10, aB (decide (i41 < (List.length a0 : Int))))]) (L' := []) (obs := []) (by kernel_rfl) (by kernel_rfl) (by kernel_rfl) allP0 ?_
    refine seqQ_norm ?_
    refine W_seq (by kernel_rfl) ?_
    refine W_cond (o := .tmp 10) (b := decide (i41 < (List.length a0 : Int))) (by kernel_rfl) (by kernel_rfl) (fun h46 => ?_) (fun h46 => ?_)
    · replace h := stepL_true h46 h
      obtain ⟨v44, _, h45, h, rfl⟩ := h
      refine W_skip [3, 7, 8, 9] [] (fr' := [(3, aI x42), (7, aD (.slice tI) a0), (8, aI (List.length a0 : Int)), (9, aI i41)]) (L' := []) (by kernel_rfl) (by kernel_rfl) ?_
      refine seqQ_norm ?_
      refine W_seq (by kernel_rfl) ?_
      refine W_block (id := 1) (by kernel_rfl) ?_
      refine W_seq (by kernel_rfl) ?_
      refine W_run 5 [(3, .val (.dat tI v44))] [3, 4, 5, 7, 8, 9] [] (fr' := [(3, aI x42), (4, aI i41), (5, aI v44), (7, aD (.slice tI) a0), (8, aI (List.length a0 : Int)), (9, aI i41)]) (L' := []) (obs := [Idx a0 i41 v44]) (by kernel_rfl) (by kernel_rfl) (by kernel_rfl) (allP1 (Idx.of h45)) ?_
      refine seqQ_norm ?_
      refine W_seq (by kernel_rfl) ?_
      refine W_run 1 [] [3, 4, 5, 6, 7, 8, 9] [] (fr' := [(3, aI x42), (4, aI i41), (5, aI v44), (6, aI (0 : Int)), (7, aD (.slice tI) a0), (8, aI (List.length a0 : Int)), (9, aI i41)]) (L' := []) (obs := []) (by kernel_rfl) (by kernel_rfl) (by kernel_rfl) allP0 ?_
      refine seqQ_norm ?_
      refine W_block (id := 2) (by kernel_rfl) ?_
      obtain ⟨v62, h63, h⟩ := bind_of h
      obtain ⟨h64, h65⟩ := forI_iter h63
      refine W_weaken [3, 4, 5, 6, 7, 8, 9] [] (fr' := ((ref_Packed_s8 a0 i41 v44) ((0 : Int), x42)).1) (L' := ((ref_Packed_s8 a0 i41 v44) ((0 : Int), x42)).2) (by kernel_rfl) ?_
      refine W_cutK (W_loop (S := (ref_Packed_s8 a0 i41 v44)) (J := (exQ (.exit 2) (ref_Packed_s9 a0 i41))) (by kernel_rfl) ?_ h64 _ v62 h65) ?_
      · rintro ⟨i55, x56⟩ s h
        refine W_seq (by kernel_rfl) ?_
        refine W_seq (by kernel_rfl) ?_
        refine W_run 3 [] [3, 4, 5, 6, 7, 8, 9, 16] [] (fr' := [(3, aI x56), (4, aI i41), (5, aI v44), (6, aI i55), (7, aD (.slice tI) a0), (8, aI (List.length a0 : Int)), (9, aI i41), (16, aB (decide (i55 < v44)))]) (L' := []) (obs := []) (by kernel_rfl) (by kernel_rfl) (by kernel_rfl) allP0 ?_
        refine seqQ_norm ?_
        refine W_cond (o := .tmp 16) (b := decide (i55 < v44)) (by kernel_rfl) (by kernel_rfl) (fun h58 => ?_) (fun h58 => ?_)
        · replace h := stepI_true h58 h
          obtain ⟨_, h, rfl⟩ := h
          refine W_skip [3, 4, 5, 6, 7, 8, 9] [] (fr' := [(3, aI x56), (4, aI i41), (5, aI v44), (6, aI i55), (7, aD (.slice tI) a0), (8, aI (List.length a0 : Int)), (9, aI i41)]) (L' := []) (by kernel_rfl) (by kernel_rfl) ?_
          refine seqQ_norm ?_
          refine W_seq (by kernel_rfl) ?_
          refine W_block (id := 3) (by kernel_rfl) ?_
          obtain ⟨v59, h60, h⟩ := bind_of h
          refine W_run 7 [(9, .val (.dat tI v59))] [3, 4, 5, 6, 7, 8, 9] [] (fr' := [(3, aI (w64 (x56 * v59))), (4, aI i41), (5, aI v44), (6, aI i55), (7, aD (.slice tI) a0), (8, aI (List.length a0 : Int)), (9, aI i41)]) (L' := []) (obs := [InR i41 (List.length [(2 : Int), (3 : Int), (5 : Int), (7 : Int)]), Idx [(2 : Int), (3 : Int), (5 : Int), (7 : Int)] i41 v59]) (by kernel_rfl) (by kernel_rfl) (by kernel_rfl) (allP2 (InR.of h60) (allP1 (Idx.of h60))) ?_
          refine blockQ_norm ?_
          refine seqQ_norm ?_
          obtain rfl := Option.some.inj h
          refine W_run 3 [] [3, 4, 5, 6, 7, 8, 9] [] (fr' := [(3, aI (w64 (x56 * v59))), (4, aI i41), (5, aI v44), (6, aI (w64 (i55 + (1 : Int)))), (7, aD (.slice tI) a0), (8, aI (List.length a0 : Int)), (9, aI i41)]) (L' := []) (obs := []) (by kernel_rfl) (by kernel_rfl) (by kernel_rfl) allP0 ?_
          exact round_next' (by kernel_rfl) (by kernel_rfl)
        · obtain rfl := stepI_false h58 h
          refine W_exit (id := 2) [3, 7, 8, 9] [] (fr' := [(3, aI x56), (7, aD (.slice tI) a0), (8, aI (List.length a0 : Int)), (9, aI i41)]) (L' := []) (by kernel_rfl) (by kernel_rfl) ?_
          refine seqQ_exit ?_
          refine round_exit ?_
          exact exQ_mk (by kernel_rfl) (by kernel_rfl)
      · intro e fr L hJ
        obtain ⟨rfl, rfl, rfl⟩ := hJ
        refine LT_keep [3, 7, 8, 9] [] (fr' := [(3, aI v62), (7, aD (.slice tI) a0), (8, aI (List.length a0 : Int)), (9, aI i41)]) (L' := []) (by kernel_rfl) ?_
        refine blockQ_hit ?_
        refine blockQ_norm ?_
        refine seqQ_norm ?_
        obtain rfl := Option.some.inj h
        refine W_run 2 [] [3, 7, 8, 9] [] (fr' := [(3, aI v62), (7, aD (.slice tI) a0), (8, aI (List.length a0 : Int)), (9, aI (w64 (i41 + (1 : Int))))]) (L' := []) (obs := []) (by kernel_rfl) (by kernel_rfl) (by kernel_rfl) allP0 ?_
        exact round_next' (by kernel_rfl) (by kernel_rfl)
    · obtain rfl := stepL_false h46 h
      refine W_exit (id := 0) [3] [] (fr' := [(3, aI x42)]) (L' := []) (by kernel_rfl) (by kernel_rfl) ?_
      refine seqQ_exit ?_
      refine round_exit ?_
      exact exQ_mk (by kernel_rfl) (by kernel_rfl)
  · intro e fr L hJ
    obtain ⟨rfl, rfl, rfl⟩ := hJ
    refine LT_keep [3] [] (fr' := [(3, aI v67)]) (L' := []) (by kernel_rfl) ?_
    refine blockQ_hit ?_
    refine seqQ_norm ?_
    refine W_seq (by kernel_rfl) ?_
    refine W_run 2 [] [2] [] (fr' := [(2, aI v67)]) (L' := []) (obs := []) (by kernel_rfl) (by kernel_rfl) (by kernel_rfl) allP0 ?_
    refine seqQ_norm ?_
    obtain rfl := Option.some.inj h
    refine W_ret [2] [] (fr' := [(2, aI v67)]) (L' := []) (by kernel_rfl) (by kernel_rfl) ?_
    exact retQ_mk (by kernel_rfl) (by kernel_rfl) (by kernel_rfl)

noncomputable def top_TopTwo_g1 (r1 : ((List (Int × (Int × (Int × Int)))) × (List Int) × Int)) (r6 : ((List Int) × Int × Int × Int)) (r8 : (Int × Int)) : Option Bool :=
bif (((((r1.2.2 != (0 : Int)) || (r6.2.2.2 != (0 : Int))) || (r8.2 != (0 : Int))) || ((List.length r1.2.1 : Int) == (0 : Int))) || (decide (r8.1 < (1 : Int)))) || ((List.length r6.1 : Int) != (1 : Int)) then
(some true)
else
((ref_OrdersCheck (2 : Int) r1.1).bind fun r17 =>
some (r17 != (0 : Int)))
noncomputable def top_TopTwo_b2 (a0 : (List (Int × (Int × (Int × Int))))) (a1 : Int) (fuel : Nat) (x30 : Int) : Option (Flow Int (Esc Bool Unit)) :=
bif decide (x30 ≤ (40 : Int)) then
((ref_Counted fuel a0 [Int.tmod (w64 (a1)) (4 : Int)] (0 : Int) x30).bind fun r38 =>
(idx r38.1 (0 : Int)).bind fun v40 =>
bif decide (v40 > (8 : Int)) then
(some (.done (.ret true)))
else
(some (.next (w64 (x30 + (1 : Int))))))
else
(some (.done (.brk ())))
@[reducible] def top_TopTwo_s3 (a0 : (List (Int × (Int × (Int × Int))))) (a1 : Int) (r1 : ((List (Int × (Int × (Int × Int)))) × (List Int) × Int)) (r6 : ((List Int) × Int × Int × Int)) (r8 : (Int × Int)) (v : Int) : Fr × LL := ([(0, aD (.slice (.pair tI (.pair tI (.pair tI tI)))) a0), (5, aD (.slice (.pair tI (.pair tI (.pair tI tI)))) r1.1), (6, aD (.slice tI) r1.2.1), (8, aI (Int.tmod (w64 (a1)) (4 : Int))), (9, aD (.slice tI) r6.1), (13, aI r8.1), (15, aI v)], [])
@[reducible] def top_TopTwo_s4 (v : Bool) : Fr × LL := ([(4, aB v)], [])
@[reducible] def top_TopTwo_s5 (r1 : ((List (Int × (Int × (Int × Int)))) × (List Int) × Int)) (r6 : ((List Int) × Int × Int × Int)) (r8 : (Int × Int)) (v : Unit) : Fr × LL := ([(5, aD (.slice (.pair tI (.pair tI (.pair tI tI)))) r1.1), (6, aD (.slice tI) r1.2.1), (9, aD (.slice tI) r6.1), (13, aI r8.1)], [])
noncomputable def top_TopTwo_g6 (r1 : ((List (Int × (Int × (Int × Int)))) × (List Int) × Int)) (r6 : ((List Int) × Int × Int × Int)) (r51 : ((List Int) × Int × Int)) : Option Bool :=
bif r51.2.1 == (List.length r1.1 : Int) then
((idx r51.1 (1 : Int)).bind fun v70 =>
bif v70 == (0 : Int) then
((idx r51.1 (0 : Int)).bind fun v73 =>
(ref_Packed r6.1).bind fun r75 =>
some (v73 == r75))
else
(some false))
else
(some false)
@[reducible] def top_TopTwo_s7 (v : Bool) : Fr × LL := ([(4, aB v)], [])
@[reducible] def top_TopTwo_s8 (a0 : (List (Int × (Int × (Int × Int))))) (a1 : Int) (r1 : ((List (Int × (Int × (Int × Int)))) × (List Int) × Int)) (r6 : ((List Int) × Int × Int × Int)) (r8 : (Int × Int)) (v : Bool) : Fr × LL := ([(0, aD (.slice (.pair tI (.pair tI (.pair tI tI)))) a0), (5, aD (.slice (.pair tI (.pair tI (.pair tI tI)))) r1.1), (6, aD (.slice tI) r1.2.1), (8, aI (Int.tmod (w64 (a1)) (4 : Int))), (9, aD (.slice tI) r6.1), (10, aI r6.2.1), (13, aI r8.1), (79, aB v)], [])
noncomputable def top_TopTwo (fuel : Nat) (a0 : (List (Int × (Int × (Int × Int))))) (a1 : Int) : Option Bool :=
(two_Build (1 : Int) a0).bind fun r1 =>
(ref_CountCheck (1 : Int) a0).bind fun r3 =>
bif r3 != (0 : Int) then
(some (r1.2.2 != (0 : Int)))
else
((count_Run fuel (1 : Int) a0 [Int.tmod (w64 (a1)) (4 : Int)] (40 : Int)).bind fun r6 =>
(two_Pack [Int.tmod (w64 (a1)) (4 : Int)]).bind fun r8 =>
(top_TopTwo_g1 r1 r6 r8).bind fun v19 =>
bif v19 then
(some false)
else
(bif decide (r6.2.1 < (List.length a0 : Int)) then
(some true)
else
((iter (top_TopTwo_b2 a0 a1 fuel) fuel (0 : Int)).bind fun v43 =>
match v43 with
| .ret v47 =>
(some v47)
| .brk v48 =>
((idx r1.2.1 (0 : Int)).bind fun v49 =>
(ref_Counted fuel r1.1 [r8.1, (0 : Int)] v49 (3000000 : Int)).bind fun r51 =>
(top_TopTwo_g6 r1 r6 r51).bind fun v77 =>
some v77))))
theorem top_TopTwo_ok {fuel : Nat} {a0 : (List (Int × (Int × (Int × Int))))} {a1 : Int} {r : Bool} (h : top_TopTwo fuel a0 a1 = some r) : FnC Try.prog 8 [aD (.slice (.pair tI (.pair tI (.pair tI tI)))) a0, aD (.int .u8) a1] [] (aB r) [] := by
  refine fnC_of_W (B := bodyOf Try.f8) (n := 130) Try.func8 (by kernel_rfl) (by kernel_rfl) (by kernel_rfl) (by kernel_rfl) (by kernel_rfl) ?_
  intro K
  refine W_seq (by kernel_rfl) ?_
  refine W_run 1 [] [0, 1] [] (fr' := [(0, aD (.slice (.pair tI (.pair tI (.pair tI tI)))) a0), (1, aD (.int .u8) a1)]) (L' := []) (obs := []) (by kernel_rfl) (by kernel_rfl) (by kernel_rfl) allP0 ?_
  refine seqQ_norm ?_
  refine W_seq (by kernel_rfl) ?_
  refine W_region (by kernel_rfl) ?_
  refine WO_run (j := 1) (k := 1) (orcs := []) (kF := [0, 1, 23]) (kL := []) (fr' := [(0, aD (.slice (.pair tI (.pair tI (.pair tI tI)))) a0), (1, aD (.int .u8) a1), (23, aD (.slice (.pair tI (.pair tI (.pair tI tI)))) a0)]) (L' := []) (obs := []) rfl (by kernel_rfl) allP0 ?_
  obtain ⟨r1, h2, h⟩ := bind_of h
  refine WO_call0 (us := [none, none]) (d := 24) (p := True) (j := 2) rfl ⟨by kernel_rfl, by kernel_rfl, by kernel_rfl⟩ trivial (two_Build_ok h2) (by kernel_rfl) ?_
  refine WO_run (j := 9) (k := 7) (orcs := []) (kF := [0, 1, 5, 6, 7]) (kL := []) (fr' := [(0, aD (.slice (.pair tI (.pair tI (.pair tI tI)))) a0), (1, aD (.int .u8) a1), (5, aD (.slice (.pair tI (.pair tI (.pair tI tI)))) r1.1), (6, aD (.slice tI) r1.2.1), (7, aI r1.2.2)]) (L' := []) (obs := []) rfl (by kernel_rfl) allP0 ?_
  refine WO_fin [0, 1, 5, 6, 7] [] (fr' := [(0, aD (.slice (.pair tI (.pair tI (.pair tI tI)))) a0), (1, aD (.int .u8) a1), (5, aD (.slice (.pair tI (.pair tI (.pair tI tI)))) r1.1), (6, aD (.slice tI) r1.2.1), (7, aI r1.2.2)]) (L' := []) (by kernel_rfl) (by kernel_rfl) ?_
  refine seqQ_norm ?_
  refine W_seq (by kernel_rfl) ?_
  refine W_seq (by kernel_rfl) ?_
  refine W_region (by kernel_rfl) ?_
  refine WO_run (j := 1) (k := 1) (orcs := []) (kF := [0, 1, 5, 6, 7, 28]) (kL := []) (fr' := [(0, aD (.slice (.pair tI (.pair tI (.pair tI tI)))) a0), (1, aD (.int .u8) a1), (5, aD (.slice (.pair tI (.pair tI (.pair tI tI)))) r1.1), (6, aD (.slice tI) r1.2.1), (7, aI r1.2.2), (28, aD (.slice (.pair tI (.pair tI (.pair tI tI)))) a0)]) (L' := []) (obs := []) rfl (by kernel_rfl) allP0 ?_
  obtain ⟨r3, h4, h⟩ := bind_of h
  refine WO_call0 (us := [none, none]) (d := 29) (p := True) (j := 2) rfl ⟨by kernel_rfl, by kernel_rfl, by kernel_rfl⟩ trivial (ref_CountCheck_ok h4) (by kernel_rfl) ?_
  refine WO_run (j := 3) (k := 1) (orcs := []) (kF := [0, 1, 5, 6, 7, 30]) (kL := []) (fr' := [(0, aD (.slice (.pair tI (.pair tI (.pair tI tI)))) a0), (1, aD (.int .u8) a1), (5, aD (.slice (.pair tI (.pair tI (.pair tI tI)))) r1.1), (6, aD (.slice tI) r1.2.1), (7, aI r1.2.2), (30, aB (r3 != (0 : Int)))]) (L' := []) (obs := []) rfl (by kernel_rfl) allP0 ?_
  refine WO_fin [0, 1, 5, 6, 7, 30] [] (fr' := [(0, aD (.slice (.pair tI (.pair tI (.pair tI tI)))) a0), (1, aD (.int .u8) a1), (5, aD (.slice (.pair tI (.pair tI (.pair tI tI)))) r1.1), (6, aD (.slice tI) r1.2.1), (7, aI r1.2.2), (30, aB (r3 != (0 : Int)))]) (L' := []) (by kernel_rfl) (by kernel_rfl) ?_
  refine seqQ_norm ?_
  refine W_cond (o := .tmp 30) (b := r3 != (0 : Int)) (by kernel_rfl) (by kernel_rfl) (fun h5 => ?_) (fun h5 => ?_)
  · replace h := ofT h5 h
    refine W_seq (by kernel_rfl) ?_
    refine W_run 3 [] [4] [] (fr' := [(4, aB (r1.2.2 != (0 : Int)))]) (L' := []) (obs := []) (by kernel_rfl) (by kernel_rfl) (by kernel_rfl) allP0 ?_
    refine seqQ_norm ?_
    obtain rfl := Option.some.inj h
    refine W_ret [4] [] (fr' := [(4, aB (r1.2.2 != (0 : Int)))]) (L' := []) (by kernel_rfl) (by kernel_rfl) ?_
    refine seqQ_ret ?_
    exact retQ_mk (by kernel_rfl) (by kernel_rfl) (by kernel_rfl)
  · replace h := ofF h5 h
    refine W_skip [0, 1, 5, 6, 7] [] (fr' := [(0, aD (.slice (.pair tI (.pair tI (.pair tI tI)))) a0), (1, aD (.int .u8) a1), (5, aD (.slice (.pair tI (.pair tI (.pair tI tI)))) r1.1), (6, aD (.slice tI) r1.2.1), (7, aI r1.2.2)]) (L' := []) (by kernel_rfl) (by kernel_rfl) ?_
    refine seqQ_norm ?_
    refine W_seq (by kernel_rfl) ?_
    refine W_run 4 [] [0, 5, 6, 7, 8] [] (fr' := [(0, aD (.slice (.pair tI (.pair tI (.pair tI tI)))) a0), (5, aD (.slice (.pair tI (.pair tI (.pair tI tI)))) r1.1), (6, aD (.slice tI) r1.2.1), (7, aI r1.2.2), (8, aI (Int.tmod (w64 (a1)) (4 : Int)))]) (L' := []) (obs := [((4 : Int) ≠ 0)]) (by kernel_rfl) (by kernel_rfl) (by kernel_rfl) (allP1 (by decide)) ?_
    refine seqQ_norm ?_
    refine W_seq (by kernel_rfl) ?_
    refine W_region (by kernel_rfl) ?_
    refine WO_run (j := 3) (k := 3) (orcs := []) (kF := [0, 5, 6, 7, 8, 37, 39]) (kL := [39]) (fr' := [(0, aD (.slice (.pair tI (.pair tI (.pair tI tI)))) a0), (5, aD (.slice (.pair tI (.pair tI (.pair tI tI)))) r1.1), (6, aD (.slice tI) r1.2.1), (7, aI r1.2.2), (8, aI (Int.tmod (w64 (a1)) (4 : Int))), (37, aD (.slice (.pair tI (.pair tI (.pair tI tI)))) a0), (39, .one (.slc 39))]) (L' := [(39, .seq tI [Int.tmod (w64 (a1)) (4 : Int)])]) (obs := []) rfl (by kernel_rfl) allP0 ?_
    obtain ⟨r6, h7, h⟩ := bind_of h
    refine WO_frz 39 (by kernel_rfl) ?_
    refine WO_call0 (us := [none, none, none, none]) (d := 40) (p := True) (j := 4) rfl ⟨by kernel_rfl, by kernel_rfl, by kernel_rfl⟩ trivial (count_Run_ok h7) (by kernel_rfl) ?_
    refine WO_run (j := 13) (k := 9) (orcs := []) (kF := [0, 5, 6, 7, 8, 9, 10, 12]) (kL := []) (fr' := [(0, aD (.slice (.pair tI (.pair tI (.pair tI tI)))) a0), (5, aD (.slice (.pair tI (.pair tI (.pair tI tI)))) r1.1), (6, aD (.slice tI) r1.2.1), (7, aI r1.2.2), (8, aI (Int.tmod (w64 (a1)) (4 : Int))), (9, aD (.slice tI) r6.1), (10, aI r6.2.1), (12, aI r6.2.2.2)]) (L' := []) (obs := []) rfl (by kernel_rfl) allP0 ?_
    refine WO_fin [0, 5, 6, 7, 8, 9, 10, 12] [] (fr' := [(0, aD (.slice (.pair tI (.pair tI (.pair tI tI)))) a0), (5, aD (.slice (.pair tI (.pair tI (.pair tI tI)))) r1.1), (6, aD (.slice tI) r1.2.1), (7, aI r1.2.2), (8, aI (Int.tmod (w64 (a1)) (4 : Int))), (9, aD (.slice tI) r6.1), (10, aI r6.2.1), (12, aI r6.2.2.2)]) (L' := []) (by kernel_rfl) (by kernel_rfl) ?_
    refine seqQ_norm ?_
    refine W_seq (by kernel_rfl) ?_
    refine W_region (by kernel_rfl) ?_
    refine WO_run (j := 2) (k := 2) (orcs := []) (kF := [0, 5, 6, 7, 8, 9, 10, 12, 47]) (kL := [47]) (fr' := [(0, aD (.slice (.pair tI (.pair tI (.pair tI tI)))) a0), (5, aD (.slice (.pair tI (.pair tI (.pair tI tI)))) r1.1), (6, aD (.slice tI) r1.2.1), (7, aI r1.2.2), (8, aI (Int.tmod (w64 (a1)) (4 : Int))), (9, aD (.slice tI) r6.1), (10, aI r6.2.1), (12, aI r6.2.2.2), (47, .one (.slc 47))]) (L' := [(47, .seq tI [Int.tmod (w64 (a1)) (4 : Int)])]) (obs := []) rfl (by kernel_rfl) allP0 ?_
    obtain ⟨r8, h9, h⟩ := bind_of h
    refine WO_frz 47 (by kernel_rfl) ?_
    refine WO_call0 (us := [none]) (d := 48) (p := True) (j := 3) rfl ⟨by kernel_rfl, by kernel_rfl, by kernel_rfl⟩ trivial (two_Pack_ok h9) (by kernel_rfl) ?_
    refine WO_run (j := 8) (k := 5) (orcs := []) (kF := [0, 5, 6, 7, 8, 9, 10, 12, 13, 14]) (kL := []) (fr' := [(0, aD (.slice (.pair tI (.pair tI (.pair tI tI)))) a0), (5, aD (.slice (.pair tI (.pair tI (.pair tI tI)))) r1.1), (6, aD (.slice tI) r1.2.1), (7, aI r1.2.2), (8, aI (Int.tmod (w64 (a1)) (4 : Int))), (9, aD (.slice tI) r6.1), (10, aI r6.2.1), (12, aI r6.2.2.2), (13, aI r8.1), (14, aI r8.2)]) (L' := []) (obs := []) rfl (by kernel_rfl) allP0 ?_
    refine WO_fin [0, 5, 6, 7, 8, 9, 10, 12, 13, 14] [] (fr' := [(0, aD (.slice (.pair tI (.pair tI (.pair tI tI)))) a0), (5, aD (.slice (.pair tI (.pair tI (.pair tI tI)))) r1.1), (6, aD (.slice tI) r1.2.1), (7, aI r1.2.2), (8, aI (Int.tmod (w64 (a1)) (4 : Int))), (9, aD (.slice tI) r6.1), (10, aI r6.2.1), (12, aI r6.2.2.2), (13, aI r8.1), (14, aI r8.2)]) (L' := []) (by kernel_rfl) (by kernel_rfl) ?_
    refine seqQ_norm ?_
    refine W_seq (by kernel_rfl) ?_
    refine W_seq (by kernel_rfl) ?_
    obtain ⟨v19, h20, h⟩ := bind_of h
    refine W_cutK (Q' := (exQ .normal (top_TopTwo_s8 a0 a1 r1 r6 r8)) v19) ?_ ?_
    · replace h := h20
      refine W_region (by kernel_rfl) ?_
      refine WO_run (j := 25) (k := 25) (orcs := []) (kF := [0, 5, 6, 8, 9, 10, 13, 75]) (kL := []) (fr' := [(0, aD (.slice (.pair tI (.pair tI (.pair tI tI)))) a0), (5, aD (.slice (.pair tI (.pair tI (.pair tI tI)))) r1.1), (6, aD (.slice tI) r1.2.1), (8, aI (Int.tmod (w64 (a1)) (4 : Int))), (9, aD (.slice tI) r6.1), (10, aI r6.2.1), (13, aI r8.1), (75, aB ((((((r1.2.2 != (0 : Int)) || (r6.2.2.2 != (0 : Int))) || (r8.2 != (0 : Int))) || ((List.length r1.2.1 : Int) == (0 : Int))) || (decide (r8.1 < (1 : Int)))) || ((List.length r6.1 : Int) != (1 : Int))))]) (L' := []) (obs := []) rfl (by kernel_rfl) allP0 ?_
      rcases Bool.eq_false_or_eq_true ((((((r1.2.2 != (0 : Int)) || (r6.2.2.2 != (0 : Int))) || (r8.2 != (0 : Int))) || ((List.length r1.2.1 : Int) == (0 : Int))) || (decide (r8.1 < (1 : Int)))) || ((List.length r6.1 : Int) != (1 : Int))) with h16 | h16
      · replace h := ofT h16 h
        refine WO_run (j := 29) (k := 4) (orcs := [(50, .known true), (52, .known true), (54, .known true), (57, .val (.dat .bool true))]) (kF := [0, 5, 6, 8, 9, 10, 13, 79]) (kL := []) (fr' := [(0, aD (.slice (.pair tI (.pair tI (.pair tI tI)))) a0), (5, aD (.slice (.pair tI (.pair tI (.pair tI tI)))) r1.1), (6, aD (.slice tI) r1.2.1), (8, aI (Int.tmod (w64 (a1)) (4 : Int))), (9, aD (.slice tI) r6.1), (10, aI r6.2.1), (13, aI r8.1), (79, aB true)]) (L' := []) (obs := [(((((((r1.2.2 != (0 : Int)) || (r6.2.2.2 != (0 : Int))) || (r8.2 != (0 : Int))) || ((List.length r1.2.1 : Int) == (0 : Int))) || (decide (r8.1 < (1 : Int)))) || ((List.length r6.1 : Int) != (1 : Int))) = true), (((((((r1.2.2 != (0 : Int)) || (r6.2.2.2 != (0 : Int))) || (r8.2 != (0 : Int))) || ((List.length r1.2.1 : Int) == (0 : Int))) || (decide (r8.1 < (1 : Int)))) || ((List.length r6.1 : Int) != (1 : Int))) = true), (((((((r1.2.2 != (0 : Int)) || (r6.2.2.2 != (0 : Int))) || (r8.2 != (0 : Int))) || ((List.length r1.2.1 : Int) == (0 : Int))) || (decide (r8.1 < (1 : Int)))) || ((List.length r6.1 : Int) != (1 : Int))) = true), (((((((r1.2.2 != (0 : Int)) || (r6.2.2.2 != (0 : Int))) || (r8.2 != (0 : Int))) || ((List.length r1.2.1 : Int) == (0 : Int))) || (decide (r8.1 < (1 : Int)))) || ((List.length r6.1 : Int) != (1 : Int))) = true)]) rfl (by kernel_rfl) (allP2 h16 (allP2 h16 (allP2 h16 (allP1 h16)))) ?_
        obtain rfl := Option.some.inj h
        refine WO_fin [0, 5, 6, 8, 9, 10, 13, 79] [] (fr' := [(0, aD (.slice (.pair tI (.pair tI (.pair tI tI)))) a0), (5, aD (.slice (.pair tI (.pair tI (.pair tI tI)))) r1.1), (6, aD (.slice tI) r1.2.1), (8, aI (Int.tmod (w64 (a1)) (4 : Int))), (9, aD (.slice tI) r6.1), (10, aI r6.2.1), (13, aI r8.1), (79, aB true)]) (L' := []) (by kernel_rfl) (by kernel_rfl) ?_
        exact exQ_mk (by kernel_rfl) (by kernel_rfl)
      · replace h := ofF h16 h
        refine WO_run (j := 26) (k := 1) (orcs := [(50, .known false)]) (kF := [0, 5, 6, 8, 9, 10, 13, 75, 76]) (kL := []) (fr' := [(0, aD (.slice (.pair tI (.pair tI (.pair tI tI)))) a0), (5, aD (.slice (.pair tI (.pair tI (.pair tI tI)))) r1.1), (6, aD (.slice tI) r1.2.1), (8, aI (Int.tmod (w64 (a1)) (4 : Int))), (9, aD (.slice tI) r6.1), (10, aI r6.2.1), (13, aI r8.1), (75, aB ((((((r1.2.2 != (0 : Int)) || (r6.2.2.2 != (0 : Int))) || (r8.2 != (0 : Int))) || ((List.length r1.2.1 : Int) == (0 : Int))) || (decide (r8.1 < (1 : Int)))) || ((List.length r6.1 : Int) != (1 : Int)))), (76, aD (.slice (.pair tI (.pair tI (.pair tI tI)))) r1.1)]) (L' := []) (obs := [(((((((r1.2.2 != (0 : Int)) || (r6.2.2.2 != (0 : Int))) || (r8.2 != (0 : Int))) || ((List.length r1.2.1 : Int) == (0 : Int))) || (decide (r8.1 < (1 : Int)))) || ((List.length r6.1 : Int) != (1 : Int))) = false)]) rfl (by kernel_rfl) (allP1 h16) ?_
        obtain ⟨r17, h18, h⟩ := bind_of h
        refine WO_call0 (us := [none, none]) (d := 77) (p := (((((((r1.2.2 != (0 : Int)) || (r6.2.2.2 != (0 : Int))) || (r8.2 != (0 : Int))) || ((List.length r1.2.1 : Int) == (0 : Int))) || (decide (r8.1 < (1 : Int)))) || ((List.length r6.1 : Int) != (1 : Int))) = false)) (j := 27) rfl ⟨by kernel_rfl, by kernel_rfl, by kernel_rfl⟩ h16 (ref_OrdersCheck_ok h18) (by kernel_rfl) ?_
        refine WO_run (j := 29) (k := 2) (orcs := [(54, .known false), (57, .val (.dat .bool false))]) (kF := [0, 5, 6, 8, 9, 10, 13, 79]) (kL := []) (fr' := [(0, aD (.slice (.pair tI (.pair tI (.pair tI tI)))) a0), (5, aD (.slice (.pair tI (.pair tI (.pair tI tI)))) r1.1), (6, aD (.slice tI) r1.2.1), (8, aI (Int.tmod (w64 (a1)) (4 : Int))), (9, aD (.slice tI) r6.1), (10, aI r6.2.1), (13, aI r8.1), (79, aB (r17 != (0 : Int)))]) (L' := []) (obs := [(((((((r1.2.2 != (0 : Int)) || (r6.2.2.2 != (0 : Int))) || (r8.2 != (0 : Int))) || ((List.length r1.2.1 : Int) == (0 : Int))) || (decide (r8.1 < (1 : Int)))) || ((List.length r6.1 : Int) != (1 : Int))) = false), (((((((r1.2.2 != (0 : Int)) || (r6.2.2.2 != (0 : Int))) || (r8.2 != (0 : Int))) || ((List.length r1.2.1 : Int) == (0 : Int))) || (decide (r8.1 < (1 : Int)))) || ((List.length r6.1 : Int) != (1 : Int))) = false)]) rfl (by kernel_rfl) (allP2 h16 (allP1 h16)) ?_
        obtain rfl := Option.some.inj h
        refine WO_fin [0, 5, 6, 8, 9, 10, 13, 79] [] (fr' := [(0, aD (.slice (.pair tI (.pair tI (.pair tI tI)))) a0), (5, aD (.slice (.pair tI (.pair tI (.pair tI tI)))) r1.1), (6, aD (.slice tI) r1.2.1), (8, aI (Int.tmod (w64 (a1)) (4 : Int))), (9, aD (.slice tI) r6.1), (10, aI r6.2.1), (13, aI r8.1), (79, aB (r17 != (0 : Int)))]) (L' := []) (by kernel_rfl) (by kernel_rfl) ?_
        exact exQ_mk (by kernel_rfl) (by kernel_rfl)
    · intro e fr L hJ
      obtain ⟨rfl, rfl, rfl⟩ := hJ
      refine LT_keep [0, 5, 6, 8, 9, 10, 13, 79] [] (fr' := [(0, aD (.slice (.pair tI (.pair tI (.pair tI tI)))) a0), (5, aD (.slice (.pair tI (.pair tI (.pair tI tI)))) r1.1), (6, aD (.slice tI) r1.2.1), (8, aI (Int.tmod (w64 (a1)) (4 : Int))), (9, aD (.slice tI) r6.1), (10, aI r6.2.1), (13, aI r8.1), (79, aB v19)]) (L' := []) (by kernel_rfl) ?_
      refine seqQ_norm ?_
      refine W_cond (o := .tmp 79) (b := v19) (by kernel_rfl) (by kernel_rfl) (fun h21 => ?_) (fun h21 => ?_)
      · replace h := ofT h21 h
        refine W_seq (by kernel_rfl) ?_
        refine W_run 1 [] [4] [] (fr' := [(4, aB false)]) (L' := []) (obs := []) (by kernel_rfl) (by kernel_rfl) (by kernel_rfl) allP0 ?_
        refine seqQ_norm ?_
        obtain rfl := Option.some.inj h
        refine W_ret [4] [] (fr' := [(4, aB false)]) (L' := []) (by kernel_rfl) (by kernel_rfl) ?_
        refine seqQ_ret ?_
        exact retQ_mk (by kernel_rfl) (by kernel_rfl) (by kernel_rfl)
      · replace h := ofF h21 h
        refine W_skip [0, 5, 6, 8, 9, 10, 13] [] (fr' := [(0, aD (.slice (.pair tI (.pair tI (.pair tI tI)))) a0), (5, aD (.slice (.pair tI (.pair tI (.pair tI tI)))) r1.1), (6, aD (.slice tI) r1.2.1), (8, aI (Int.tmod (w64 (a1)) (4 : Int))), (9, aD (.slice tI) r6.1), (10, aI r6.2.1), (13, aI r8.1)]) (L' := []) (by kernel_rfl) (by kernel_rfl) ?_
        refine seqQ_norm ?_
        refine W_seq (by kernel_rfl) ?_
        refine W_seq (by kernel_rfl) ?_
        refine W_run 4 [] [0, 5, 6, 8, 9, 13, 83] [] (fr' := [(0, aD (.slice (.pair tI (.pair tI (.pair tI tI)))) a0), (5, aD (.slice (.pair tI (.pair tI (.pair tI tI)))) r1.1), (6, aD (.slice tI) r1.2.1), (8, aI (Int.tmod (w64 (a1)) (4 : Int))), (9, aD (.slice tI) r6.1), (13, aI r8.1), (83, aB (decide (r6.2.1 < (List.length a0 : Int))))]) (L' := []) (obs := []) (by kernel_rfl) (by kernel_rfl) (by kernel_rfl) allP0 ?_
        refine seqQ_norm ?_
        refine W_cond (o := .tmp 83) (b := decide (r6.2.1 < (List.length a0 : Int))) (by kernel_rfl) (by kernel_rfl) (fun h22 => ?_) (fun h22 => ?_)
        · replace h := ofT h22 h
          refine W_seq (by kernel_rfl) ?_
          refine W_run 1 [] [4] [] (fr' := [(4, aB true)]) (L' := []) (obs := []) (by kernel_rfl) (by kernel_rfl) (by kernel_rfl) allP0 ?_
          refine seqQ_norm ?_
          obtain rfl := Option.some.inj h
          refine W_ret [4] [] (fr' := [(4, aB true)]) (L' := []) (by kernel_rfl) (by kernel_rfl) ?_
          refine seqQ_ret ?_
          exact retQ_mk (by kernel_rfl) (by kernel_rfl) (by kernel_rfl)
        · replace h := ofF h22 h
          refine W_skip [0, 5, 6, 8, 9, 13] [] (fr' := [(0, aD (.slice (.pair tI (.pair tI (.pair tI tI)))) a0), (5, aD (.slice (.pair tI (.pair tI (.pair tI tI)))) r1.1), (6, aD (.slice tI) r1.2.1), (8, aI (Int.tmod (w64 (a1)) (4 : Int))), (9, aD (.slice tI) r6.1), (13, aI r8.1)]) (L' := []) (by kernel_rfl) (by kernel_rfl) ?_
          refine seqQ_norm ?_
          refine W_seq (by kernel_rfl) ?_
          refine W_seq (by kernel_rfl) ?_
          refine W_run 1 [] [0, 5, 6, 8, 9, 13, 15] [] (fr' := [(0, aD (.slice (.pair tI (.pair tI (.pair tI tI)))) a0), (5, aD (.slice (.pair tI (.pair tI (.pair tI tI)))) r1.1), (6, aD (.slice tI) r1.2.1), (8, aI (Int.tmod (w64 (a1)) (4 : Int))), (9, aD (.slice tI) r6.1), (13, aI r8.1), (15, aI (0 : Int))]) (L' := []) (obs := []) (by kernel_rfl) (by kernel_rfl) (by kernel_rfl) allP0 ?_
          refine seqQ_norm ?_
          refine W_block (id := 0) (by kernel_rfl) ?_
          obtain ⟨v43, h44, h⟩ := bind_of h
          refine W_weaken [0, 5, 6, 8, 9, 13, 15] [] (fr' := ((top_TopTwo_s3 a0 a1 r1 r6 r8) (0 : Int)).1) (L' := ((top_TopTwo_s3 a0 a1 r1 r6 r8) (0 : Int)).2) (by kernel_rfl) ?_
          refine W_cutK (W_loop (S := (top_TopTwo_s3 a0 a1 r1 r6 r8)) (J := (escQ (exQ .ret top_TopTwo_s4) (exQ (.exit 0) (top_TopTwo_s5 r1 r6 r8)))) (by kernel_rfl) ?_ fuel _ v43 h44) ?_
          · rintro x30 s h
            refine W_seq (by kernel_rfl) ?_
            refine W_seq (by kernel_rfl) ?_
            refine W_run 2 [] [0, 5, 6, 8, 9, 13, 15, 85] [] (fr' := [(0, aD (.slice (.pair tI (.pair tI (.pair tI tI)))) a0), (5, aD (.slice (.pair tI (.pair tI (.pair tI tI)))) r1.1), (6, aD (.slice tI) r1.2.1), (8, aI (Int.tmod (w64 (a1)) (4 : Int))), (9, aD (.slice tI) r6.1), (13, aI r8.1), (15, aI x30), (85, aB (decide (x30 ≤ (40 : Int))))]) (L' := []) (obs := []) (by kernel_rfl) (by kernel_rfl) (by kernel_rfl) allP0 ?_
            refine seqQ_norm ?_
            refine W_cond (o := .tmp 85) (b := decide (x30 ≤ (40 : Int))) (by kernel_rfl) (by kernel_rfl) (fun h37 => ?_) (fun h37 => ?_)
            · replace h := ofT h37 h
              refine W_skip [0, 5, 6, 8, 9, 13, 15] [] (fr' := [(0, aD (.slice (.pair tI (.pair tI (.pair tI tI)))) a0), (5, aD (.slice (.pair tI (.pair tI (.pair tI tI)))) r1.1), (6, aD (.slice tI) r1.2.1), (8, aI (Int.tmod (w64 (a1)) (4 : Int))), (9, aD (.slice tI) r6.1), (13, aI r8.1), (15, aI x30)]) (L' := []) (by kernel_rfl) (by kernel_rfl) ?_
              refine seqQ_norm ?_
              refine W_seq (by kernel_rfl) ?_
              refine W_block (id := 1) (by kernel_rfl) ?_
              refine W_seq (by kernel_rfl) ?_
              refine W_region (by kernel_rfl) ?_
              refine WO_run (j := 4) (k := 4) (orcs := []) (kF := [0, 5, 6, 8, 9, 13, 15, 89, 91, 92]) (kL := [91]) (fr' := [(0, aD (.slice (.pair tI (.pair tI (.pair tI tI)))) a0), (5, aD (.slice (.pair tI (.pair tI (.pair tI tI)))) r1.1), (6, aD (.slice tI) r1.2.1), (8, aI (Int.tmod (w64 (a1)) (4 : Int))), (9, aD (.slice tI) r6.1), (13, aI r8.1), (15, aI x30), (89, aD (.slice (.pair tI (.pair tI (.pair tI tI)))) a0), (91, .one (.slc 91)), (92, aI x30)]) (L' := [(91, .seq tI [Int.tmod (w64 (a1)) (4 : Int)])]) (obs := []) rfl (by kernel_rfl) allP0 ?_
              obtain ⟨r38, h39, h⟩ := bind_of h
              refine WO_frz 91 (by kernel_rfl) ?_
              refine WO_call0 (us := [none, none, none, none]) (d := 93) (p := True) (j := 5) rfl ⟨by kernel_rfl, by kernel_rfl, by kernel_rfl⟩ trivial (ref_Counted_ok h39) (by kernel_rfl) ?_
              refine WO_run (j := 12) (k := 7) (orcs := []) (kF := [0, 5, 6, 8, 9, 13, 15, 16]) (kL := []) (fr' := [(0, aD (.slice (.pair tI (.pair tI (.pair tI tI)))) a0), (5, aD (.slice (.pair tI (.pair tI (.pair tI tI)))) r1.1), (6, aD (.slice tI) r1.2.1), (8, aI (Int.tmod (w64 (a1)) (4 : Int))), (9, aD (.slice tI) r6.1), (13, aI r8.1), (15, aI x30), (16, aD (.slice tI) r38.1)]) (L' := []) (obs := []) rfl (by kernel_rfl) allP0 ?_
              refine WO_fin [0, 5, 6, 8, 9, 13, 15, 16] [] (fr' := [(0, aD (.slice (.pair tI (.pair tI (.pair tI tI)))) a0), (5, aD (.slice (.pair tI (.pair tI (.pair tI tI)))) r1.1), (6, aD (.slice tI) r1.2.1), (8, aI (Int.tmod (w64 (a1)) (4 : Int))), (9, aD (.slice tI) r6.1), (13, aI r8.1), (15, aI x30), (16, aD (.slice tI) r38.1)]) (L' := []) (by kernel_rfl) (by kernel_rfl) ?_
              refine seqQ_norm ?_
              refine W_seq (by kernel_rfl) ?_
              obtain ⟨v40, h41, h⟩ := bind_of h
              refine W_run 4 [(3, .val (.dat tI v40))] [0, 5, 6, 8, 9, 13, 15, 100] [] (fr' := [(0, aD (.slice (.pair tI (.pair tI (.pair tI tI)))) a0), (5, aD (.slice (.pair tI (.pair tI (.pair tI tI)))) r1.1), (6, aD (.slice tI) r1.2.1), (8, aI (Int.tmod (w64 (a1)) (4 : Int))), (9, aD (.slice tI) r6.1), (13, aI r8.1), (15, aI x30), (100, aB (decide (v40 > (8 : Int))))]) (L' := []) (obs := [Idx r38.1 (0 : Int) v40]) (by kernel_rfl) (by kernel_rfl) (by kernel_rfl) (allP1 (Idx.of h41)) ?_
              refine seqQ_norm ?_
              refine W_cond (o := .tmp 100) (b := decide (v40 > (8 : Int))) (by kernel_rfl) (by kernel_rfl) (fun h42 => ?_) (fun h42 => ?_)
              · replace h := ofT h42 h
                refine W_seq (by kernel_rfl) ?_
                refine W_run 1 [] [4] [] (fr' := [(4, aB true)]) (L' := []) (obs := []) (by kernel_rfl) (by kernel_rfl) (by kernel_rfl) allP0 ?_
                refine seqQ_norm ?_
                obtain rfl := Option.some.inj h
                refine W_ret [4] [] (fr' := [(4, aB true)]) (L' := []) (by kernel_rfl) (by kernel_rfl) ?_
                refine blockQ_ret ?_
                refine seqQ_ret ?_
                refine round_ret ?_
                refine escQ_ret ?_
                exact exQ_mk (by kernel_rfl) (by kernel_rfl)
              · replace h := ofF h42 h
                refine W_skip [0, 5, 6, 8, 9, 13, 15] [] (fr' := [(0, aD (.slice (.pair tI (.pair tI (.pair tI tI)))) a0), (5, aD (.slice (.pair tI (.pair tI (.pair tI tI)))) r1.1), (6, aD (.slice tI) r1.2.1), (8, aI (Int.tmod (w64 (a1)) (4 : Int))), (9, aD (.slice tI) r6.1), (13, aI r8.1), (15, aI x30)]) (L' := []) (by kernel_rfl) (by kernel_rfl) ?_
                refine blockQ_norm ?_
                refine seqQ_norm ?_
                obtain rfl := Option.some.inj h
                refine W_run 3 [] [0, 5, 6, 8, 9, 13, 15] [] (fr' := [(0, aD (.slice (.pair tI (.pair tI (.pair tI tI)))) a0), (5, aD (.slice (.pair tI (.pair tI (.pair tI tI)))) r1.1), (6, aD (.slice tI) r1.2.1), (8, aI (Int.tmod (w64 (a1)) (4 : Int))), (9, aD (.slice tI) r6.1), (13, aI r8.1), (15, aI (w64 (x30 + (1 : Int))))]) (L' := []) (obs := []) (by kernel_rfl) (by kernel_rfl) (by kernel_rfl) allP0 ?_
                exact round_next' (by kernel_rfl) (by kernel_rfl)
            · replace h := ofF h37 h
              obtain rfl := Option.some.inj h
              refine W_exit (id := 0) [5, 6, 9, 13] [] (fr' := [(5, aD (.slice (.pair tI (.pair tI (.pair tI tI)))) r1.1), (6, aD (.slice tI) r1.2.1), (9, aD (.slice tI) r6.1), (13, aI r8.1)]) (L' := []) (by kernel_rfl) (by kernel_rfl) ?_
              refine seqQ_exit ?_
              refine round_exit ?_
              refine escQ_brk ?_
              exact exQ_mk (by kernel_rfl) (by kernel_rfl)
          · intro e fr L hJ
            rcases v43 with v47 | v48
            · obtain ⟨rfl, rfl, rfl⟩ := hJ
              obtain rfl := Option.some.inj h
              refine LT_keep [4] [] (fr' := [(4, aB v47)]) (L' := []) (by kernel_rfl) ?_
              refine blockQ_ret ?_
              refine seqQ_ret ?_
              exact retQ_mk (by kernel_rfl) (by kernel_rfl) (by kernel_rfl)
            · obtain ⟨rfl, rfl, rfl⟩ := hJ
              refine LT_keep [5, 6, 9, 13] [] (fr' := [(5, aD (.slice (.pair tI (.pair tI (.pair tI tI)))) r1.1), (6, aD (.slice tI) r1.2.1), (9, aD (.slice tI) r6.1), (13, aI r8.1)]) (L' := []) (by kernel_rfl) ?_
              refine blockQ_hit ?_
              refine seqQ_norm ?_
              refine W_seq (by kernel_rfl) ?_
              obtain ⟨v49, h50, h⟩ := bind_of h
              refine W_region (by kernel_rfl) ?_
              refine WO_run (j := 6) (k := 6) (orcs := [(9, .val (.dat tI v49))]) (kF := [5, 9, 102, 104, 107]) (kL := [104]) (fr' := [(5, aD (.slice (.pair tI (.pair tI (.pair tI tI)))) r1.1), (9, aD (.slice tI) r6.1), (102, aD (.slice (.pair tI (.pair tI (.pair tI tI)))) r1.1), (104, .one (.slc 104)), (107, aI v49)]) (L' := [(104, .seq tI [r8.1, (0 : Int)])]) (obs := [Idx r1.2.1 (0 : Int) v49]) rfl (by kernel_rfl) (allP1 (Idx.of h50)) ?_
              obtain ⟨r51, h52, h⟩ := bind_of h
              refine WO_frz 104 (by kernel_rfl) ?_
              refine WO_call0 (us := [none, none, none, none]) (d := 108) (p := True) (j := 7) rfl ⟨by kernel_rfl, by kernel_rfl, by kernel_rfl⟩ trivial (ref_Counted_ok h52) (by kernel_rfl) ?_
              refine WO_run (j := 14) (k := 7) (orcs := []) (kF := [5, 9, 19, 20]) (kL := []) (fr' := [(5, aD (.slice (.pair tI (.pair tI (.pair tI tI)))) r1.1), (9, aD (.slice tI) r6.1), (19, aD (.slice tI) r51.1), (20, aI r51.2.1)]) (L' := []) (obs := []) rfl (by kernel_rfl) allP0 ?_
              refine WO_fin [5, 9, 19, 20] [] (fr' := [(5, aD (.slice (.pair tI (.pair tI (.pair tI tI)))) r1.1), (9, aD (.slice tI) r6.1), (19, aD (.slice tI) r51.1), (20, aI r51.2.1)]) (L' := []) (by kernel_rfl) (by kernel_rfl) ?_
              refine seqQ_norm ?_
              refine W_seq (by kernel_rfl) ?_
              obtain ⟨v77, h78, h⟩ := bind_of h
              refine W_cutK (Q' := (exQ .normal top_TopTwo_s7) v77) ?_ ?_
              · replace h := h78
                rcases Bool.eq_false_or_eq_true (r51.2.1 == (List.length r1.1 : Int)) with h69 | h69
                · replace h := ofT h69 h
                  obtain ⟨v70, h71, h⟩ := bind_of h
                  rcases Bool.eq_false_or_eq_true (v70 == (0 : Int)) with h72 | h72
                  · replace h := ofT h72 h
                    obtain ⟨v73, h74, h⟩ := bind_of h
                    obtain ⟨r75, h76, h⟩ := bind_of h
                    obtain rfl := Option.some.inj h
                    refine W_draw2 18 [(10, .known true), (12, .known true), (13, .val (.dat tI v70)), (14, .known true), (16, .known true), (19, .val (.dat .bool true)), (22, .known true), (24, .known true), (25, .val (.dat tI v73)), (26, .known true), (28, .known true), (32, .known true), (35, .val (.dat .bool true))] [(15, [none], aI r75)] [4] [] (fr' := [(4, aB (v73 == r75))]) (L' := []) (out := [(112, aI r51.2.1), (113, aD (.slice (.pair tI (.pair tI (.pair tI tI)))) r1.1), (114, aI (List.length r1.1 : Int)), (115, aB (r51.2.1 == (List.length r1.1 : Int))), (116, aB (r51.2.1 == (List.length r1.1 : Int))), (117, aD (.slice tI) r51.1), (118, .one (.dptr tI v70)), (119, aI v70), (120, aB (v70 == (0 : Int))), (121, aB (v70 == (0 : Int))), (122, aB (v70 == (0 : Int))), (123, aD (.slice tI) r51.1), (124, .one (.dptr tI v73)), (125, aI v73), (126, aD (.slice tI) r6.1), (127, aI r75), (128, aB (v73 == r75)), (129, aB (v73 == r75))]) (obs := [((r51.2.1 == (List.length r1.1 : Int)) = true), ((r51.2.1 == (List.length r1.1 : Int)) = true), Idx r51.1 (1 : Int) v70, ((r51.2.1 == (List.length r1.1 : Int)) = true), ((r51.2.1 == (List.length r1.1 : Int)) = true), ((r51.2.1 == (List.length r1.1 : Int)) = true), ((v70 == (0 : Int)) = true), ((v70 == (0 : Int)) = true), Idx r51.1 (0 : Int) v73, ((v70 == (0 : Int)) = true), ((v70 == (0 : Int)) = true), ((v70 == (0 : Int)) = true), ((v70 == (0 : Int)) = true), ((v70 == (0 : Int)) = true)]) (obs2 := []) (calls := [(27, [aD (.slice tI) r6.1], aI r75)]) (by kernel_rfl) (by kernel_rfl) (by kernel_rfl) (by kernel_rfl) (allP2 h69 (allP2 h69 (allP2 (Idx.of h71) (allP2 h69 (allP2 h69 (allP2 h69 (allP2 h72 (allP2 h72 (allP2 (Idx.of h74) (allP2 h72 (allP2 h72 (allP2 h72 (allP2 h72 (allP1 h72)))))))))))))) (allC1 (by kernel_rfl) (ref_Packed_ok h76) (by kernel_rfl) allC0) (by kernel_rfl) allP0 ?_
                    exact exQ_mk (by kernel_rfl) (by kernel_rfl)
                  · replace h := ofF h72 h
                    obtain rfl := Option.some.inj h
                    refine W_draw2 18 [(10, .known true), (12, .known true), (13, .val (.dat tI v70)), (14, .known true), (16, .known true), (19, .val (.dat .bool true)), (22, .known false), (24, .known false), (26, .known false), (28, .known false), (30, .known false), (32, .known false), (35, .val (.dat .bool false))] [] [4] [] (fr' := [(4, aB false)]) (L' := []) (out := [(112, aI r51.2.1), (113, aD (.slice (.pair tI (.pair tI (.pair tI tI)))) r1.1), (114, aI (List.length r1.1 : Int)), (115, aB (r51.2.1 == (List.length r1.1 : Int))), (116, aB (r51.2.1 == (List.length r1.1 : Int))), (117, aD (.slice tI) r51.1), (118, .one (.dptr tI v70)), (119, aI v70), (120, aB (v70 == (0 : Int))), (121, aB (v70 == (0 : Int))), (122, aB (v70 == (0 : Int))), (123, .tup []), (124, .tup []), (125, .tup []), (126, .tup []), (127, .tup []), (128, .tup []), (129, aB false)]) (obs := [((r51.2.1 == (List.length r1.1 : Int)) = true), ((r51.2.1 == (List.length r1.1 : Int)) = true), Idx r51.1 (1 : Int) v70, ((r51.2.1 == (List.length r1.1 : Int)) = true), ((r51.2.1 == (List.length r1.1 : Int)) = true), ((r51.2.1 == (List.length r1.1 : Int)) = true), ((v70 == (0 : Int)) = false), ((v70 == (0 : Int)) = false), ((v70 == (0 : Int)) = false), ((v70 == (0 : Int)) = false), ((v70 == (0 : Int)) = false), ((v70 == (0 : Int)) = false), ((v70 == (0 : Int)) = false)]) (obs2 := []) (calls := []) (by kernel_rfl) (by kernel_rfl) (by kernel_rfl) (by kernel_rfl) (allP2 h69 (allP2 h69 (allP2 (Idx.of h71) (allP2 h69 (allP2 h69 (allP2 h69 (allP2 h72 (allP2 h72 (allP2 h72 (allP2 h72 (allP2 h72 (allP2 h72 (allP1 h72))))))))))))) allC0 (by kernel_rfl) allP0 ?_
                    exact exQ_mk (by kernel_rfl) (by kernel_rfl)
                · replace h := ofF h69 h
                  obtain rfl := Option.some.inj h
                  refine W_draw2 18 [(10, .known false), (12, .known false), (14, .known false), (16, .known false), (19, .val (.dat .bool false)), (22, .known false), (24, .known false), (26, .known false), (28, .known false), (30, .known false), (32, .known false), (35, .val (.dat .bool false))] [] [4] [] (fr' := [(4, aB false)]) (L' := []) (out := [(112, aI r51.2.1), (113, aD (.slice (.pair tI (.pair tI (.pair tI tI)))) r1.1), (114, aI (List.length r1.1 : Int)), (115, aB (r51.2.1 == (List.length r1.1 : Int))), (116, aB (r51.2.1 == (List.length r1.1 : Int))), (117, .tup []), (118, .tup []), (119, .tup []), (120, .tup []), (121, aB false), (122, aB false), (123, .tup []), (124, .tup []), (125, .tup []), (126, .tup []), (127, .tup []), (128, .tup []), (129, aB false)]) (obs := [((r51.2.1 == (List.length r1.1 : Int)) = false), ((r51.2.1 == (List.length r1.1 : Int)) = false), ((r51.2.1 == (List.length r1.1 : Int)) = false), ((r51.2.1 == (List.length r1.1 : Int)) = false), ((r51.2.1 == (List.length r1.1 : Int)) = false), (false = false), (false = false), (false = false), (false = false), (false = false), (false = false), (false = false)]) (obs2 := []) (calls := []) (by kernel_rfl) (by kernel_rfl) (by kernel_rfl) (by kernel_rfl) (allP2 h69 (allP2 h69 (allP2 h69 (allP2 h69 (allP2 h69 (allP2 rfl (allP2 rfl (allP2 rfl (allP2 rfl (allP2 rfl (allP2 rfl (allP1 rfl)))))))))))) allC0 (by kernel_rfl) allP0 ?_
                  exact exQ_mk (by kernel_rfl) (by kernel_rfl)
              · intro e fr L hJ
                obtain ⟨rfl, rfl, rfl⟩ := hJ
                refine LT_keep [4] [] (fr' := [(4, aB v77)]) (L' := []) (by kernel_rfl) ?_
                refine seqQ_norm ?_
                obtain rfl := Option.some.inj h
                refine W_ret [4] [] (fr' := [(4, aB v77)]) (L' := []) (by kernel_rfl) (by kernel_rfl) ?_
                exact retQ_mk (by kernel_rfl) (by kernel_rfl) (by kernel_rfl)
end Go.Proofs.Ytbjfglckfknheaa.topTwo
