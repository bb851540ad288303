/- What the functions that WholeClauses calls compute, as models, and that they compute it: written by a program of mine. -/
import Derived.Test.YtnblafiefaalgaaProg
import Derived.Test.YtnblafiefaalgaaWholeClausesM2
set_option linter.all false
set_option maxRecDepth 100000
namespace Go.Proofs.Ytnblafiefaalgaa.wholeClauses
open Go Go.Sl
def whole_Clauses_g5 (x100 : (Int × (List Int) × (List ((List Int) × (List Int))))) (v102 : (Int × (Int × Int))) : Option (Int × (List Int) × (List ((List Int) × (List Int)))) :=
bif v102.1 == (1 : Int) then
((ck ((List.length x100.2.1 : Int) + 1 ≤ 4294967296)).bind fun _ =>
some (x100.1, x100.2.1 ++ [v102.2.1], x100.2.2))
else
((ck ((List.length x100.2.1 : Int) + 1 ≤ 4294967296)).bind fun _ =>
(idx (x100.2.1 ++ [x100.1]) v102.2.1).bind fun v138 =>
bif v102.1 == (2 : Int) then
((ck ((List.length x100.2.2 : Int) + 2 ≤ 4294967296)).bind fun _ =>
some (w64 (x100.1 + (1 : Int)), x100.2.1 ++ [x100.1], x100.2.2 ++ [([x100.1, v138], []), ([], [x100.1, v138])]))
else
(bif v102.1 == (3 : Int) then
((idx (x100.2.1 ++ [x100.1]) v102.2.2).bind fun v143 =>
(ck ((List.length x100.2.2 : Int) + 3 ≤ 4294967296)).bind fun _ =>
some (w64 (x100.1 + (1 : Int)), x100.2.1 ++ [x100.1], x100.2.2 ++ [([v138], [x100.1]), ([v143], [x100.1]), ([x100.1], [v138, v143])]))
else
(bif v102.1 == (4 : Int) then
((idx (x100.2.1 ++ [x100.1]) v102.2.2).bind fun v147 =>
(ck ((List.length x100.2.2 : Int) + 3 ≤ 4294967296)).bind fun _ =>
some (w64 (x100.1 + (1 : Int)), x100.2.1 ++ [x100.1], x100.2.2 ++ [([x100.1], [v138]), ([x100.1], [v147]), ([v138, v147], [x100.1])]))
else
(some (w64 (x100.1 + (1 : Int)), x100.2.1 ++ [x100.1], x100.2.2)))))
@[reducible] def whole_Clauses_s6 (r1 : ((List (Int × (Int × Int))) × Int)) (i99 : Int) (v : (Int × (List Int) × (List ((List Int) × (List Int))))) : Fr × LL := ([(11, .one (.slc 44)), (12, .one (.slc 71)), (13, aI v.1), (31, aD (.slice t3) r1.1), (32, aI (List.length r1.1 : Int)), (33, aI i99)], [(44, .seq tI v.2.1), (71, .seq tC v.2.2)])
def whole_Clauses_b7 (i99 : Int) (v102 : (Int × (Int × Int))) (x100 : (Int × (List Int) × (List ((List Int) × (List Int))))) : Option (Flow (Int × (List Int) × (List ((List Int) × (List Int)))) (Int × (List Int) × (List ((List Int) × (List Int))))) :=
(whole_Clauses_g5 x100 v102).bind fun v150 =>
some (.next (v150.1, v150.2.1, v150.2.2))
@[reducible] def whole_Clauses_s8 (r1 : ((List (Int × (Int × Int))) × Int)) (v : Int × (Int × (List Int) × (List ((List Int) × (List Int))))) : Fr × LL := ([(11, .one (.slc 44)), (12, .one (.slc 71)), (13, aI v.2.1), (31, aD (.slice t3) r1.1), (32, aI (List.length r1.1 : Int)), (33, aI v.1)], [(44, .seq tI v.2.2.1), (71, .seq tC v.2.2.2)])
@[reducible] def whole_Clauses_s9 (v : (Int × (List Int) × (List ((List Int) × (List Int))))) : Fr × LL := ([(11, .one (.slc 44)), (12, .one (.slc 71)), (13, aI v.1)], [(44, .seq tI v.2.1), (71, .seq tC v.2.2)])
def whole_Clauses (fuel : Nat) (a0 : (Int × (Int × (List (List (Int × (Int × Int))))))) (a1 : Int) (a2 : Int) : Option (Int × (List ((List Int) × (List Int))) × Int) :=
(unroll_Build fuel a0 a1 a2).bind fun r1 =>
bif r1.2 != (0 : Int) then
(some ((0 : Int), [], r1.2))
else
((forL whole_Clauses_b7 (fun x100 => (x100.1, x100.2.1, x100.2.2)) r1.1 0 (a1, [], [])).bind fun v153 =>
(idx v153.2.1 (w64 ((List.length v153.2.1 : Int) - (1 : Int)))).bind fun v158 =>
(ck ((List.length v153.2.2 : Int) + 1 ≤ 4294967296)).bind fun _ =>
some (v153.1, v153.2.2 ++ [([v158], [])], (0 : Int)))
theorem whole_Clauses_ok {fuel : Nat} {a0 : (Int × (Int × (List (List (Int × (Int × Int))))))} {a1 : Int} {a2 : Int} {r : (Int × (List ((List Int) × (List Int))) × Int)} (h : whole_Clauses fuel a0 a1 a2 = some r) : FnC Try.prog 50 [aD tM a0, aI a1, aI a2] [] (.tup [.dat tI r.1, .dat (.slice tC) r.2.1, .dat tI r.2.2]) [] := by
 refine fnC_of_W (B := bodyOf Try.f50) (n := 137) Try.func50 (by kernel_rfl) (by kernel_rfl) (by kernel_rfl) (by kernel_rfl) (by kernel_rfl) ?_
 intro K
 refine sr [(1, aI a1), (2, aI a2), (3, .one (.ptr 3 0))] [(3, .one tM a0)] (by kernel_rfl) ?_
 refine W_seq (by kernel_rfl) ?_
 refine W_region (by kernel_rfl) ?_
 refine woL 3 [(1, aI a1), (21, aD tM a0), (22, aI a1), (23, aI a2)] (by kernel_rfl) ?_
 obtain ⟨r1, h2, h⟩ := bind_of h
 refine WO_call0 (us := [none, none, none]) (d := 24) (p := True) (j := 4) rfl ⟨by kernel_rfl, by kernel_rfl, by kernel_rfl⟩ trivial (unroll_Build_ok h2) (by kernel_rfl) ?_
 refine wo 9 [(1, aI a1), (9, aD (.slice t3) r1.1), (10, aI r1.2)] [(3, .one tM a0)] (by kernel_rfl) ?_
 refine wf [(1, aI a1), (9, aD (.slice t3) r1.1), (10, aI r1.2)] [] (by kernel_rfl) ?_
 refine seqQ_norm ?_
 refine W_seq (by kernel_rfl) ?_
 refine srL [(1, aI a1), (9, aD (.slice t3) r1.1), (10, aI r1.2), (28, aB (r1.2 != (0 : Int)))] (by kernel_rfl) ?_
 refine W_cond (o := .tmp 28) (b := r1.2 != (0 : Int)) (by kernel_rfl) (by kernel_rfl) (fun h3 => ?_) (fun h3 => ?_)
 ·replace h := ofT h3 h
  refine srL [(6, aI (0 : Int)), (7, .one (.nilS)), (8, aI r1.2)] (by kernel_rfl) ?_
  obtain rfl := Option.some.inj h
  refine W_cnv 7 (.slice tC) (by kernel_rfl) ?_
  refine wt [(6, aI (0 : Int)), (7, aD (.slice tC) []), (8, aI r1.2)] [] (by kernel_rfl) ?_
  refine seqQ_ret ?_
  exact retM (by kernel_rfl)
 ·replace h := ofF h3 h
  refine wkL [(1, aI a1), (9, aD (.slice t3) r1.1)] (by kernel_rfl) ?_
  refine seqQ_norm ?_
  refine srL [(1, aI a1), (9, aD (.slice t3) r1.1), (11, .one (.nilS))] (by kernel_rfl) ?_
  refine srL [(1, aI a1), (9, aD (.slice t3) r1.1), (11, .one (.nilS)), (12, .one (.nilS))] (by kernel_rfl) ?_
  refine srL [(9, aD (.slice t3) r1.1), (11, .one (.nilS)), (12, .one (.nilS)), (13, aI a1)] (by kernel_rfl) ?_
  refine W_seq (by kernel_rfl) ?_
  refine srL [(11, .one (.nilS)), (12, .one (.nilS)), (13, aI a1), (31, aD (.slice t3) r1.1), (32, aI (List.length r1.1 : Int)), (33, aI (0 : Int))] (by kernel_rfl) ?_
  refine W_block (id := 0) (by kernel_rfl) ?_
  obtain ⟨v153, h154, h⟩ := bind_of h
  refine W_len (t := 31) (u := t3) (xs := r1.1) (by kernel_rfl) (fun h157 => ?_)
  obtain ⟨h155, h156⟩ := forL_iter h157 h154
  refine W_mine 11 44 tI (by kernel_rfl) ?_
  refine W_mine 12 71 tC (by kernel_rfl) ?_
  refine W_weaken [11, 12, 13, 31, 32, 33] [44, 71] (fr' := ((whole_Clauses_s8 r1) ((0 : Int), (a1, [], []))).1) (L' := ((whole_Clauses_s8 r1) ((0 : Int), (a1, [], []))).2) (by kernel_rfl) ?_
  refine W_cutK (W_loop (S := (whole_Clauses_s8 r1)) (J := (exQ (.exit 0) whole_Clauses_s9)) (by kernel_rfl) ?_ h155 _ v153 h156) ?_
  ·rintro ⟨i99, x100⟩ s h
   refine sr [(11, .one (.slc 44)), (12, .one (.slc 71)), (13, aI x100.1), (31, aD (.slice t3) r1.1), (32, aI (List.length r1.1 : Int)), (33, aI i99), (34, aB (decide (i99 < (List.length r1.1 : Int))))] [(44, .seq tI x100.2.1), (71, .seq tC x100.2.2)] (by kernel_rfl) ?_
   refine W_seq (by kernel_rfl) ?_
   refine W_cond (o := .tmp 34) (b := decide (i99 < (List.length r1.1 : Int))) (by kernel_rfl) (by kernel_rfl) (fun h104 => ?_) (fun h104 => ?_)
   ·replace h := stepL_true h104 h
    obtain ⟨v102, _, h103, h, rfl⟩ := h
    refine wkL [(11, .one (.slc 44)), (12, .one (.slc 71)), (13, aI x100.1), (31, aD (.slice t3) r1.1), (32, aI (List.length r1.1 : Int)), (33, aI i99)] (by kernel_rfl) ?_
    refine seqQ_norm ?_
    refine W_seq (by kernel_rfl) ?_
    obtain ⟨v150, h151, h⟩ := bind_of h
    refine W_cutK (Q' := (exQ .normal (whole_Clauses_s6 r1 i99)) v150) ?_ ?_
    ·replace h := h151
     refine W_block (id := 1) (by kernel_rfl) ?_
     refine sro [(1, .val (.dat t3 v102)), (5, .typed)] [(11, .one (.slc 44)), (12, .one (.slc 71)), (13, aI x100.1), (15, .one (.ptr 15 0)), (31, aD (.slice t3) r1.1), (32, aI (List.length r1.1 : Int)), (33, aI i99)] [(44, .seq tI x100.2.1), (71, .seq tC x100.2.2), (15, .one t3 v102)] [Idx r1.1 i99 v102, True] (by kernel_rfl) (allP2 (Idx.of h103) (allP1 trivial)) ?_
     refine W_seq (by kernel_rfl) ?_
     refine srL [(11, .one (.slc 44)), (12, .one (.slc 71)), (13, aI x100.1), (15, .one (.ptr 15 0)), (31, aD (.slice t3) r1.1), (32, aI (List.length r1.1 : Int)), (33, aI i99), (39, aB (v102.1 == (1 : Int)))] (by kernel_rfl) ?_
     refine W_cond (o := .tmp 39) (b := v102.1 == (1 : Int)) (by kernel_rfl) (by kernel_rfl) (fun h135 => ?_) (fun h135 => ?_)
     ·replace h := ofT h135 h
      refine W_seq (by kernel_rfl) ?_
      obtain ⟨_, h136, h⟩ := bind_of h
      replace h136 := ck_some h136
      refine W_run 6 [] [11, 12, 13, 31, 32, 33] [44, 71] (fr' := [(11, .one (.slc 44)), (12, .one (.slc 71)), (13, aI x100.1), (31, aD (.slice t3) r1.1), (32, aI (List.length r1.1 : Int)), (33, aI i99)]) (L' := [(44, .seq tI (x100.2.1 ++ [v102.2.1])), (71, .seq tC x100.2.2)]) (obs := [SmallLen (List.length x100.2.1 + List.length [v102.2.1])]) (by kernel_rfl) (by kernel_rfl) (by kernel_rfl) (allP1 h136) ?_
      refine seqQ_norm ?_
      obtain rfl := Option.some.inj h
      refine wxL 1 [(11, .one (.slc 44)), (12, .one (.slc 71)), (13, aI x100.1), (31, aD (.slice t3) r1.1), (32, aI (List.length r1.1 : Int)), (33, aI i99)] (by kernel_rfl) ?_
      refine seqQ_exit ?_
      refine blockQ_hit ?_
      exact exM (by kernel_rfl)
     ·replace h := ofF h135 h
      refine wkL [(11, .one (.slc 44)), (12, .one (.slc 71)), (13, aI x100.1), (15, .one (.ptr 15 0)), (31, aD (.slice t3) r1.1), (32, aI (List.length r1.1 : Int)), (33, aI i99)] (by kernel_rfl) ?_
      refine seqQ_norm ?_
      refine srL [(11, .one (.slc 44)), (12, .one (.slc 71)), (13, aI x100.1), (15, .one (.ptr 15 0)), (16, aI x100.1), (31, aD (.slice t3) r1.1), (32, aI (List.length r1.1 : Int)), (33, aI i99)] (by kernel_rfl) ?_
      refine srL [(11, .one (.slc 44)), (12, .one (.slc 71)), (13, aI (w64 (x100.1 + (1 : Int)))), (15, .one (.ptr 15 0)), (16, aI x100.1), (31, aD (.slice t3) r1.1), (32, aI (List.length r1.1 : Int)), (33, aI i99)] (by kernel_rfl) ?_
      refine W_seq (by kernel_rfl) ?_
      obtain ⟨_, h137, h⟩ := bind_of h
      replace h137 := ck_some h137
      refine W_run 5 [] [11, 12, 13, 15, 16, 31, 32, 33] [44, 71, 15] (fr' := [(11, .one (.slc 44)), (12, .one (.slc 71)), (13, aI (w64 (x100.1 + (1 : Int)))), (15, .one (.ptr 15 0)), (16, aI x100.1), (31, aD (.slice t3) r1.1), (32, aI (List.length r1.1 : Int)), (33, aI i99)]) (L' := [(44, .seq tI (x100.2.1 ++ [x100.1])), (71, .seq tC x100.2.2), (15, .one t3 v102)]) (obs := [SmallLen (List.length x100.2.1 + List.length [x100.1])]) (by kernel_rfl) (by kernel_rfl) (by kernel_rfl) (allP1 h137) ?_
      refine seqQ_norm ?_
      refine W_seq (by kernel_rfl) ?_
      obtain ⟨v138, h139, h⟩ := bind_of h
      refine W_run 6 [(9, .val (.dat tI v138))] [11, 12, 13, 15, 16, 17, 31, 32, 33] [44, 71, 15] (fr' := [(11, .one (.slc 44)), (12, .one (.slc 71)), (13, aI (w64 (x100.1 + (1 : Int)))), (15, .one (.ptr 15 0)), (16, aI x100.1), (17, aI v138), (31, aD (.slice t3) r1.1), (32, aI (List.length r1.1 : Int)), (33, aI i99)]) (L' := [(44, .seq tI (x100.2.1 ++ [x100.1])), (71, .seq tC x100.2.2), (15, .one t3 v102)]) (obs := [InR v102.2.1 (List.length (x100.2.1 ++ [x100.1])), Idx (x100.2.1 ++ [x100.1]) v102.2.1 v138]) (by kernel_rfl) (by kernel_rfl) (by kernel_rfl) (allP2 (InR.of h139) (allP1 (Idx.of h139))) ?_
      refine seqQ_norm ?_
      refine srL [(11, .one (.slc 44)), (12, .one (.slc 71)), (13, aI (w64 (x100.1 + (1 : Int)))), (15, .one (.ptr 15 0)), (16, aI x100.1), (17, aI v138), (31, aD (.slice t3) r1.1), (32, aI (List.length r1.1 : Int)), (33, aI i99), (58, aI v102.1)] (by kernel_rfl) ?_
      refine W_block (id := 2) (by kernel_rfl) ?_
      refine srL [(11, .one (.slc 44)), (12, .one (.slc 71)), (13, aI (w64 (x100.1 + (1 : Int)))), (15, .one (.ptr 15 0)), (16, aI x100.1), (17, aI v138), (31, aD (.slice t3) r1.1), (32, aI (List.length r1.1 : Int)), (33, aI i99), (58, aI v102.1), (59, aB (v102.1 == (2 : Int)))] (by kernel_rfl) ?_
      refine W_cond (o := .tmp 59) (b := v102.1 == (2 : Int)) (by kernel_rfl) (by kernel_rfl) (fun h140 => ?_) (fun h140 => ?_)
      ·replace h := ofT h140 h
       refine W_region (by kernel_rfl) ?_
       refine wo 9 [(11, .one (.slc 44)), (12, .one (.slc 71)), (13, aI (w64 (x100.1 + (1 : Int)))), (31, aD (.slice t3) r1.1), (32, aI (List.length r1.1 : Int)), (33, aI i99), (61, .one (.slc 71)), (65, .agg [.slc 64, .nilS]), (69, .agg [.nilS, .slc 68])] [(15, .one t3 v102), (44, .seq tI (x100.2.1 ++ [x100.1])), (64, .seq tI [x100.1, v138]), (68, .seq tI [x100.1, v138]), (71, .seq tC x100.2.2)] (by kernel_rfl) ?_
       refine WO_frz 64 (by kernel_rfl) ?_
       refine WO_frz 68 (by kernel_rfl) ?_
       obtain ⟨_, h141, h⟩ := bind_of h
       replace h141 := ck_some h141
       refine WO_run (j := 12) (k := 3) (orcs := []) (kF := [11, 12, 13, 31, 32, 33]) (kL := [15, 44, 70, 71]) (fr' := [(11, .one (.slc 44)), (12, .one (.slc 71)), (13, aI (w64 (x100.1 + (1 : Int)))), (31, aD (.slice t3) r1.1), (32, aI (List.length r1.1 : Int)), (33, aI i99)]) (L' := [(15, .one t3 v102), (44, .seq tI (x100.2.1 ++ [x100.1])), (70, .seq tC [([x100.1, v138], []), ([], [x100.1, v138])]), (71, .seq tC (x100.2.2 ++ [([x100.1, v138], []), ([], [x100.1, v138])]))]) (obs := [SmallLen (List.length x100.2.2 + List.length ([([x100.1, v138], []), ([], [x100.1, v138])] : (List ((List Int) × (List Int)))))]) rfl (by kernel_rfl) (allP1 h141) ?_
       obtain rfl := Option.some.inj h
       refine wf [(11, .one (.slc 44)), (12, .one (.slc 71)), (13, aI (w64 (x100.1 + (1 : Int)))), (31, aD (.slice t3) r1.1), (32, aI (List.length r1.1 : Int)), (33, aI i99)] [(44, .seq tI (x100.2.1 ++ [x100.1])), (71, .seq tC (x100.2.2 ++ [([x100.1, v138], []), ([], [x100.1, v138])]))] (by kernel_rfl) ?_
       refine blockQ_norm ?_
       refine blockQ_norm ?_
       exact exM (by kernel_rfl)
      ·replace h := ofF h140 h
       refine srL [(11, .one (.slc 44)), (12, .one (.slc 71)), (13, aI (w64 (x100.1 + (1 : Int)))), (15, .one (.ptr 15 0)), (16, aI x100.1), (17, aI v138), (31, aD (.slice t3) r1.1), (32, aI (List.length r1.1 : Int)), (33, aI i99), (58, aI v102.1), (72, aB (v102.1 == (3 : Int)))] (by kernel_rfl) ?_
       refine W_cond (o := .tmp 72) (b := v102.1 == (3 : Int)) (by kernel_rfl) (by kernel_rfl) (fun h142 => ?_) (fun h142 => ?_)
       ·replace h := ofT h142 h
        refine W_seq (by kernel_rfl) ?_
        obtain ⟨v143, h144, h⟩ := bind_of h
        refine W_run 6 [(9, .val (.dat tI v143))] [11, 12, 13, 16, 17, 18, 31, 32, 33] [44, 71] (fr' := [(11, .one (.slc 44)), (12, .one (.slc 71)), (13, aI (w64 (x100.1 + (1 : Int)))), (16, aI x100.1), (17, aI v138), (18, aI v143), (31, aD (.slice t3) r1.1), (32, aI (List.length r1.1 : Int)), (33, aI i99)]) (L' := [(44, .seq tI (x100.2.1 ++ [x100.1])), (71, .seq tC x100.2.2)]) (obs := [InR v102.2.2 (List.length (x100.2.1 ++ [x100.1])), Idx (x100.2.1 ++ [x100.1]) v102.2.2 v143]) (by kernel_rfl) (by kernel_rfl) (by kernel_rfl) (allP2 (InR.of h144) (allP1 (Idx.of h144))) ?_
        refine seqQ_norm ?_
        refine W_region (by kernel_rfl) ?_
        refine wo 17 [(11, .one (.slc 44)), (12, .one (.slc 71)), (13, aI (w64 (x100.1 + (1 : Int)))), (31, aD (.slice t3) r1.1), (32, aI (List.length r1.1 : Int)), (33, aI i99), (79, .one (.slc 71)), (84, .agg [.slc 81, .slc 83]), (89, .agg [.slc 86, .slc 88]), (95, .agg [.slc 91, .slc 94])] [(44, .seq tI (x100.2.1 ++ [x100.1])), (71, .seq tC x100.2.2), (81, .seq tI [v138]), (83, .seq tI [x100.1]), (86, .seq tI [v143]), (88, .seq tI [x100.1]), (91, .seq tI [x100.1]), (94, .seq tI [v138, v143])] (by kernel_rfl) ?_
        refine WO_frz 81 (by kernel_rfl) ?_
        refine WO_frz 83 (by kernel_rfl) ?_
        refine WO_frz 86 (by kernel_rfl) ?_
        refine WO_frz 88 (by kernel_rfl) ?_
        refine WO_frz 91 (by kernel_rfl) ?_
        refine WO_frz 94 (by kernel_rfl) ?_
        obtain ⟨_, h145, h⟩ := bind_of h
        replace h145 := ck_some h145
        refine woo 20 [] [(11, .one (.slc 44)), (12, .one (.slc 71)), (13, aI (w64 (x100.1 + (1 : Int)))), (31, aD (.slice t3) r1.1), (32, aI (List.length r1.1 : Int)), (33, aI i99)] [(44, .seq tI (x100.2.1 ++ [x100.1])), (71, .seq tC (x100.2.2 ++ [([v138], [x100.1]), ([v143], [x100.1]), ([x100.1], [v138, v143])])), (96, .seq tC [([v138], [x100.1]), ([v143], [x100.1]), ([x100.1], [v138, v143])])] [SmallLen (List.length x100.2.2 + List.length [([v138], [x100.1]), ([v143], [x100.1]), ([x100.1], [v138, v143])])] (by kernel_rfl) (allP1 h145) ?_
        obtain rfl := Option.some.inj h
        refine wf [(11, .one (.slc 44)), (12, .one (.slc 71)), (13, aI (w64 (x100.1 + (1 : Int)))), (31, aD (.slice t3) r1.1), (32, aI (List.length r1.1 : Int)), (33, aI i99)] [(44, .seq tI (x100.2.1 ++ [x100.1])), (71, .seq tC (x100.2.2 ++ [([v138], [x100.1]), ([v143], [x100.1]), ([x100.1], [v138, v143])]))] (by kernel_rfl) ?_
        refine blockQ_norm ?_
        refine blockQ_norm ?_
        exact exM (by kernel_rfl)
       ·replace h := ofF h142 h
        refine srL [(11, .one (.slc 44)), (12, .one (.slc 71)), (13, aI (w64 (x100.1 + (1 : Int)))), (15, .one (.ptr 15 0)), (16, aI x100.1), (17, aI v138), (31, aD (.slice t3) r1.1), (32, aI (List.length r1.1 : Int)), (33, aI i99), (98, aB (v102.1 == (4 : Int)))] (by kernel_rfl) ?_
        refine W_cond (o := .tmp 98) (b := v102.1 == (4 : Int)) (by kernel_rfl) (by kernel_rfl) (fun h146 => ?_) (fun h146 => ?_)
        ·replace h := ofT h146 h
         refine W_seq (by kernel_rfl) ?_
         obtain ⟨v147, h148, h⟩ := bind_of h
         refine W_run 6 [(9, .val (.dat tI v147))] [11, 12, 13, 16, 17, 19, 31, 32, 33] [44, 71] (fr' := [(11, .one (.slc 44)), (12, .one (.slc 71)), (13, aI (w64 (x100.1 + (1 : Int)))), (16, aI x100.1), (17, aI v138), (19, aI v147), (31, aD (.slice t3) r1.1), (32, aI (List.length r1.1 : Int)), (33, aI i99)]) (L' := [(44, .seq tI (x100.2.1 ++ [x100.1])), (71, .seq tC x100.2.2)]) (obs := [InR v102.2.2 (List.length (x100.2.1 ++ [x100.1])), Idx (x100.2.1 ++ [x100.1]) v102.2.2 v147]) (by kernel_rfl) (by kernel_rfl) (by kernel_rfl) (allP2 (InR.of h148) (allP1 (Idx.of h148))) ?_
         refine seqQ_norm ?_
         refine W_region (by kernel_rfl) ?_
         refine wo 17 [(11, .one (.slc 44)), (12, .one (.slc 71)), (13, aI (w64 (x100.1 + (1 : Int)))), (31, aD (.slice t3) r1.1), (32, aI (List.length r1.1 : Int)), (33, aI i99), (105, .one (.slc 71)), (110, .agg [.slc 107, .slc 109]), (115, .agg [.slc 112, .slc 114]), (121, .agg [.slc 118, .slc 120])] [(44, .seq tI (x100.2.1 ++ [x100.1])), (71, .seq tC x100.2.2), (107, .seq tI [x100.1]), (109, .seq tI [v138]), (112, .seq tI [x100.1]), (114, .seq tI [v147]), (118, .seq tI [v138, v147]), (120, .seq tI [x100.1])] (by kernel_rfl) ?_
         refine WO_frz 107 (by kernel_rfl) ?_
         refine WO_frz 109 (by kernel_rfl) ?_
         refine WO_frz 112 (by kernel_rfl) ?_
         refine WO_frz 114 (by kernel_rfl) ?_
         refine WO_frz 118 (by kernel_rfl) ?_
         refine WO_frz 120 (by kernel_rfl) ?_
         obtain ⟨_, h149, h⟩ := bind_of h
         replace h149 := ck_some h149
         refine woo 20 [] [(11, .one (.slc 44)), (12, .one (.slc 71)), (13, aI (w64 (x100.1 + (1 : Int)))), (31, aD (.slice t3) r1.1), (32, aI (List.length r1.1 : Int)), (33, aI i99)] [(44, .seq tI (x100.2.1 ++ [x100.1])), (71, .seq tC (x100.2.2 ++ [([x100.1], [v138]), ([x100.1], [v147]), ([v138, v147], [x100.1])])), (122, .seq tC [([x100.1], [v138]), ([x100.1], [v147]), ([v138, v147], [x100.1])])] [SmallLen (List.length x100.2.2 + List.length [([x100.1], [v138]), ([x100.1], [v147]), ([v138, v147], [x100.1])])] (by kernel_rfl) (allP1 h149) ?_
         obtain rfl := Option.some.inj h
         refine wf [(11, .one (.slc 44)), (12, .one (.slc 71)), (13, aI (w64 (x100.1 + (1 : Int)))), (31, aD (.slice t3) r1.1), (32, aI (List.length r1.1 : Int)), (33, aI i99)] [(44, .seq tI (x100.2.1 ++ [x100.1])), (71, .seq tC (x100.2.2 ++ [([x100.1], [v138]), ([x100.1], [v147]), ([v138, v147], [x100.1])]))] (by kernel_rfl) ?_
         refine blockQ_norm ?_
         refine blockQ_norm ?_
         exact exM (by kernel_rfl)
        ·replace h := ofF h146 h
         obtain rfl := Option.some.inj h
         refine wk [(11, .one (.slc 44)), (12, .one (.slc 71)), (13, aI (w64 (x100.1 + (1 : Int)))), (31, aD (.slice t3) r1.1), (32, aI (List.length r1.1 : Int)), (33, aI i99)] [(44, .seq tI (x100.2.1 ++ [x100.1])), (71, .seq tC x100.2.2)] (by kernel_rfl) ?_
         refine blockQ_norm ?_
         refine blockQ_norm ?_
         exact exM (by kernel_rfl)
    ·intro e fr L hJ
     obtain ⟨rfl, rfl, rfl⟩ := hJ
     refine ltk [(11, .one (.slc 44)), (12, .one (.slc 71)), (13, aI v150.1), (31, aD (.slice t3) r1.1), (32, aI (List.length r1.1 : Int)), (33, aI i99)] [(44, .seq tI v150.2.1), (71, .seq tC v150.2.2)] (by kernel_rfl) ?_
     refine seqQ_norm ?_
     obtain rfl := Option.some.inj h
     refine swL [(11, .one (.slc 44)), (12, .one (.slc 71)), (13, aI v150.1), (31, aD (.slice t3) r1.1), (32, aI (List.length r1.1 : Int)), (33, aI (w64 (i99 + (1 : Int))))] (by kernel_rfl) ?_
     exact round_next' (by kernel_rfl) (by kernel_rfl)
   ·obtain rfl := stepL_false h104 h
    refine wxL 0 [(11, .one (.slc 44)), (12, .one (.slc 71)), (13, aI x100.1)] (by kernel_rfl) ?_
    refine seqQ_exit ?_
    refine round_exit ?_
    exact exM (by kernel_rfl)
  ·intro e fr L hJ
   obtain ⟨rfl, rfl, rfl⟩ := hJ
   refine ltk [(11, .one (.slc 44)), (12, .one (.slc 71)), (13, aI v153.1)] [(44, .seq tI v153.2.1), (71, .seq tC v153.2.2)] (by kernel_rfl) ?_
   refine blockQ_hit ?_
   refine seqQ_norm ?_
   refine W_seq (by kernel_rfl) ?_
   obtain ⟨v158, h159, h⟩ := bind_of h
   refine W_region (by kernel_rfl) ?_
   refine woo 10 [(15, .val (.dat tI v158))] [(125, aI v153.1), (126, .one (.slc 71)), (134, .agg [.slc 133, .nilS])] [(44, .seq tI v153.2.1), (71, .seq tC v153.2.2), (133, .seq tI [v158])] [InR (w64 ((List.length v153.2.1 : Int) - (1 : Int))) (List.length v153.2.1), Idx v153.2.1 (w64 ((List.length v153.2.1 : Int) - (1 : Int))) v158] (by kernel_rfl) (allP2 (InR.of h159) (allP1 (Idx.of h159))) ?_
   refine WO_frz 133 (by kernel_rfl) ?_
   obtain ⟨_, h160, h⟩ := bind_of h
   replace h160 := ck_some h160
   refine WO_run (j := 15) (k := 5) (orcs := []) (kF := [6, 7, 8]) (kL := [44, 71, 135]) (fr' := [(6, aI v153.1), (7, .one (.slc 71)), (8, aI (0 : Int))]) (L' := [(44, .seq tI v153.2.1), (71, .seq tC (v153.2.2 ++ [([v158], [])])), (135, .seq tC [([v158], [])])]) (obs := [SmallLen (List.length v153.2.2 + List.length ([([v158], [])] : (List ((List Int) × (List Int)))))]) rfl (by kernel_rfl) (allP1 h160) ?_
   refine wf [(6, aI v153.1), (7, .one (.slc 71)), (8, aI (0 : Int))] [(71, .seq tC (v153.2.2 ++ [([v158], [])]))] (by kernel_rfl) ?_
   refine seqQ_norm ?_
   obtain rfl := Option.some.inj h
   refine W_frz 71 (by kernel_rfl) ?_
   refine wt [(6, aI v153.1), (7, aD (.slice tC) (v153.2.2 ++ [([v158], [])])), (8, aI (0 : Int))] [] (by kernel_rfl) ?_
   exact retM (by kernel_rfl)

def ref_Within (a0 : Int) (a1 : Int) (a2 : Int) : Option Bool :=
some ((decide (a0 ≤ a1)) && (decide (a1 ≤ a2)))
theorem ref_Within_ok {a0 : Int} {a1 : Int} {a2 : Int} {r : Bool} (h : ref_Within a0 a1 a2 = some r) : FnC Try.prog 16 [aI a0, aI a1, aI a2] [] (aB r) [] := by
 refine fnC_of_W (B := bodyOf Try.f16) (n := 15) Try.func16 (by kernel_rfl) (by kernel_rfl) (by kernel_rfl) (by kernel_rfl) (by kernel_rfl) ?_
 intro K
 refine sr [(0, aI a0), (1, aI a1), (2, aI a2)] [] (by kernel_rfl) ?_
 refine srL [(6, aB ((decide (a0 ≤ a1)) && (decide (a1 ≤ a2))))] (by kernel_rfl) ?_
 obtain rfl := Option.some.inj h
 refine wtL [(6, aB ((decide (a0 ≤ a1)) && (decide (a1 ≤ a2))))] (by kernel_rfl) ?_
 exact retM (by kernel_rfl)

def ref_Inside_b1 (a0 : Int) (i11 : Int) (v14 : Int) (x12 : Unit) : Option (Flow Unit (Esc Bool Unit)) :=
bif (decide (v14 < (0 : Int))) || (decide (v14 ≥ a0)) then
(some (.done (.ret false)))
else
(some (.next ()))
@[reducible] def ref_Inside_s2 (a0 : Int) (a1 : (List Int)) (v : Int × Unit) : Fr × LL := ([(0, aI a0), (7, aD (.slice tI) a1), (8, aI (List.length a1 : Int)), (9, aI v.1)], [])
@[reducible] def ref_Inside_s3 (v : Bool) : Fr × LL := ([(4, aB v)], [])
@[reducible] def ref_Inside_s4 (v : Unit) : Fr × LL := ([], [])
def ref_Inside (a0 : Int) (a1 : (List Int)) : Option Bool :=
(forL (ref_Inside_b1 a0) (fun x12 => (.brk ())) a1 0 ()).bind fun v19 =>
match v19 with
| .ret v24 =>
(some v24)
| .brk v25 =>
(some true)
theorem ref_Inside_ok {a0 : Int} {a1 : (List Int)} {r : Bool} (h : ref_Inside a0 a1 = some r) : FnC Try.prog 51 [aI a0, aD (.slice tI) a1] [] (aB r) [] := by
 refine fnC_of_W (B := bodyOf Try.f51) (n := 21) Try.func51 (by kernel_rfl) (by kernel_rfl) (by kernel_rfl) (by kernel_rfl) (by kernel_rfl) ?_
 intro K
 refine sr [(0, aI a0), (1, aD (.slice tI) a1)] [] (by kernel_rfl) ?_
 refine W_seq (by kernel_rfl) ?_
 refine srL [(0, aI a0), (7, aD (.slice tI) a1), (8, aI (List.length a1 : Int)), (9, aI (0 : Int))] (by kernel_rfl) ?_
 refine W_block (id := 0) (by kernel_rfl) ?_
 obtain ⟨v19, h20, h⟩ := bind_of h
 refine W_len (t := 7) (u := tI) (xs := a1) (by kernel_rfl) (fun h23 => ?_)
 obtain ⟨h21, h22⟩ := forL_iter h23 h20
 refine W_weaken [0, 7, 8, 9] [] (fr' := ((ref_Inside_s2 a0 a1) ((0 : Int), ())).1) (L' := ((ref_Inside_s2 a0 a1) ((0 : Int), ())).2) (by kernel_rfl) ?_
 refine W_cutK (W_loop (S := (ref_Inside_s2 a0 a1)) (J := (escQ (exQ .ret ref_Inside_s3) (exQ (.exit 0) ref_Inside_s4))) (by kernel_rfl) ?_ h21 _ v19 h22) ?_
 ·rintro ⟨i11, x12⟩ s h
  refine sr [(0, aI a0), (7, aD (.slice tI) a1), (8, aI (List.length a1 : Int)), (9, aI i11), (10, aB (decide (i11 < (List.length a1 : Int))))] [] (by kernel_rfl) ?_
  refine W_seq (by kernel_rfl) ?_
  refine W_cond (o := .tmp 10) (b := decide (i11 < (List.length a1 : Int))) (by kernel_rfl) (by kernel_rfl) (fun h16 => ?_) (fun h16 => ?_)
  ·replace h := stepL_true h16 h
   obtain ⟨v14, _, h15, h, rfl⟩ := h
   refine wkL [(0, aI a0), (7, aD (.slice tI) a1), (8, aI (List.length a1 : Int)), (9, aI i11)] (by kernel_rfl) ?_
   refine seqQ_norm ?_
   refine W_seq (by kernel_rfl) ?_
   refine W_block (id := 1) (by kernel_rfl) ?_
   refine sro [(1, .val (.dat tI v14))] [(0, aI a0), (6, aI v14), (7, aD (.slice tI) a1), (8, aI (List.length a1 : Int)), (9, aI i11)] [] [Idx a1 i11 v14] (by kernel_rfl) (allP1 (Idx.of h15)) ?_
   refine srL [(0, aI a0), (7, aD (.slice tI) a1), (8, aI (List.length a1 : Int)), (9, aI i11), (19, aB ((decide (v14 < (0 : Int))) || (decide (v14 ≥ a0))))] (by kernel_rfl) ?_
   refine W_cond (o := .tmp 19) (b := (decide (v14 < (0 : Int))) || (decide (v14 ≥ a0))) (by kernel_rfl) (by kernel_rfl) (fun h17 => ?_) (fun h17 => ?_)
   ·replace h := ofT h17 h
    refine srL [(4, aB false)] (by kernel_rfl) ?_
    obtain rfl := Option.some.inj h
    refine wtL [(4, aB false)] (by kernel_rfl) ?_
    refine blockQ_ret ?_
    refine seqQ_ret ?_
    refine round_ret ?_
    refine escQ_ret ?_
    exact exM (by kernel_rfl)
   ·replace h := ofF h17 h
    refine wkL [(0, aI a0), (7, aD (.slice tI) a1), (8, aI (List.length a1 : Int)), (9, aI i11)] (by kernel_rfl) ?_
    refine blockQ_norm ?_
    refine seqQ_norm ?_
    obtain rfl := Option.some.inj h
    refine swL [(0, aI a0), (7, aD (.slice tI) a1), (8, aI (List.length a1 : Int)), (9, aI (w64 (i11 + (1 : Int))))] (by kernel_rfl) ?_
    exact round_next' (by kernel_rfl) (by kernel_rfl)
  ·obtain rfl := stepL_false h16 h
   refine wxL 0 [] (by kernel_rfl) ?_
   refine seqQ_exit ?_
   refine round_exit ?_
   refine escQ_brk ?_
   exact exM (by kernel_rfl)
 ·intro e fr L hJ
  rcases v19 with v24 | v25
  ·obtain ⟨rfl, rfl, rfl⟩ := hJ
   obtain rfl := Option.some.inj h
   refine ltk [(4, aB v24)] [] (by kernel_rfl) ?_
   refine blockQ_ret ?_
   refine seqQ_ret ?_
   exact retM (by kernel_rfl)
  ·obtain ⟨rfl, rfl, rfl⟩ := hJ
   refine ltk [] [] (by kernel_rfl) ?_
   refine blockQ_hit ?_
   refine seqQ_norm ?_
   refine sr [(4, aB true)] [] (by kernel_rfl) ?_
   obtain rfl := Option.some.inj h
   refine wtL [(4, aB true)] (by kernel_rfl) ?_
   exact retM (by kernel_rfl)

def ref_MachineCheck_b1 (a0 : (Int × (Int × (List (List (Int × (Int × Int))))))) (i30 : Int) (v33 : (List (Int × (Int × Int)))) (x31 : Unit) : Option (Flow Unit (Esc Int Unit)) :=
bif (List.length v33 : Int) != a0.2.1 then
(some (.done (.ret (3 : Int))))
else
(some (.next ()))
@[reducible] def ref_MachineCheck_s2 (a0 : (Int × (Int × (List (List (Int × (Int × Int))))))) (v : Int × Unit) : Fr × LL := ([(1, .one (.ptr 1 0)), (26, aD (.slice (.slice t3)) a0.2.2), (27, aI (List.length a0.2.2 : Int)), (28, aI v.1)], [(1, .one tM a0)])
@[reducible] def ref_MachineCheck_s3 (v : Int) : Fr × LL := ([(2, aI v)], [])
@[reducible] def ref_MachineCheck_s4 (a0 : (Int × (Int × (List (List (Int × (Int × Int))))))) (v : Unit) : Fr × LL := ([(1, .one (.ptr 1 0))], [(1, .one tM a0)])
def ref_MachineCheck_b11 (a0 : (Int × (Int × (List (List (Int × (Int × Int))))))) (i183 : Int) (v186 : (Int × (Int × Int))) (x184 : Unit) : Option (Flow Unit (Esc Int Unit)) :=
(ref_Inside a0.2.1 [v186.1]).bind fun r189 =>
bif !r189 then
(some (.done (.ret (2 : Int))))
else
((ref_Within (-1 : Int) v186.2.1 (1 : Int)).bind fun r192 =>
bif !r192 then
(some (.done (.ret (4 : Int))))
else
((ref_Inside (w64 (a0.1 + (1 : Int))) [v186.2.2]).bind fun r195 =>
bif !r195 then
(some (.done (.ret (2 : Int))))
else
(some (.next ()))))
@[reducible] def ref_MachineCheck_s12 (a0 : (Int × (Int × (List (List (Int × (Int × Int))))))) (i151 : Int) (v154 : (List (Int × (Int × Int)))) (v : Int × Unit) : Fr × LL := ([(1, .one (.ptr 1 0)), (39, aD (.slice (.slice t3)) a0.2.2), (40, aI (List.length a0.2.2 : Int)), (41, aI i151), (45, aD (.slice t3) v154), (46, aI (List.length v154 : Int)), (47, aI v.1)], [(1, .one tM a0)])
@[reducible] def ref_MachineCheck_s13 (v : Int) : Fr × LL := ([(2, aI v)], [])
@[reducible] def ref_MachineCheck_s14 (a0 : (Int × (Int × (List (List (Int × (Int × Int))))))) (i151 : Int) (v : Unit) : Fr × LL := ([(1, .one (.ptr 1 0)), (39, aD (.slice (.slice t3)) a0.2.2), (40, aI (List.length a0.2.2 : Int)), (41, aI i151)], [(1, .one tM a0)])
def ref_MachineCheck_b15 (a0 : (Int × (Int × (List (List (Int × (Int × Int))))))) (i151 : Int) (v154 : (List (Int × (Int × Int)))) (x152 : Unit) : Option (Flow Unit (Esc Int Unit)) :=
(forL (ref_MachineCheck_b11 a0) (fun x184 => (.brk ())) v154 0 ()).bind fun v199 =>
match v199 with
| .ret v204 =>
(some (.done (.ret v204)))
| .brk v205 =>
(some (.next ()))
@[reducible] def ref_MachineCheck_s16 (a0 : (Int × (Int × (List (List (Int × (Int × Int))))))) (v : Int × Unit) : Fr × LL := ([(1, .one (.ptr 1 0)), (39, aD (.slice (.slice t3)) a0.2.2), (40, aI (List.length a0.2.2 : Int)), (41, aI v.1)], [(1, .one tM a0)])
@[reducible] def ref_MachineCheck_s17 (v : Int) : Fr × LL := ([(2, aI v)], [])
@[reducible] def ref_MachineCheck_s18 (v : Unit) : Fr × LL := ([], [])
@[reducible] def ref_MachineCheck_s19 (a0 : (Int × (Int × (List (List (Int × (Int × Int))))))) (v : Bool) : Fr × LL := ([(1, .one (.ptr 1 0)), (18, aB v)], [(1, .one tM a0)])
def ref_MachineCheck (a0 : (Int × (Int × (List (List (Int × (Int × Int))))))) : Option Int :=
((ref_Within (1 : Int) a0.1 (5 : Int)).bind fun r11 =>
bif !r11 then
(some true)
else
((ref_Within (2 : Int) a0.2.1 (4 : Int)).bind fun r14 =>
some (!r14))).bind fun v16 =>
bif v16 then
(some (1 : Int))
else
(bif (List.length a0.2.2 : Int) != a0.1 then
(some (3 : Int))
else
((forL (ref_MachineCheck_b1 a0) (fun x31 => (.brk ())) a0.2.2 0 ()).bind fun v38 =>
match v38 with
| .ret v43 =>
(some v43)
| .brk v44 =>
((forL (ref_MachineCheck_b15 a0) (fun x152 => (.brk ())) a0.2.2 0 ()).bind fun v207 =>
match v207 with
| .ret v212 =>
(some v212)
| .brk v213 =>
(some (0 : Int)))))
theorem ref_MachineCheck_ok {a0 : (Int × (Int × (List (List (Int × (Int × Int))))))} {r : Int} (h : ref_MachineCheck a0 = some r) : FnC Try.prog 18 [aD tM a0] [] (aI r) [] := by
 refine fnC_of_W (B := bodyOf Try.f18) (n := 72) Try.func18 (by kernel_rfl) (by kernel_rfl) (by kernel_rfl) (by kernel_rfl) (by kernel_rfl) ?_
 intro K
 refine sr [(1, .one (.ptr 1 0))] [(1, .one tM a0)] (by kernel_rfl) ?_
 refine W_seq (by kernel_rfl) ?_
 refine W_seq (by kernel_rfl) ?_
 obtain ⟨v16, h17, h⟩ := bind_of h
 refine W_cutK (Q' := (exQ .normal (ref_MachineCheck_s19 a0)) v16) ?_ ?_
 ·replace h := h17
  refine W_region (by kernel_rfl) ?_
  refine wo 2 [(1, .one (.ptr 1 0)), (10, aI a0.1)] [(1, .one tM a0)] (by kernel_rfl) ?_
  obtain ⟨r11, h12, h⟩ := bind_of h
  refine WO_call0 (us := [none, none, none]) (d := 11) (p := True) (j := 3) rfl ⟨by kernel_rfl, by kernel_rfl, by kernel_rfl⟩ trivial (ref_Within_ok h12) (by kernel_rfl) ?_
  refine wo 5 [(1, .one (.ptr 1 0)), (13, aB (!r11))] [(1, .one tM a0)] (by kernel_rfl) ?_
  rcases Bool.eq_false_or_eq_true (!r11) with h13 | h13
  ·replace h := ofT h13 h
   refine woo 10 [(10, .known true), (12, .known true), (14, .known true), (16, .known true), (19, .val (.dat .bool true))] [(1, .one (.ptr 1 0)), (18, aB true)] [(1, .one tM a0)] [((!r11) = true), ((!r11) = true), ((!r11) = true), ((!r11) = true), ((!r11) = true)] (by kernel_rfl) (allP2 h13 (allP2 h13 (allP2 h13 (allP2 h13 (allP1 h13))))) ?_
   obtain rfl := Option.some.inj h
   refine wfL [(1, .one (.ptr 1 0)), (18, aB true)] (by kernel_rfl) ?_
   exact exM (by kernel_rfl)
  ·replace h := ofF h13 h
   refine woo 7 [(10, .known false), (12, .known false)] [(1, .one (.ptr 1 0)), (13, aB (!r11)), (15, aI a0.2.1)] [(1, .one tM a0)] [((!r11) = false), ((!r11) = false)] (by kernel_rfl) (allP2 h13 (allP1 h13)) ?_
   obtain ⟨r14, h15, h⟩ := bind_of h
   refine WO_call0 (us := [none, none, none]) (d := 16) (p := ((!r11) = false)) (j := 8) rfl ⟨by kernel_rfl, by kernel_rfl, by kernel_rfl⟩ h13 (ref_Within_ok h15) (by kernel_rfl) ?_
   refine woo 10 [(16, .known false), (19, .val (.dat .bool false))] [(1, .one (.ptr 1 0)), (18, aB (!r14))] [(1, .one tM a0)] [((!r11) = false), ((!r11) = false)] (by kernel_rfl) (allP2 h13 (allP1 h13)) ?_
   obtain rfl := Option.some.inj h
   refine wfL [(1, .one (.ptr 1 0)), (18, aB (!r14))] (by kernel_rfl) ?_
   exact exM (by kernel_rfl)
 ·intro e fr L hJ
  obtain ⟨rfl, rfl, rfl⟩ := hJ
  refine ltk [(1, .one (.ptr 1 0)), (18, aB v16)] [(1, .one tM a0)] (by kernel_rfl) ?_
  refine seqQ_norm ?_
  refine W_cond (o := .tmp 18) (b := v16) (by kernel_rfl) (by kernel_rfl) (fun h18 => ?_) (fun h18 => ?_)
  ·replace h := ofT h18 h
   refine sr [(2, aI (1 : Int))] [] (by kernel_rfl) ?_
   obtain rfl := Option.some.inj h
   refine wtL [(2, aI (1 : Int))] (by kernel_rfl) ?_
   refine seqQ_ret ?_
   exact retM (by kernel_rfl)
  ·replace h := ofF h18 h
   refine wkL [(1, .one (.ptr 1 0))] (by kernel_rfl) ?_
   refine seqQ_norm ?_
   refine W_seq (by kernel_rfl) ?_
   refine srL [(1, .one (.ptr 1 0)), (24, aB ((List.length a0.2.2 : Int) != a0.1))] (by kernel_rfl) ?_
   refine W_cond (o := .tmp 24) (b := (List.length a0.2.2 : Int) != a0.1) (by kernel_rfl) (by kernel_rfl) (fun h19 => ?_) (fun h19 => ?_)
   ·replace h := ofT h19 h
    refine sr [(2, aI (3 : Int))] [] (by kernel_rfl) ?_
    obtain rfl := Option.some.inj h
    refine wtL [(2, aI (3 : Int))] (by kernel_rfl) ?_
    refine seqQ_ret ?_
    exact retM (by kernel_rfl)
   ·replace h := ofF h19 h
    refine wkL [(1, .one (.ptr 1 0))] (by kernel_rfl) ?_
    refine seqQ_norm ?_
    refine W_seq (by kernel_rfl) ?_
    refine srL [(1, .one (.ptr 1 0)), (26, aD (.slice (.slice t3)) a0.2.2), (27, aI (List.length a0.2.2 : Int)), (28, aI (0 : Int))] (by kernel_rfl) ?_
    refine W_block (id := 0) (by kernel_rfl) ?_
    obtain ⟨v38, h39, h⟩ := bind_of h
    refine W_len (t := 26) (u := (.slice t3)) (xs := a0.2.2) (by kernel_rfl) (fun h42 => ?_)
    obtain ⟨h40, h41⟩ := forL_iter h42 h39
    refine W_weaken [1, 26, 27, 28] [1] (fr' := ((ref_MachineCheck_s2 a0) ((0 : Int), ())).1) (L' := ((ref_MachineCheck_s2 a0) ((0 : Int), ())).2) (by kernel_rfl) ?_
    refine W_cutK (W_loop (S := (ref_MachineCheck_s2 a0)) (J := (escQ (exQ .ret ref_MachineCheck_s3) (exQ (.exit 0) (ref_MachineCheck_s4 a0)))) (by kernel_rfl) ?_ h40 _ v38 h41) ?_
    ·rintro ⟨i30, x31⟩ s h
     refine sr [(1, .one (.ptr 1 0)), (26, aD (.slice (.slice t3)) a0.2.2), (27, aI (List.length a0.2.2 : Int)), (28, aI i30), (29, aB (decide (i30 < (List.length a0.2.2 : Int))))] [(1, .one tM a0)] (by kernel_rfl) ?_
     refine W_seq (by kernel_rfl) ?_
     refine W_cond (o := .tmp 29) (b := decide (i30 < (List.length a0.2.2 : Int))) (by kernel_rfl) (by kernel_rfl) (fun h35 => ?_) (fun h35 => ?_)
     ·replace h := stepL_true h35 h
      obtain ⟨v33, _, h34, h, rfl⟩ := h
      refine wkL [(1, .one (.ptr 1 0)), (26, aD (.slice (.slice t3)) a0.2.2), (27, aI (List.length a0.2.2 : Int)), (28, aI i30)] (by kernel_rfl) ?_
      refine seqQ_norm ?_
      refine W_seq (by kernel_rfl) ?_
      refine W_block (id := 1) (by kernel_rfl) ?_
      refine sro [(1, .val (.dat (.slice t3) v33))] [(1, .one (.ptr 1 0)), (4, aD (.slice t3) v33), (26, aD (.slice (.slice t3)) a0.2.2), (27, aI (List.length a0.2.2 : Int)), (28, aI i30)] [(1, .one tM a0)] [Idx a0.2.2 i30 v33] (by kernel_rfl) (allP1 (Idx.of h34)) ?_
      refine srL [(1, .one (.ptr 1 0)), (26, aD (.slice (.slice t3)) a0.2.2), (27, aI (List.length a0.2.2 : Int)), (28, aI i30), (36, aB ((List.length v33 : Int) != a0.2.1))] (by kernel_rfl) ?_
      refine W_cond (o := .tmp 36) (b := (List.length v33 : Int) != a0.2.1) (by kernel_rfl) (by kernel_rfl) (fun h36 => ?_) (fun h36 => ?_)
      ·replace h := ofT h36 h
       refine sr [(2, aI (3 : Int))] [] (by kernel_rfl) ?_
       obtain rfl := Option.some.inj h
       refine wtL [(2, aI (3 : Int))] (by kernel_rfl) ?_
       refine blockQ_ret ?_
       refine seqQ_ret ?_
       refine round_ret ?_
       refine escQ_ret ?_
       exact exM (by kernel_rfl)
      ·replace h := ofF h36 h
       refine wkL [(1, .one (.ptr 1 0)), (26, aD (.slice (.slice t3)) a0.2.2), (27, aI (List.length a0.2.2 : Int)), (28, aI i30)] (by kernel_rfl) ?_
       refine blockQ_norm ?_
       refine seqQ_norm ?_
       obtain rfl := Option.some.inj h
       refine swL [(1, .one (.ptr 1 0)), (26, aD (.slice (.slice t3)) a0.2.2), (27, aI (List.length a0.2.2 : Int)), (28, aI (w64 (i30 + (1 : Int))))] (by kernel_rfl) ?_
       exact round_next' (by kernel_rfl) (by kernel_rfl)
     ·obtain rfl := stepL_false h35 h
      refine wxL 0 [(1, .one (.ptr 1 0))] (by kernel_rfl) ?_
      refine seqQ_exit ?_
      refine round_exit ?_
      refine escQ_brk ?_
      exact exM (by kernel_rfl)
    ·intro e fr L hJ
     rcases v38 with v43 | v44
     ·obtain ⟨rfl, rfl, rfl⟩ := hJ
      obtain rfl := Option.some.inj h
      refine ltk [(2, aI v43)] [] (by kernel_rfl) ?_
      refine blockQ_ret ?_
      refine seqQ_ret ?_
      exact retM (by kernel_rfl)
     ·obtain ⟨rfl, rfl, rfl⟩ := hJ
      refine ltk [(1, .one (.ptr 1 0))] [(1, .one tM a0)] (by kernel_rfl) ?_
      refine blockQ_hit ?_
      refine seqQ_norm ?_
      refine W_seq (by kernel_rfl) ?_
      refine sr [(1, .one (.ptr 1 0)), (39, aD (.slice (.slice t3)) a0.2.2), (40, aI (List.length a0.2.2 : Int)), (41, aI (0 : Int))] [(1, .one tM a0)] (by kernel_rfl) ?_
      refine W_block (id := 2) (by kernel_rfl) ?_
      obtain ⟨v207, h208, h⟩ := bind_of h
      refine W_len (t := 39) (u := (.slice t3)) (xs := a0.2.2) (by kernel_rfl) (fun h211 => ?_)
      obtain ⟨h209, h210⟩ := forL_iter h211 h208
      refine W_weaken [1, 39, 40, 41] [1] (fr' := ((ref_MachineCheck_s16 a0) ((0 : Int), ())).1) (L' := ((ref_MachineCheck_s16 a0) ((0 : Int), ())).2) (by kernel_rfl) ?_
      refine W_cutK (W_loop (S := (ref_MachineCheck_s16 a0)) (J := (escQ (exQ .ret ref_MachineCheck_s17) (exQ (.exit 2) ref_MachineCheck_s18))) (by kernel_rfl) ?_ h209 _ v207 h210) ?_
      ·rintro ⟨i151, x152⟩ s h
       refine sr [(1, .one (.ptr 1 0)), (39, aD (.slice (.slice t3)) a0.2.2), (40, aI (List.length a0.2.2 : Int)), (41, aI i151), (42, aB (decide (i151 < (List.length a0.2.2 : Int))))] [(1, .one tM a0)] (by kernel_rfl) ?_
       refine W_seq (by kernel_rfl) ?_
       refine W_cond (o := .tmp 42) (b := decide (i151 < (List.length a0.2.2 : Int))) (by kernel_rfl) (by kernel_rfl) (fun h156 => ?_) (fun h156 => ?_)
       ·replace h := stepL_true h156 h
        obtain ⟨v154, _, h155, h, rfl⟩ := h
        refine wkL [(1, .one (.ptr 1 0)), (39, aD (.slice (.slice t3)) a0.2.2), (40, aI (List.length a0.2.2 : Int)), (41, aI i151)] (by kernel_rfl) ?_
        refine seqQ_norm ?_
        refine W_seq (by kernel_rfl) ?_
        refine W_block (id := 3) (by kernel_rfl) ?_
        refine sro [(1, .val (.dat (.slice t3) v154))] [(1, .one (.ptr 1 0)), (6, aD (.slice t3) v154), (39, aD (.slice (.slice t3)) a0.2.2), (40, aI (List.length a0.2.2 : Int)), (41, aI i151)] [(1, .one tM a0)] [Idx a0.2.2 i151 v154] (by kernel_rfl) (allP1 (Idx.of h155)) ?_
        refine srL [(1, .one (.ptr 1 0)), (39, aD (.slice (.slice t3)) a0.2.2), (40, aI (List.length a0.2.2 : Int)), (41, aI i151), (45, aD (.slice t3) v154), (46, aI (List.length v154 : Int)), (47, aI (0 : Int))] (by kernel_rfl) ?_
        refine W_block (id := 4) (by kernel_rfl) ?_
        obtain ⟨v199, h200, h⟩ := bind_of h
        refine W_len (t := 45) (u := t3) (xs := v154) (by kernel_rfl) (fun h203 => ?_)
        obtain ⟨h201, h202⟩ := forL_iter h203 h200
        refine W_weaken [1, 39, 40, 41, 45, 46, 47] [1] (fr' := ((ref_MachineCheck_s12 a0 i151 v154) ((0 : Int), ())).1) (L' := ((ref_MachineCheck_s12 a0 i151 v154) ((0 : Int), ())).2) (by kernel_rfl) ?_
        refine W_cutK (W_loop (S := (ref_MachineCheck_s12 a0 i151 v154)) (J := (escQ (exQ .ret ref_MachineCheck_s13) (exQ (.exit 4) (ref_MachineCheck_s14 a0 i151)))) (by kernel_rfl) ?_ h201 _ v199 h202) ?_
        ·rintro ⟨i183, x184⟩ s h
         refine sr [(1, .one (.ptr 1 0)), (39, aD (.slice (.slice t3)) a0.2.2), (40, aI (List.length a0.2.2 : Int)), (41, aI i151), (45, aD (.slice t3) v154), (46, aI (List.length v154 : Int)), (47, aI i183), (48, aB (decide (i183 < (List.length v154 : Int))))] [(1, .one tM a0)] (by kernel_rfl) ?_
         refine W_seq (by kernel_rfl) ?_
         refine W_cond (o := .tmp 48) (b := decide (i183 < (List.length v154 : Int))) (by kernel_rfl) (by kernel_rfl) (fun h188 => ?_) (fun h188 => ?_)
         ·replace h := stepL_true h188 h
          obtain ⟨v186, _, h187, h, rfl⟩ := h
          refine wkL [(1, .one (.ptr 1 0)), (39, aD (.slice (.slice t3)) a0.2.2), (40, aI (List.length a0.2.2 : Int)), (41, aI i151), (45, aD (.slice t3) v154), (46, aI (List.length v154 : Int)), (47, aI i183)] (by kernel_rfl) ?_
          refine seqQ_norm ?_
          refine W_seq (by kernel_rfl) ?_
          refine W_block (id := 5) (by kernel_rfl) ?_
          refine sro [(1, .val (.dat t3 v186)), (5, .typed)] [(1, .one (.ptr 1 0)), (8, .one (.ptr 8 0)), (39, aD (.slice (.slice t3)) a0.2.2), (40, aI (List.length a0.2.2 : Int)), (41, aI i151), (45, aD (.slice t3) v154), (46, aI (List.length v154 : Int)), (47, aI i183)] [(1, .one tM a0), (8, .one t3 v186)] [Idx v154 i183 v186, True] (by kernel_rfl) (allP2 (Idx.of h187) (allP1 trivial)) ?_
          refine W_seq (by kernel_rfl) ?_
          refine W_seq (by kernel_rfl) ?_
          refine W_region (by kernel_rfl) ?_
          refine wo 5 [(1, .one (.ptr 1 0)), (8, .one (.ptr 8 0)), (39, aD (.slice (.slice t3)) a0.2.2), (40, aI (List.length a0.2.2 : Int)), (41, aI i151), (45, aD (.slice t3) v154), (46, aI (List.length v154 : Int)), (47, aI i183), (52, aI a0.2.1), (55, .one (.slc 55))] [(1, .one tM a0), (8, .one t3 v186), (55, .seq tI [v186.1])] (by kernel_rfl) ?_
          obtain ⟨r189, h190, h⟩ := bind_of h
          refine WO_frz 55 (by kernel_rfl) ?_
          refine WO_call0 (us := [none, none]) (d := 56) (p := True) (j := 6) rfl ⟨by kernel_rfl, by kernel_rfl, by kernel_rfl⟩ trivial (ref_Inside_ok h190) (by kernel_rfl) ?_
          refine wo 7 [(1, .one (.ptr 1 0)), (8, .one (.ptr 8 0)), (39, aD (.slice (.slice t3)) a0.2.2), (40, aI (List.length a0.2.2 : Int)), (41, aI i151), (45, aD (.slice t3) v154), (46, aI (List.length v154 : Int)), (47, aI i183), (57, aB (!r189))] [(1, .one tM a0), (8, .one t3 v186)] (by kernel_rfl) ?_
          refine wfL [(1, .one (.ptr 1 0)), (8, .one (.ptr 8 0)), (39, aD (.slice (.slice t3)) a0.2.2), (40, aI (List.length a0.2.2 : Int)), (41, aI i151), (45, aD (.slice t3) v154), (46, aI (List.length v154 : Int)), (47, aI i183), (57, aB (!r189))] (by kernel_rfl) ?_
          refine seqQ_norm ?_
          refine W_cond (o := .tmp 57) (b := !r189) (by kernel_rfl) (by kernel_rfl) (fun h191 => ?_) (fun h191 => ?_)
          ·replace h := ofT h191 h
           refine sr [(2, aI (2 : Int))] [] (by kernel_rfl) ?_
           obtain rfl := Option.some.inj h
           refine wtL [(2, aI (2 : Int))] (by kernel_rfl) ?_
           refine seqQ_ret ?_
           refine blockQ_ret ?_
           refine seqQ_ret ?_
           refine round_ret ?_
           refine escQ_ret ?_
           exact exM (by kernel_rfl)
          ·replace h := ofF h191 h
           refine wkL [(1, .one (.ptr 1 0)), (8, .one (.ptr 8 0)), (39, aD (.slice (.slice t3)) a0.2.2), (40, aI (List.length a0.2.2 : Int)), (41, aI i151), (45, aD (.slice t3) v154), (46, aI (List.length v154 : Int)), (47, aI i183)] (by kernel_rfl) ?_
           refine seqQ_norm ?_
           refine W_seq (by kernel_rfl) ?_
           refine W_seq (by kernel_rfl) ?_
           refine W_region (by kernel_rfl) ?_
           refine woL 2 [(1, .one (.ptr 1 0)), (8, .one (.ptr 8 0)), (39, aD (.slice (.slice t3)) a0.2.2), (40, aI (List.length a0.2.2 : Int)), (41, aI i151), (45, aD (.slice t3) v154), (46, aI (List.length v154 : Int)), (47, aI i183), (59, aI v186.2.1)] (by kernel_rfl) ?_
           obtain ⟨r192, h193, h⟩ := bind_of h
           refine WO_call0 (us := [none, none, none]) (d := 60) (p := True) (j := 3) rfl ⟨by kernel_rfl, by kernel_rfl, by kernel_rfl⟩ trivial (ref_Within_ok h193) (by kernel_rfl) ?_
           refine wo 4 [(1, .one (.ptr 1 0)), (8, .one (.ptr 8 0)), (39, aD (.slice (.slice t3)) a0.2.2), (40, aI (List.length a0.2.2 : Int)), (41, aI i151), (45, aD (.slice t3) v154), (46, aI (List.length v154 : Int)), (47, aI i183), (61, aB (!r192))] [(1, .one tM a0), (8, .one t3 v186)] (by kernel_rfl) ?_
           refine wfL [(1, .one (.ptr 1 0)), (8, .one (.ptr 8 0)), (39, aD (.slice (.slice t3)) a0.2.2), (40, aI (List.length a0.2.2 : Int)), (41, aI i151), (45, aD (.slice t3) v154), (46, aI (List.length v154 : Int)), (47, aI i183), (61, aB (!r192))] (by kernel_rfl) ?_
           refine seqQ_norm ?_
           refine W_cond (o := .tmp 61) (b := !r192) (by kernel_rfl) (by kernel_rfl) (fun h194 => ?_) (fun h194 => ?_)
           ·replace h := ofT h194 h
            refine sr [(2, aI (4 : Int))] [] (by kernel_rfl) ?_
            obtain rfl := Option.some.inj h
            refine wtL [(2, aI (4 : Int))] (by kernel_rfl) ?_
            refine seqQ_ret ?_
            refine blockQ_ret ?_
            refine seqQ_ret ?_
            refine round_ret ?_
            refine escQ_ret ?_
            exact exM (by kernel_rfl)
           ·replace h := ofF h194 h
            refine wkL [(1, .one (.ptr 1 0)), (8, .one (.ptr 8 0)), (39, aD (.slice (.slice t3)) a0.2.2), (40, aI (List.length a0.2.2 : Int)), (41, aI i151), (45, aD (.slice t3) v154), (46, aI (List.length v154 : Int)), (47, aI i183)] (by kernel_rfl) ?_
            refine seqQ_norm ?_
            refine W_seq (by kernel_rfl) ?_
            refine W_region (by kernel_rfl) ?_
            refine wo 6 [(1, .one (.ptr 1 0)), (39, aD (.slice (.slice t3)) a0.2.2), (40, aI (List.length a0.2.2 : Int)), (41, aI i151), (45, aD (.slice t3) v154), (46, aI (List.length v154 : Int)), (47, aI i183), (64, aI (w64 (a0.1 + (1 : Int)))), (67, .one (.slc 67))] [(1, .one tM a0), (8, .one t3 v186), (67, .seq tI [v186.2.2])] (by kernel_rfl) ?_
            obtain ⟨r195, h196, h⟩ := bind_of h
            refine WO_frz 67 (by kernel_rfl) ?_
            refine WO_call0 (us := [none, none]) (d := 68) (p := True) (j := 7) rfl ⟨by kernel_rfl, by kernel_rfl, by kernel_rfl⟩ trivial (ref_Inside_ok h196) (by kernel_rfl) ?_
            refine wo 8 [(1, .one (.ptr 1 0)), (39, aD (.slice (.slice t3)) a0.2.2), (40, aI (List.length a0.2.2 : Int)), (41, aI i151), (45, aD (.slice t3) v154), (46, aI (List.length v154 : Int)), (47, aI i183), (69, aB (!r195))] [(1, .one tM a0), (8, .one t3 v186)] (by kernel_rfl) ?_
            refine wf [(1, .one (.ptr 1 0)), (39, aD (.slice (.slice t3)) a0.2.2), (40, aI (List.length a0.2.2 : Int)), (41, aI i151), (45, aD (.slice t3) v154), (46, aI (List.length v154 : Int)), (47, aI i183), (69, aB (!r195))] [(1, .one tM a0)] (by kernel_rfl) ?_
            refine seqQ_norm ?_
            refine W_cond (o := .tmp 69) (b := !r195) (by kernel_rfl) (by kernel_rfl) (fun h197 => ?_) (fun h197 => ?_)
            ·replace h := ofT h197 h
             refine sr [(2, aI (2 : Int))] [] (by kernel_rfl) ?_
             obtain rfl := Option.some.inj h
             refine wtL [(2, aI (2 : Int))] (by kernel_rfl) ?_
             refine blockQ_ret ?_
             refine seqQ_ret ?_
             refine round_ret ?_
             refine escQ_ret ?_
             exact exM (by kernel_rfl)
            ·replace h := ofF h197 h
             refine wkL [(1, .one (.ptr 1 0)), (39, aD (.slice (.slice t3)) a0.2.2), (40, aI (List.length a0.2.2 : Int)), (41, aI i151), (45, aD (.slice t3) v154), (46, aI (List.length v154 : Int)), (47, aI i183)] (by kernel_rfl) ?_
             refine blockQ_norm ?_
             refine seqQ_norm ?_
             obtain rfl := Option.some.inj h
             refine swL [(1, .one (.ptr 1 0)), (39, aD (.slice (.slice t3)) a0.2.2), (40, aI (List.length a0.2.2 : Int)), (41, aI i151), (45, aD (.slice t3) v154), (46, aI (List.length v154 : Int)), (47, aI (w64 (i183 + (1 : Int))))] (by kernel_rfl) ?_
             exact round_next' (by kernel_rfl) (by kernel_rfl)
         ·obtain rfl := stepL_false h188 h
          refine wxL 4 [(1, .one (.ptr 1 0)), (39, aD (.slice (.slice t3)) a0.2.2), (40, aI (List.length a0.2.2 : Int)), (41, aI i151)] (by kernel_rfl) ?_
          refine seqQ_exit ?_
          refine round_exit ?_
          refine escQ_brk ?_
          exact exM (by kernel_rfl)
        ·intro e fr L hJ
         rcases v199 with v204 | v205
         ·obtain ⟨rfl, rfl, rfl⟩ := hJ
          obtain rfl := Option.some.inj h
          refine ltk [(2, aI v204)] [] (by kernel_rfl) ?_
          refine blockQ_ret ?_
          refine blockQ_ret ?_
          refine seqQ_ret ?_
          refine round_ret ?_
          refine escQ_ret ?_
          exact exM (by kernel_rfl)
         ·obtain ⟨rfl, rfl, rfl⟩ := hJ
          refine ltk [(1, .one (.ptr 1 0)), (39, aD (.slice (.slice t3)) a0.2.2), (40, aI (List.length a0.2.2 : Int)), (41, aI i151)] [(1, .one tM a0)] (by kernel_rfl) ?_
          refine blockQ_hit ?_
          refine blockQ_norm ?_
          refine seqQ_norm ?_
          obtain rfl := Option.some.inj h
          refine sw [(1, .one (.ptr 1 0)), (39, aD (.slice (.slice t3)) a0.2.2), (40, aI (List.length a0.2.2 : Int)), (41, aI (w64 (i151 + (1 : Int))))] [(1, .one tM a0)] (by kernel_rfl) ?_
          exact round_next' (by kernel_rfl) (by kernel_rfl)
       ·obtain rfl := stepL_false h156 h
        refine wx 2 [] [] (by kernel_rfl) ?_
        refine seqQ_exit ?_
        refine round_exit ?_
        refine escQ_brk ?_
        exact exM (by kernel_rfl)
      ·intro e fr L hJ
       rcases v207 with v212 | v213
       ·obtain ⟨rfl, rfl, rfl⟩ := hJ
        obtain rfl := Option.some.inj h
        refine ltk [(2, aI v212)] [] (by kernel_rfl) ?_
        refine blockQ_ret ?_
        refine seqQ_ret ?_
        exact retM (by kernel_rfl)
       ·obtain ⟨rfl, rfl, rfl⟩ := hJ
        refine ltk [] [] (by kernel_rfl) ?_
        refine blockQ_hit ?_
        refine seqQ_norm ?_
        refine sr [(2, aI (0 : Int))] [] (by kernel_rfl) ?_
        obtain rfl := Option.some.inj h
        refine wtL [(2, aI (0 : Int))] (by kernel_rfl) ?_
        exact retM (by kernel_rfl)

@[reducible] def ref_UnrollCheck_s1 (a1 : Int) (a2 : Int) (v : Bool) : Fr × LL := ([(1, aI a1), (2, aI a2), (20, aB v)], [])
def ref_UnrollCheck (a0 : (Int × (Int × (List (List (Int × (Int × Int))))))) (a1 : Int) (a2 : Int) : Option Int :=
(ref_MachineCheck a0).bind fun r1 =>
bif r1 != (0 : Int) then
(some r1)
else
((bif a0.2.1 != (2 : Int) then
(some true)
else
(some (decide (a0.1 > (2 : Int))))).bind fun v7 =>
bif v7 then
(some (3 : Int))
else
((ref_Within (1 : Int) a1 (5 : Int)).bind fun r10 =>
bif !r10 then
(some (1 : Int))
else
((ref_Within (0 : Int) a2 (6 : Int)).bind fun r13 =>
bif !r13 then
(some (7 : Int))
else
(some (0 : Int)))))
theorem ref_UnrollCheck_ok {a0 : (Int × (Int × (List (List (Int × (Int × Int))))))} {a1 : Int} {a2 : Int} {r : Int} (h : ref_UnrollCheck a0 a1 a2 = some r) : FnC Try.prog 30 [aD tM a0, aI a1, aI a2] [] (aI r) [] := by
 refine fnC_of_W (B := bodyOf Try.f30) (n := 27) Try.func30 (by kernel_rfl) (by kernel_rfl) (by kernel_rfl) (by kernel_rfl) (by kernel_rfl) ?_
 intro K
 refine sr [(1, aI a1), (2, aI a2), (3, .one (.ptr 3 0))] [(3, .one tM a0)] (by kernel_rfl) ?_
 refine W_seq (by kernel_rfl) ?_
 refine W_region (by kernel_rfl) ?_
 refine woL 1 [(1, aI a1), (2, aI a2), (3, .one (.ptr 3 0)), (8, aD tM a0)] (by kernel_rfl) ?_
 obtain ⟨r1, h2, h⟩ := bind_of h
 refine WO_call0 (us := [none]) (d := 9) (p := True) (j := 2) rfl ⟨by kernel_rfl, by kernel_rfl, by kernel_rfl⟩ trivial (ref_MachineCheck_ok h2) (by kernel_rfl) ?_
 refine wo 3 [(1, aI a1), (2, aI a2), (3, .one (.ptr 3 0)), (7, aI r1)] [(3, .one tM a0)] (by kernel_rfl) ?_
 refine wfL [(1, aI a1), (2, aI a2), (3, .one (.ptr 3 0)), (7, aI r1)] (by kernel_rfl) ?_
 refine seqQ_norm ?_
 refine W_seq (by kernel_rfl) ?_
 refine srL [(1, aI a1), (2, aI a2), (3, .one (.ptr 3 0)), (7, aI r1), (11, aB (r1 != (0 : Int)))] (by kernel_rfl) ?_
 refine W_cond (o := .tmp 11) (b := r1 != (0 : Int)) (by kernel_rfl) (by kernel_rfl) (fun h3 => ?_) (fun h3 => ?_)
 ·replace h := ofT h3 h
  refine sr [(6, aI r1)] [] (by kernel_rfl) ?_
  obtain rfl := Option.some.inj h
  refine wtL [(6, aI r1)] (by kernel_rfl) ?_
  refine seqQ_ret ?_
  exact retM (by kernel_rfl)
 ·replace h := ofF h3 h
  refine wkL [(1, aI a1), (2, aI a2), (3, .one (.ptr 3 0))] (by kernel_rfl) ?_
  refine seqQ_norm ?_
  refine W_seq (by kernel_rfl) ?_
  refine W_seq (by kernel_rfl) ?_
  obtain ⟨v7, h8, h⟩ := bind_of h
  refine W_cutK (Q' := (exQ .normal (ref_UnrollCheck_s1 a1 a2)) v7) ?_ ?_
  ·replace h := h8
   refine W_region (by kernel_rfl) ?_
   refine wo 4 [(1, aI a1), (2, aI a2), (3, .one (.ptr 3 0)), (16, aB (a0.2.1 != (2 : Int)))] [(3, .one tM a0)] (by kernel_rfl) ?_
   rcases Bool.eq_false_or_eq_true (a0.2.1 != (2 : Int)) with h6 | h6
   ·replace h := ofT h6 h
    refine woo 8 [(8, .known true), (10, .known true), (12, .known true), (15, .val (.dat .bool true))] [(1, aI a1), (2, aI a2), (20, aB true)] [(3, .one tM a0)] [((a0.2.1 != (2 : Int)) = true), ((a0.2.1 != (2 : Int)) = true), ((a0.2.1 != (2 : Int)) = true), ((a0.2.1 != (2 : Int)) = true)] (by kernel_rfl) (allP2 h6 (allP2 h6 (allP2 h6 (allP1 h6)))) ?_
    obtain rfl := Option.some.inj h
    refine wf [(1, aI a1), (2, aI a2), (20, aB true)] [] (by kernel_rfl) ?_
    exact exM (by kernel_rfl)
   ·replace h := ofF h6 h
    refine woo 8 [(8, .known false), (10, .known false), (12, .known false), (15, .val (.dat .bool false))] [(1, aI a1), (2, aI a2), (20, aB (decide (a0.1 > (2 : Int))))] [(3, .one tM a0)] [((a0.2.1 != (2 : Int)) = false), ((a0.2.1 != (2 : Int)) = false), ((a0.2.1 != (2 : Int)) = false), ((a0.2.1 != (2 : Int)) = false)] (by kernel_rfl) (allP2 h6 (allP2 h6 (allP2 h6 (allP1 h6)))) ?_
    obtain rfl := Option.some.inj h
    refine wf [(1, aI a1), (2, aI a2), (20, aB (decide (a0.1 > (2 : Int))))] [] (by kernel_rfl) ?_
    exact exM (by kernel_rfl)
  ·intro e fr L hJ
   obtain ⟨rfl, rfl, rfl⟩ := hJ
   refine ltk [(1, aI a1), (2, aI a2), (20, aB v7)] [] (by kernel_rfl) ?_
   refine seqQ_norm ?_
   refine W_cond (o := .tmp 20) (b := v7) (by kernel_rfl) (by kernel_rfl) (fun h9 => ?_) (fun h9 => ?_)
   ·replace h := ofT h9 h
    refine srL [(6, aI (3 : Int))] (by kernel_rfl) ?_
    obtain rfl := Option.some.inj h
    refine wtL [(6, aI (3 : Int))] (by kernel_rfl) ?_
    refine seqQ_ret ?_
    exact retM (by kernel_rfl)
   ·replace h := ofF h9 h
    refine wkL [(1, aI a1), (2, aI a2)] (by kernel_rfl) ?_
    refine seqQ_norm ?_
    refine W_seq (by kernel_rfl) ?_
    refine W_seq (by kernel_rfl) ?_
    refine W_region (by kernel_rfl) ?_
    refine woL 1 [(2, aI a2), (21, aI a1)] (by kernel_rfl) ?_
    obtain ⟨r10, h11, h⟩ := bind_of h
    refine WO_call0 (us := [none, none, none]) (d := 22) (p := True) (j := 2) rfl ⟨by kernel_rfl, by kernel_rfl, by kernel_rfl⟩ trivial (ref_Within_ok h11) (by kernel_rfl) ?_
    refine wo 3 [(2, aI a2), (23, aB (!r10))] [] (by kernel_rfl) ?_
    refine wfL [(2, aI a2), (23, aB (!r10))] (by kernel_rfl) ?_
    refine seqQ_norm ?_
    refine W_cond (o := .tmp 23) (b := !r10) (by kernel_rfl) (by kernel_rfl) (fun h12 => ?_) (fun h12 => ?_)
    ·replace h := ofT h12 h
     refine srL [(6, aI (1 : Int))] (by kernel_rfl) ?_
     obtain rfl := Option.some.inj h
     refine wtL [(6, aI (1 : Int))] (by kernel_rfl) ?_
     refine seqQ_ret ?_
     exact retM (by kernel_rfl)
    ·replace h := ofF h12 h
     refine wkL [(2, aI a2)] (by kernel_rfl) ?_
     refine seqQ_norm ?_
     refine W_seq (by kernel_rfl) ?_
     refine W_seq (by kernel_rfl) ?_
     refine W_region (by kernel_rfl) ?_
     refine woL 1 [(24, aI a2)] (by kernel_rfl) ?_
     obtain ⟨r13, h14, h⟩ := bind_of h
     refine WO_call0 (us := [none, none, none]) (d := 25) (p := True) (j := 2) rfl ⟨by kernel_rfl, by kernel_rfl, by kernel_rfl⟩ trivial (ref_Within_ok h14) (by kernel_rfl) ?_
     refine wo 3 [(26, aB (!r13))] [] (by kernel_rfl) ?_
     refine wfL [(26, aB (!r13))] (by kernel_rfl) ?_
     refine seqQ_norm ?_
     refine W_cond (o := .tmp 26) (b := !r13) (by kernel_rfl) (by kernel_rfl) (fun h15 => ?_) (fun h15 => ?_)
     ·replace h := ofT h15 h
      refine srL [(6, aI (7 : Int))] (by kernel_rfl) ?_
      obtain rfl := Option.some.inj h
      refine wtL [(6, aI (7 : Int))] (by kernel_rfl) ?_
      refine seqQ_ret ?_
      exact retM (by kernel_rfl)
     ·replace h := ofF h15 h
      refine wkL [] (by kernel_rfl) ?_
      refine seqQ_norm ?_
      refine srL [(6, aI (0 : Int))] (by kernel_rfl) ?_
      obtain rfl := Option.some.inj h
      refine wtL [(6, aI (0 : Int))] (by kernel_rfl) ?_
      exact retM (by kernel_rfl)

def ref_Bit (a0 : Int) (a1 : Int) : Option Bool :=
bif (decide (a1 ≥ (0 : Int))) && (decide (a1 < (63 : Int))) then
((ck (0 ≤ IntKind.wrap .u64 (a1))).bind fun _ =>
some ((bAnd .i64 a0 (bShl .i64 (1 : Int) (IntKind.wrap .u64 (a1)))) != (0 : Int)))
else
(some false)
theorem ref_Bit_ok {a0 : Int} {a1 : Int} {r : Bool} (h : ref_Bit a0 a1 = some r) : FnC Try.prog 61 [aI a0, aI a1] [] (aB r) [] := by
 refine fnC_of_W (B := bodyOf Try.f61) (n := 19) Try.func61 (by kernel_rfl) (by kernel_rfl) (by kernel_rfl) (by kernel_rfl) (by kernel_rfl) ?_
 intro K
 refine sr [(0, aI a0), (1, aI a1)] [] (by kernel_rfl) ?_
 refine W_seq (by kernel_rfl) ?_
 refine W_region (by kernel_rfl) ?_
 refine woL 7 [(0, aI a0), (1, aI a1), (11, aB ((decide (a1 ≥ (0 : Int))) && (decide (a1 < (63 : Int)))))] (by kernel_rfl) ?_
 rcases Bool.eq_false_or_eq_true ((decide (a1 ≥ (0 : Int))) && (decide (a1 < (63 : Int)))) with h1 | h1
 ·replace h := ofT h1 h
  obtain ⟨_, h2, h⟩ := bind_of h
  replace h2 := ck_some h2
  refine woo 15 [(14, .known true), (16, .known true), (18, .known true), (20, .known true), (22, .known true), (24, .known true), (27, .val (.dat .bool true))] [(4, aB ((bAnd .i64 a0 (bShl .i64 (1 : Int) (IntKind.wrap .u64 (a1)))) != (0 : Int)))] [] [(((decide (a1 ≥ (0 : Int))) && (decide (a1 < (63 : Int)))) = true), (((decide (a1 ≥ (0 : Int))) && (decide (a1 < (63 : Int)))) = true), (((decide (a1 ≥ (0 : Int))) && (decide (a1 < (63 : Int)))) = true), (((decide (a1 ≥ (0 : Int))) && (decide (a1 < (63 : Int)))) = true), (0 ≤ IntKind.wrap .u64 (a1)), (((decide (a1 ≥ (0 : Int))) && (decide (a1 < (63 : Int)))) = true), (((decide (a1 ≥ (0 : Int))) && (decide (a1 < (63 : Int)))) = true), (((decide (a1 ≥ (0 : Int))) && (decide (a1 < (63 : Int)))) = true)] (by kernel_rfl) (allP2 h1 (allP2 h1 (allP2 h1 (allP2 h1 (allP2 h2 (allP2 h1 (allP2 h1 (allP1 h1)))))))) ?_
  refine wfL [(4, aB ((bAnd .i64 a0 (bShl .i64 (1 : Int) (IntKind.wrap .u64 (a1)))) != (0 : Int)))] (by kernel_rfl) ?_
  refine seqQ_norm ?_
  obtain rfl := Option.some.inj h
  refine wtL [(4, aB ((bAnd .i64 a0 (bShl .i64 (1 : Int) (IntKind.wrap .u64 (a1)))) != (0 : Int)))] (by kernel_rfl) ?_
  exact retM (by kernel_rfl)
 ·replace h := ofF h1 h
  refine woo 15 [(14, .known false), (16, .known false), (18, .known false), (20, .known false), (22, .known false), (24, .known false), (27, .val (.dat .bool false))] [(4, aB false)] [] [(((decide (a1 ≥ (0 : Int))) && (decide (a1 < (63 : Int)))) = false), (((decide (a1 ≥ (0 : Int))) && (decide (a1 < (63 : Int)))) = false), (((decide (a1 ≥ (0 : Int))) && (decide (a1 < (63 : Int)))) = false), (((decide (a1 ≥ (0 : Int))) && (decide (a1 < (63 : Int)))) = false), (((decide (a1 ≥ (0 : Int))) && (decide (a1 < (63 : Int)))) = false), (((decide (a1 ≥ (0 : Int))) && (decide (a1 < (63 : Int)))) = false), (((decide (a1 ≥ (0 : Int))) && (decide (a1 < (63 : Int)))) = false)] (by kernel_rfl) (allP2 h1 (allP2 h1 (allP2 h1 (allP2 h1 (allP2 h1 (allP2 h1 (allP1 h1))))))) ?_
  refine wfL [(4, aB false)] (by kernel_rfl) ?_
  refine seqQ_norm ?_
  obtain rfl := Option.some.inj h
  refine wtL [(4, aB false)] (by kernel_rfl) ?_
  exact retM (by kernel_rfl)

@[reducible] def ref_Asked_s18 (a0 : (Int × (Int × (List (List (Int × (Int × Int))))))) (a1 : Int) (a2 : Int) (x58 : (Int × Int × Int × Int)) (v158 : Int) (v162 : (Int × (Int × Int))) (v : Int) : Fr × LL := ([(1, aI a1), (2, aI a2), (3, aI (w64 ((w64 (x58.1 - (bShl .i64 v158 (IntKind.wrap .u64 (x58.2.1))))) + (bShl .i64 v162.1 (IntKind.wrap .u64 (x58.2.1)))))), (4, .one (.ptr 4 0)), (9, aI v), (11, aI x58.2.2.2), (13, .one (.ptr 13 0))], [(4, .one tM a0), (13, .one t3 v162)])
@[reducible] def ref_Asked_s19 (a0 : (Int × (Int × (List (List (Int × (Int × Int))))))) (a1 : Int) (a2 : Int) (x58 : (Int × Int × Int × Int)) (v158 : Int) (v162 : (Int × (Int × Int))) (v : Int) : Fr × LL := ([(1, aI a1), (2, aI a2), (3, aI (w64 ((w64 (x58.1 - (bShl .i64 v158 (IntKind.wrap .u64 (x58.2.1))))) + (bShl .i64 v162.1 (IntKind.wrap .u64 (x58.2.1)))))), (4, .one (.ptr 4 0)), (9, aI v), (11, aI x58.2.2.2), (13, .one (.ptr 13 0))], [(4, .one tM a0), (13, .one t3 v162)])
@[reducible] def ref_Asked_s20 (a0 : (Int × (Int × (List (List (Int × (Int × Int))))))) (a1 : Int) (a2 : Int) (x58 : (Int × Int × Int × Int)) (v : Int) : Fr × LL := ([(1, aI a1), (2, aI a2), (3, aI x58.1), (4, .one (.ptr 4 0)), (9, aI x58.2.1), (10, aI x58.2.2.1), (11, aI x58.2.2.2), (12, aI v)], [(4, .one tM a0)])
@[reducible] def ref_Asked_s21 (a0 : (Int × (Int × (List (List (Int × (Int × Int))))))) (a1 : Int) (a2 : Int) (x58 : (Int × Int × Int × Int)) (v : Bool) : Fr × LL := ([(1, aI a1), (2, aI a2), (3, aI x58.1), (4, .one (.ptr 4 0)), (9, aI x58.2.1), (10, aI x58.2.2.1), (11, aI x58.2.2.2), (22, aB v)], [(4, .one tM a0)])
def ref_Asked_b22 (a0 : (Int × (Int × (List (List (Int × (Int × Int))))))) (a1 : Int) (a2 : Int) (x58 : (Int × Int × Int × Int)) : Option (Flow (Int × Int × Int × Int) (Int × Int × Int)) :=
(bif decide (x58.2.2.2 < a2) then
(some (decide (x58.2.2.1 < a0.1)))
else
(some false)).bind fun v120 =>
bif v120 then
(((ref_Bit x58.1 x58.2.1).bind fun r155 =>
bif r155 then
(some (1 : Int))
else
(some (0 : Int))).bind fun v158 =>
(idx a0.2.2 x58.2.2.1).bind fun v160 =>
(idx v160 v158).bind fun v162 =>
(ck (0 ≤ IntKind.wrap .u64 (x58.2.1))).bind fun _ =>
(bif decide ((w64 (x58.2.1 + v162.2.1)) < (0 : Int)) then
(some (0 : Int))
else
(some (w64 (x58.2.1 + v162.2.1)))).bind fun v168 =>
(bif decide (v168 ≥ a1) then
(some (w64 (a1 - (1 : Int))))
else
(some v168)).bind fun v173 =>
some (.next (w64 ((w64 (x58.1 - (bShl .i64 v158 (IntKind.wrap .u64 (x58.2.1))))) + (bShl .i64 v162.1 (IntKind.wrap .u64 (x58.2.1)))), v173, v162.2.2, w64 (x58.2.2.2 + (1 : Int)))))
else
(some (.done (x58.1, x58.2.1, x58.2.2.1)))
@[reducible] def ref_Asked_s23 (a0 : (Int × (Int × (List (List (Int × (Int × Int))))))) (a1 : Int) (a2 : Int) (v : (Int × Int × Int × Int)) : Fr × LL := ([(1, aI a1), (2, aI a2), (3, aI v.1), (4, .one (.ptr 4 0)), (9, aI v.2.1), (10, aI v.2.2.1), (11, aI v.2.2.2)], [(4, .one tM a0)])
@[reducible] def ref_Asked_s24 (a0 : (Int × (Int × (List (List (Int × (Int × Int))))))) (v : (Int × Int × Int)) : Fr × LL := ([(3, aI v.1), (4, .one (.ptr 4 0)), (9, aI v.2.1), (10, aI v.2.2)], [(4, .one tM a0)])
@[reducible] def ref_Asked_s25 (v : Bool) : Fr × LL := ([(8, aB v)], [])
def ref_Asked (fuel : Nat) (a0 : (Int × (Int × (List (List (Int × (Int × Int))))))) (a1 : Int) (a2 : Int) (a3 : Int) : Option Bool :=
(iter (ref_Asked_b22 a0 a1 a2) fuel (a3, (0 : Int), (0 : Int), (0 : Int))).bind fun v175 =>
(bif v175.2.2 == a0.1 then
((ref_Bit v175.1 v175.2.1).bind fun r186 =>
some r186)
else
(some false)).bind fun v188 =>
some v188
theorem ref_Asked_ok {fuel : Nat} {a0 : (Int × (Int × (List (List (Int × (Int × Int))))))} {a1 : Int} {a2 : Int} {a3 : Int} {r : Bool} (h : ref_Asked fuel a0 a1 a2 a3 = some r) : FnC Try.prog 49 [aD tM a0, aI a1, aI a2, aI a3] [] (aB r) [] := by
 refine fnC_of_W (B := bodyOf Try.f49) (n := 70) Try.func49 (by kernel_rfl) (by kernel_rfl) (by kernel_rfl) (by kernel_rfl) (by kernel_rfl) ?_
 intro K
 refine sr [(1, aI a1), (2, aI a2), (3, aI a3), (4, .one (.ptr 4 0))] [(4, .one tM a0)] (by kernel_rfl) ?_
 refine srL [(1, aI a1), (2, aI a2), (3, aI a3), (4, .one (.ptr 4 0)), (9, aI (0 : Int))] (by kernel_rfl) ?_
 refine srL [(1, aI a1), (2, aI a2), (3, aI a3), (4, .one (.ptr 4 0)), (9, aI (0 : Int)), (10, aI (0 : Int))] (by kernel_rfl) ?_
 refine W_seq (by kernel_rfl) ?_
 refine srL [(1, aI a1), (2, aI a2), (3, aI a3), (4, .one (.ptr 4 0)), (9, aI (0 : Int)), (10, aI (0 : Int)), (11, aI (0 : Int))] (by kernel_rfl) ?_
 refine W_block (id := 0) (by kernel_rfl) ?_
 obtain ⟨v175, h176, h⟩ := bind_of h
 refine W_weaken [1, 2, 3, 4, 9, 10, 11] [4] (fr' := ((ref_Asked_s23 a0 a1 a2) (a3, (0 : Int), (0 : Int), (0 : Int))).1) (L' := ((ref_Asked_s23 a0 a1 a2) (a3, (0 : Int), (0 : Int), (0 : Int))).2) (by kernel_rfl) ?_
 refine W_cutK (W_loop (S := (ref_Asked_s23 a0 a1 a2)) (J := (exQ (.exit 0) (ref_Asked_s24 a0))) (by kernel_rfl) ?_ fuel _ v175 h176) ?_
 ·rintro x58 s h
  refine W_seq (by kernel_rfl) ?_
  refine W_seq (by kernel_rfl) ?_
  obtain ⟨v120, h121, h⟩ := bind_of h
  refine W_cutK (Q' := (exQ .normal (ref_Asked_s21 a0 a1 a2 x58)) v120) ?_ ?_
  ·replace h := h121
   refine W_region (by kernel_rfl) ?_
   refine wo 4 [(1, aI a1), (2, aI a2), (3, aI x58.1), (4, .one (.ptr 4 0)), (9, aI x58.2.1), (10, aI x58.2.2.1), (11, aI x58.2.2.2), (17, aB (decide (x58.2.2.2 < a2)))] [(4, .one tM a0)] (by kernel_rfl) ?_
   rcases Bool.eq_false_or_eq_true (decide (x58.2.2.2 < a2)) with h119 | h119
   ·replace h := ofT h119 h
    refine woo 9 [(8, .known true), (10, .known true), (12, .known true), (14, .known true), (17, .val (.dat .bool true))] [(1, aI a1), (2, aI a2), (3, aI x58.1), (4, .one (.ptr 4 0)), (9, aI x58.2.1), (10, aI x58.2.2.1), (11, aI x58.2.2.2), (22, aB (decide (x58.2.2.1 < a0.1)))] [(4, .one tM a0)] [((decide (x58.2.2.2 < a2)) = true), ((decide (x58.2.2.2 < a2)) = true), ((decide (x58.2.2.2 < a2)) = true), ((decide (x58.2.2.2 < a2)) = true), ((decide (x58.2.2.2 < a2)) = true)] (by kernel_rfl) (allP2 h119 (allP2 h119 (allP2 h119 (allP2 h119 (allP1 h119))))) ?_
    obtain rfl := Option.some.inj h
    refine wfL [(1, aI a1), (2, aI a2), (3, aI x58.1), (4, .one (.ptr 4 0)), (9, aI x58.2.1), (10, aI x58.2.2.1), (11, aI x58.2.2.2), (22, aB (decide (x58.2.2.1 < a0.1)))] (by kernel_rfl) ?_
    exact exM (by kernel_rfl)
   ·replace h := ofF h119 h
    refine woo 9 [(8, .known false), (10, .known false), (12, .known false), (14, .known false), (17, .val (.dat .bool false))] [(1, aI a1), (2, aI a2), (3, aI x58.1), (4, .one (.ptr 4 0)), (9, aI x58.2.1), (10, aI x58.2.2.1), (11, aI x58.2.2.2), (22, aB false)] [(4, .one tM a0)] [((decide (x58.2.2.2 < a2)) = false), ((decide (x58.2.2.2 < a2)) = false), ((decide (x58.2.2.2 < a2)) = false), ((decide (x58.2.2.2 < a2)) = false), ((decide (x58.2.2.2 < a2)) = false)] (by kernel_rfl) (allP2 h119 (allP2 h119 (allP2 h119 (allP2 h119 (allP1 h119))))) ?_
    obtain rfl := Option.some.inj h
    refine wfL [(1, aI a1), (2, aI a2), (3, aI x58.1), (4, .one (.ptr 4 0)), (9, aI x58.2.1), (10, aI x58.2.2.1), (11, aI x58.2.2.2), (22, aB false)] (by kernel_rfl) ?_
    exact exM (by kernel_rfl)
  ·intro e fr L hJ
   obtain ⟨rfl, rfl, rfl⟩ := hJ
   refine ltk [(1, aI a1), (2, aI a2), (3, aI x58.1), (4, .one (.ptr 4 0)), (9, aI x58.2.1), (10, aI x58.2.2.1), (11, aI x58.2.2.2), (22, aB v120)] [(4, .one tM a0)] (by kernel_rfl) ?_
   refine seqQ_norm ?_
   refine W_cond (o := .tmp 22) (b := v120) (by kernel_rfl) (by kernel_rfl) (fun h122 => ?_) (fun h122 => ?_)
   ·replace h := ofT h122 h
    refine wkL [(1, aI a1), (2, aI a2), (3, aI x58.1), (4, .one (.ptr 4 0)), (9, aI x58.2.1), (10, aI x58.2.2.1), (11, aI x58.2.2.2)] (by kernel_rfl) ?_
    refine seqQ_norm ?_
    refine W_seq (by kernel_rfl) ?_
    refine W_block (id := 1) (by kernel_rfl) ?_
    refine srL [(1, aI a1), (2, aI a2), (3, aI x58.1), (4, .one (.ptr 4 0)), (9, aI x58.2.1), (10, aI x58.2.2.1), (11, aI x58.2.2.2), (12, aI (0 : Int))] (by kernel_rfl) ?_
    refine W_seq (by kernel_rfl) ?_
    obtain ⟨v158, h159, h⟩ := bind_of h
    refine W_cutK (Q' := (exQ .normal (ref_Asked_s20 a0 a1 a2 x58)) v158) ?_ ?_
    ·replace h := h159
     refine W_seq (by kernel_rfl) ?_
     refine W_region (by kernel_rfl) ?_
     refine wo 2 [(1, aI a1), (2, aI a2), (3, aI x58.1), (4, .one (.ptr 4 0)), (9, aI x58.2.1), (10, aI x58.2.2.1), (11, aI x58.2.2.2), (12, aI (0 : Int)), (25, aI x58.1), (26, aI x58.2.1)] [(4, .one tM a0)] (by kernel_rfl) ?_
     obtain ⟨r155, h156, h⟩ := bind_of h
     refine WO_call0 (us := [none, none]) (d := 27) (p := True) (j := 3) rfl ⟨by kernel_rfl, by kernel_rfl, by kernel_rfl⟩ trivial (ref_Bit_ok h156) (by kernel_rfl) ?_
     refine wf [(1, aI a1), (2, aI a2), (3, aI x58.1), (4, .one (.ptr 4 0)), (9, aI x58.2.1), (10, aI x58.2.2.1), (11, aI x58.2.2.2), (12, aI (0 : Int)), (27, aB r155)] [(4, .one tM a0)] (by kernel_rfl) ?_
     refine seqQ_norm ?_
     refine W_cond (o := .tmp 27) (b := r155) (by kernel_rfl) (by kernel_rfl) (fun h157 => ?_) (fun h157 => ?_)
     ·replace h := ofT h157 h
      obtain rfl := Option.some.inj h
      refine swL [(1, aI a1), (2, aI a2), (3, aI x58.1), (4, .one (.ptr 4 0)), (9, aI x58.2.1), (10, aI x58.2.2.1), (11, aI x58.2.2.2), (12, aI (1 : Int))] (by kernel_rfl) ?_
      exact exM (by kernel_rfl)
     ·replace h := ofF h157 h
      obtain rfl := Option.some.inj h
      refine wkL [(1, aI a1), (2, aI a2), (3, aI x58.1), (4, .one (.ptr 4 0)), (9, aI x58.2.1), (10, aI x58.2.2.1), (11, aI x58.2.2.2), (12, aI (0 : Int))] (by kernel_rfl) ?_
      exact exM (by kernel_rfl)
    ·intro e fr L hJ
     obtain ⟨rfl, rfl, rfl⟩ := hJ
     refine ltk [(1, aI a1), (2, aI a2), (3, aI x58.1), (4, .one (.ptr 4 0)), (9, aI x58.2.1), (10, aI x58.2.2.1), (11, aI x58.2.2.2), (12, aI v158)] [(4, .one tM a0)] (by kernel_rfl) ?_
     refine seqQ_norm ?_
     refine W_seq (by kernel_rfl) ?_
     obtain ⟨v160, h161, h⟩ := bind_of h
     obtain ⟨v162, h163, h⟩ := bind_of h
     refine W_run 10 [(7, .val (.dat (.slice t3) v160)), (13, .val (.dat t3 v162)), (17, .typed)] [1, 2, 3, 4, 9, 11, 12, 13] [4, 13] (fr' := [(1, aI a1), (2, aI a2), (3, aI x58.1), (4, .one (.ptr 4 0)), (9, aI x58.2.1), (11, aI x58.2.2.2), (12, aI v158), (13, .one (.ptr 13 0))]) (L' := [(4, .one tM a0), (13, .one t3 v162)]) (obs := [Idx a0.2.2 x58.2.2.1 v160, Idx v160 v158 v162, True]) (by kernel_rfl) (by kernel_rfl) (by kernel_rfl) (allP2 (Idx.of h161) (allP2 (Idx.of h163) (allP1 trivial))) ?_
     refine seqQ_norm ?_
     refine W_seq (by kernel_rfl) ?_
     obtain ⟨_, h164, h⟩ := bind_of h
     replace h164 := ck_some h164
     refine W_run 13 [] [1, 2, 3, 4, 9, 11, 13] [4, 13] (fr' := [(1, aI a1), (2, aI a2), (3, aI (w64 ((w64 (x58.1 - (bShl .i64 v158 (IntKind.wrap .u64 (x58.2.1))))) + (bShl .i64 v162.1 (IntKind.wrap .u64 (x58.2.1)))))), (4, .one (.ptr 4 0)), (9, aI x58.2.1), (11, aI x58.2.2.2), (13, .one (.ptr 13 0))]) (L' := [(4, .one tM a0), (13, .one t3 v162)]) (obs := [(0 ≤ IntKind.wrap .u64 (x58.2.1)), (0 ≤ IntKind.wrap .u64 (x58.2.1))]) (by kernel_rfl) (by kernel_rfl) (by kernel_rfl) (allP2 h164 (allP1 h164)) ?_
     refine seqQ_norm ?_
     refine srL [(1, aI a1), (2, aI a2), (3, aI (w64 ((w64 (x58.1 - (bShl .i64 v158 (IntKind.wrap .u64 (x58.2.1))))) + (bShl .i64 v162.1 (IntKind.wrap .u64 (x58.2.1)))))), (4, .one (.ptr 4 0)), (9, aI (w64 (x58.2.1 + v162.2.1))), (11, aI x58.2.2.2), (13, .one (.ptr 13 0))] (by kernel_rfl) ?_
     refine W_seq (by kernel_rfl) ?_
     obtain ⟨v168, h169, h⟩ := bind_of h
     refine W_cutK (Q' := (exQ .normal (ref_Asked_s19 a0 a1 a2 x58 v158 v162)) v168) ?_ ?_
     ·replace h := h169
      refine sr [(1, aI a1), (2, aI a2), (3, aI (w64 ((w64 (x58.1 - (bShl .i64 v158 (IntKind.wrap .u64 (x58.2.1))))) + (bShl .i64 v162.1 (IntKind.wrap .u64 (x58.2.1)))))), (4, .one (.ptr 4 0)), (9, aI (w64 (x58.2.1 + v162.2.1))), (11, aI x58.2.2.2), (13, .one (.ptr 13 0)), (53, aB (decide ((w64 (x58.2.1 + v162.2.1)) < (0 : Int))))] [(4, .one tM a0), (13, .one t3 v162)] (by kernel_rfl) ?_
      refine W_cond (o := .tmp 53) (b := decide ((w64 (x58.2.1 + v162.2.1)) < (0 : Int))) (by kernel_rfl) (by kernel_rfl) (fun h167 => ?_) (fun h167 => ?_)
      ·replace h := ofT h167 h
       obtain rfl := Option.some.inj h
       refine swL [(1, aI a1), (2, aI a2), (3, aI (w64 ((w64 (x58.1 - (bShl .i64 v158 (IntKind.wrap .u64 (x58.2.1))))) + (bShl .i64 v162.1 (IntKind.wrap .u64 (x58.2.1)))))), (4, .one (.ptr 4 0)), (9, aI (0 : Int)), (11, aI x58.2.2.2), (13, .one (.ptr 13 0))] (by kernel_rfl) ?_
       exact exM (by kernel_rfl)
      ·replace h := ofF h167 h
       obtain rfl := Option.some.inj h
       refine wkL [(1, aI a1), (2, aI a2), (3, aI (w64 ((w64 (x58.1 - (bShl .i64 v158 (IntKind.wrap .u64 (x58.2.1))))) + (bShl .i64 v162.1 (IntKind.wrap .u64 (x58.2.1)))))), (4, .one (.ptr 4 0)), (9, aI (w64 (x58.2.1 + v162.2.1))), (11, aI x58.2.2.2), (13, .one (.ptr 13 0))] (by kernel_rfl) ?_
       exact exM (by kernel_rfl)
     ·intro e fr L hJ
      obtain ⟨rfl, rfl, rfl⟩ := hJ
      refine ltk [(1, aI a1), (2, aI a2), (3, aI (w64 ((w64 (x58.1 - (bShl .i64 v158 (IntKind.wrap .u64 (x58.2.1))))) + (bShl .i64 v162.1 (IntKind.wrap .u64 (x58.2.1)))))), (4, .one (.ptr 4 0)), (9, aI v168), (11, aI x58.2.2.2), (13, .one (.ptr 13 0))] [(4, .one tM a0), (13, .one t3 v162)] (by kernel_rfl) ?_
      refine seqQ_norm ?_
      refine W_seq (by kernel_rfl) ?_
      obtain ⟨v173, h174, h⟩ := bind_of h
      refine W_cutK (Q' := (exQ .normal (ref_Asked_s18 a0 a1 a2 x58 v158 v162)) v173) ?_ ?_
      ·replace h := h174
       refine sr [(1, aI a1), (2, aI a2), (3, aI (w64 ((w64 (x58.1 - (bShl .i64 v158 (IntKind.wrap .u64 (x58.2.1))))) + (bShl .i64 v162.1 (IntKind.wrap .u64 (x58.2.1)))))), (4, .one (.ptr 4 0)), (9, aI v168), (11, aI x58.2.2.2), (13, .one (.ptr 13 0)), (56, aB (decide (v168 ≥ a1)))] [(4, .one tM a0), (13, .one t3 v162)] (by kernel_rfl) ?_
       refine W_cond (o := .tmp 56) (b := decide (v168 ≥ a1)) (by kernel_rfl) (by kernel_rfl) (fun h172 => ?_) (fun h172 => ?_)
       ·replace h := ofT h172 h
        obtain rfl := Option.some.inj h
        refine swL [(1, aI a1), (2, aI a2), (3, aI (w64 ((w64 (x58.1 - (bShl .i64 v158 (IntKind.wrap .u64 (x58.2.1))))) + (bShl .i64 v162.1 (IntKind.wrap .u64 (x58.2.1)))))), (4, .one (.ptr 4 0)), (9, aI (w64 (a1 - (1 : Int)))), (11, aI x58.2.2.2), (13, .one (.ptr 13 0))] (by kernel_rfl) ?_
        exact exM (by kernel_rfl)
       ·replace h := ofF h172 h
        obtain rfl := Option.some.inj h
        refine wkL [(1, aI a1), (2, aI a2), (3, aI (w64 ((w64 (x58.1 - (bShl .i64 v158 (IntKind.wrap .u64 (x58.2.1))))) + (bShl .i64 v162.1 (IntKind.wrap .u64 (x58.2.1)))))), (4, .one (.ptr 4 0)), (9, aI v168), (11, aI x58.2.2.2), (13, .one (.ptr 13 0))] (by kernel_rfl) ?_
        exact exM (by kernel_rfl)
      ·intro e fr L hJ
       obtain ⟨rfl, rfl, rfl⟩ := hJ
       refine ltk [(1, aI a1), (2, aI a2), (3, aI (w64 ((w64 (x58.1 - (bShl .i64 v158 (IntKind.wrap .u64 (x58.2.1))))) + (bShl .i64 v162.1 (IntKind.wrap .u64 (x58.2.1)))))), (4, .one (.ptr 4 0)), (9, aI v173), (11, aI x58.2.2.2), (13, .one (.ptr 13 0))] [(4, .one tM a0), (13, .one t3 v162)] (by kernel_rfl) ?_
       refine seqQ_norm ?_
       refine sw [(1, aI a1), (2, aI a2), (3, aI (w64 ((w64 (x58.1 - (bShl .i64 v158 (IntKind.wrap .u64 (x58.2.1))))) + (bShl .i64 v162.1 (IntKind.wrap .u64 (x58.2.1)))))), (4, .one (.ptr 4 0)), (9, aI v173), (10, aI v162.2.2), (11, aI x58.2.2.2)] [(4, .one tM a0)] (by kernel_rfl) ?_
       refine blockQ_norm ?_
       refine seqQ_norm ?_
       obtain rfl := Option.some.inj h
       refine swL [(1, aI a1), (2, aI a2), (3, aI (w64 ((w64 (x58.1 - (bShl .i64 v158 (IntKind.wrap .u64 (x58.2.1))))) + (bShl .i64 v162.1 (IntKind.wrap .u64 (x58.2.1)))))), (4, .one (.ptr 4 0)), (9, aI v173), (10, aI v162.2.2), (11, aI (w64 (x58.2.2.2 + (1 : Int))))] (by kernel_rfl) ?_
       exact round_next' (by kernel_rfl) (by kernel_rfl)
   ·replace h := ofF h122 h
    obtain rfl := Option.some.inj h
    refine wxL 0 [(3, aI x58.1), (4, .one (.ptr 4 0)), (9, aI x58.2.1), (10, aI x58.2.2.1)] (by kernel_rfl) ?_
    refine seqQ_exit ?_
    refine round_exit ?_
    exact exM (by kernel_rfl)
 ·intro e fr L hJ
  obtain ⟨rfl, rfl, rfl⟩ := hJ
  refine ltk [(3, aI v175.1), (4, .one (.ptr 4 0)), (9, aI v175.2.1), (10, aI v175.2.2)] [(4, .one tM a0)] (by kernel_rfl) ?_
  refine blockQ_hit ?_
  refine seqQ_norm ?_
  refine W_seq (by kernel_rfl) ?_
  obtain ⟨v188, h189, h⟩ := bind_of h
  refine W_cutK (Q' := (exQ .normal ref_Asked_s25) v188) ?_ ?_
  ·replace h := h189
   refine W_region (by kernel_rfl) ?_
   refine wo 5 [(3, aI v175.1), (9, aI v175.2.1), (65, aB (v175.2.2 == a0.1))] [(4, .one tM a0)] (by kernel_rfl) ?_
   rcases Bool.eq_false_or_eq_true (v175.2.2 == a0.1) with h185 | h185
   ·replace h := ofT h185 h
    refine woo 7 [(10, .known true), (12, .known true)] [(65, aB (v175.2.2 == a0.1)), (66, aI v175.1), (67, aI v175.2.1)] [(4, .one tM a0)] [((v175.2.2 == a0.1) = true), ((v175.2.2 == a0.1) = true)] (by kernel_rfl) (allP2 h185 (allP1 h185)) ?_
    obtain ⟨r186, h187, h⟩ := bind_of h
    refine WO_call0 (us := [none, none]) (d := 68) (p := ((v175.2.2 == a0.1) = true)) (j := 8) rfl ⟨by kernel_rfl, by kernel_rfl, by kernel_rfl⟩ h185 (ref_Bit_ok h187) (by kernel_rfl) ?_
    refine woo 10 [(17, .val (.dat .bool true))] [(8, aB r186)] [(4, .one tM a0)] [((v175.2.2 == a0.1) = true)] (by kernel_rfl) (allP1 h185) ?_
    obtain rfl := Option.some.inj h
    refine wf [(8, aB r186)] [] (by kernel_rfl) ?_
    exact exM (by kernel_rfl)
   ·replace h := ofF h185 h
    refine woo 10 [(10, .known false), (12, .known false), (14, .known false), (17, .val (.dat .bool false))] [(8, aB false)] [(4, .one tM a0)] [((v175.2.2 == a0.1) = false), ((v175.2.2 == a0.1) = false), ((v175.2.2 == a0.1) = false), ((v175.2.2 == a0.1) = false)] (by kernel_rfl) (allP2 h185 (allP2 h185 (allP2 h185 (allP1 h185)))) ?_
    obtain rfl := Option.some.inj h
    refine wf [(8, aB false)] [] (by kernel_rfl) ?_
    exact exM (by kernel_rfl)
  ·intro e fr L hJ
   obtain ⟨rfl, rfl, rfl⟩ := hJ
   refine ltk [(8, aB v188)] [] (by kernel_rfl) ?_
   refine seqQ_norm ?_
   obtain rfl := Option.some.inj h
   refine wtL [(8, aB v188)] (by kernel_rfl) ?_
   exact retM (by kernel_rfl)

def ref_Bits_b1 (a1 : Int) (i10 : Int) (x11 : (List Bool)) : Option (Flow (List Bool) (List Bool)) :=
(ref_Bit a1 i10).bind fun r14 =>
(ck ((List.length x11 : Int) + 1 ≤ 4294967296)).bind fun _ =>
some (.next (x11 ++ [r14]))
@[reducible] def ref_Bits_s2 (a0 : Int) (a1 : Int) (v : Int × (List Bool)) : Fr × LL := ([(0, aI a0), (1, aI a1), (5, .one (.slc 17)), (6, aI v.1)], [(17, .seq .bool v.2)])
@[reducible] def ref_Bits_s3 (v : (List Bool)) : Fr × LL := ([(5, .one (.slc 17))], [(17, .seq .bool v)])
def ref_Bits (a0 : Int) (a1 : Int) : Option (List Bool) :=
(forI (0 : Int) a0 (ref_Bits_b1 a1) (fun x11 => x11) []).bind fun v18 =>
some v18
theorem ref_Bits_ok {a0 : Int} {a1 : Int} {r : (List Bool)} (h : ref_Bits a0 a1 = some r) : FnC Try.prog 32 [aI a0, aI a1] [] (aD (.slice .bool) r) [] := by
 refine fnC_of_W (B := bodyOf Try.f32) (n := 19) Try.func32 (by kernel_rfl) (by kernel_rfl) (by kernel_rfl) (by kernel_rfl) (by kernel_rfl) ?_
 intro K
 refine sr [(0, aI a0), (1, aI a1)] [] (by kernel_rfl) ?_
 refine srL [(0, aI a0), (1, aI a1), (5, .one (.nilS))] (by kernel_rfl) ?_
 refine W_seq (by kernel_rfl) ?_
 refine srL [(0, aI a0), (1, aI a1), (5, .one (.nilS)), (6, aI (0 : Int))] (by kernel_rfl) ?_
 refine W_block (id := 0) (by kernel_rfl) ?_
 obtain ⟨v18, h19, h⟩ := bind_of h
 obtain ⟨h20, h21⟩ := forI_iter h19
 refine W_mine 5 17 .bool (by kernel_rfl) ?_
 refine W_weaken [0, 1, 5, 6] [17] (fr' := ((ref_Bits_s2 a0 a1) ((0 : Int), [])).1) (L' := ((ref_Bits_s2 a0 a1) ((0 : Int), [])).2) (by kernel_rfl) ?_
 refine W_cutK (W_loop (S := (ref_Bits_s2 a0 a1)) (J := (exQ (.exit 0) ref_Bits_s3)) (by kernel_rfl) ?_ h20 _ v18 h21) ?_
 ·rintro ⟨i10, x11⟩ s h
  refine W_seq (by kernel_rfl) ?_
  refine sr [(0, aI a0), (1, aI a1), (5, .one (.slc 17)), (6, aI i10), (9, aB (decide (i10 < a0)))] [(17, .seq .bool x11)] (by kernel_rfl) ?_
  refine W_cond (o := .tmp 9) (b := decide (i10 < a0)) (by kernel_rfl) (by kernel_rfl) (fun h13 => ?_) (fun h13 => ?_)
  ·replace h := stepI_true h13 h
   obtain ⟨_, h, rfl⟩ := h
   refine wkL [(0, aI a0), (1, aI a1), (5, .one (.slc 17)), (6, aI i10)] (by kernel_rfl) ?_
   refine seqQ_norm ?_
   refine W_seq (by kernel_rfl) ?_
   refine W_block (id := 1) (by kernel_rfl) ?_
   refine W_region (by kernel_rfl) ?_
   refine woL 3 [(0, aI a0), (1, aI a1), (5, .one (.slc 17)), (6, aI i10), (12, .one (.slc 17)), (13, aI a1), (14, aI i10)] (by kernel_rfl) ?_
   obtain ⟨r14, h15, h⟩ := bind_of h
   refine WO_call0 (us := [none, none]) (d := 15) (p := True) (j := 4) rfl ⟨by kernel_rfl, by kernel_rfl, by kernel_rfl⟩ trivial (ref_Bit_ok h15) (by kernel_rfl) ?_
   obtain ⟨_, h16, h⟩ := bind_of h
   replace h16 := ck_some h16
   refine woo 7 [] [(0, aI a0), (1, aI a1), (5, .one (.slc 17)), (6, aI i10)] [(16, .seq .bool [r14]), (17, .seq .bool (x11 ++ [r14]))] [SmallLen (List.length x11 + List.length [r14])] (by kernel_rfl) (allP1 h16) ?_
   refine wf [(0, aI a0), (1, aI a1), (5, .one (.slc 17)), (6, aI i10)] [(17, .seq .bool (x11 ++ [r14]))] (by kernel_rfl) ?_
   refine blockQ_norm ?_
   refine seqQ_norm ?_
   obtain rfl := Option.some.inj h
   refine swL [(0, aI a0), (1, aI a1), (5, .one (.slc 17)), (6, aI (w64 (i10 + (1 : Int))))] (by kernel_rfl) ?_
   exact round_next' (by kernel_rfl) (by kernel_rfl)
  ·obtain rfl := stepI_false h13 h
   refine wxL 0 [(5, .one (.slc 17))] (by kernel_rfl) ?_
   refine seqQ_exit ?_
   refine round_exit ?_
   exact exM (by kernel_rfl)
 ·intro e fr L hJ
  obtain ⟨rfl, rfl, rfl⟩ := hJ
  refine ltk [(5, .one (.slc 17))] [(17, .seq .bool v18)] (by kernel_rfl) ?_
  refine blockQ_hit ?_
  refine seqQ_norm ?_
  refine sr [(4, .one (.slc 17))] [(17, .seq .bool v18)] (by kernel_rfl) ?_
  obtain rfl := Option.some.inj h
  refine W_frz 17 (by kernel_rfl) ?_
  refine wt [(4, aD (.slice .bool) v18)] [] (by kernel_rfl) ?_
  exact retM (by kernel_rfl)

@[reducible] def ref_choices_i2_s891 (a0 : (List ((List Int) × (List Int)))) (c0 : (List Int)) (i7267 : Int) (x7268 : (Bool × (List Int))) (v7270 : ((List Int) × (List Int))) (i7946 : Int) (x7947 : (Int × Int × Int × Bool)) (v7949 : Int) (v : Bool) : Fr × LL := ([(0, aD (.slice tC) a0), (1, .one (.slc 19)), (5, aB x7268.1), (7, .one (.ptr 7 0)), (8, aI x7947.1), (9, aI x7947.2.1), (10, aI x7947.2.2.1), (11, aB v), (13, aI v7949), (23, aD (.slice tC) a0), (24, aI (List.length a0 : Int)), (25, aI i7267), (30, aD (.slice tI) v7270.1), (31, aI (List.length v7270.1 : Int)), (32, aI i7946)], [(19, .seq tI x7268.2), (7, .one tC v7270), (1000, .seq tI c0)])
def ref_choices_i2_g892 (x7268 : (Bool × (List Int))) (x7947 : (Int × Int × Int × Bool)) (v7949 : Int) : Option (Int × Int × Int × Bool) :=
(bif x7947.2.2.2 then
(some true)
else
((idx x7268.2 v7949).bind fun v7987 =>
some (v7987 == (1 : Int)))).bind fun v7989 =>
(idx x7268.2 v7949).bind fun v7991 =>
bif decide (v7991 < (0 : Int)) then
(some (v7949, (1 : Int), w64 (x7947.2.2.1 + (1 : Int)), v7989))
else
(some (x7947.1, x7947.2.1, x7947.2.2.1, v7989))
@[reducible] def ref_choices_i2_s893 (a0 : (List ((List Int) × (List Int)))) (c0 : (List Int)) (i7267 : Int) (x7268 : (Bool × (List Int))) (v7270 : ((List Int) × (List Int))) (i7946 : Int) (v : (Int × Int × Int × Bool)) : Fr × LL := ([(0, aD (.slice tC) a0), (1, .one (.slc 19)), (5, aB x7268.1), (7, .one (.ptr 7 0)), (8, aI v.1), (9, aI v.2.1), (10, aI v.2.2.1), (11, aB v.2.2.2), (23, aD (.slice tC) a0), (24, aI (List.length a0 : Int)), (25, aI i7267), (30, aD (.slice tI) v7270.1), (31, aI (List.length v7270.1 : Int)), (32, aI i7946)], [(19, .seq tI x7268.2), (7, .one tC v7270), (1000, .seq tI c0)])
def ref_choices_i2_b894 (x7268 : (Bool × (List Int))) (i7946 : Int) (v7949 : Int) (x7947 : (Int × Int × Int × Bool)) : Option (Flow (Int × Int × Int × Bool) (Int × Int × Int × Bool)) :=
(ref_choices_i2_g892 x7268 x7947 v7949).bind fun v7994 =>
some (.next (v7994.1, v7994.2.1, v7994.2.2.1, v7994.2.2.2))
@[reducible] def ref_choices_i2_s895 (a0 : (List ((List Int) × (List Int)))) (c0 : (List Int)) (i7267 : Int) (x7268 : (Bool × (List Int))) (v7270 : ((List Int) × (List Int))) (v : Int × (Int × Int × Int × Bool)) : Fr × LL := ([(0, aD (.slice tC) a0), (1, .one (.slc 19)), (5, aB x7268.1), (7, .one (.ptr 7 0)), (8, aI v.2.1), (9, aI v.2.2.1), (10, aI v.2.2.2.1), (11, aB v.2.2.2.2), (23, aD (.slice tC) a0), (24, aI (List.length a0 : Int)), (25, aI i7267), (30, aD (.slice tI) v7270.1), (31, aI (List.length v7270.1 : Int)), (32, aI v.1)], [(19, .seq tI x7268.2), (7, .one tC v7270), (1000, .seq tI c0)])
@[reducible] def ref_choices_i2_s896 (a0 : (List ((List Int) × (List Int)))) (c0 : (List Int)) (i7267 : Int) (x7268 : (Bool × (List Int))) (v7270 : ((List Int) × (List Int))) (v : (Int × Int × Int × Bool)) : Fr × LL := ([(0, aD (.slice tC) a0), (1, .one (.slc 19)), (5, aB x7268.1), (7, .one (.ptr 7 0)), (8, aI v.1), (9, aI v.2.1), (10, aI v.2.2.1), (11, aB v.2.2.2), (23, aD (.slice tC) a0), (24, aI (List.length a0 : Int)), (25, aI i7267)], [(19, .seq tI x7268.2), (7, .one tC v7270), (1000, .seq tI c0)])
@[reducible] def ref_choices_i2_s909 (a0 : (List ((List Int) × (List Int)))) (c0 : (List Int)) (i7267 : Int) (x7268 : (Bool × (List Int))) (v7270 : ((List Int) × (List Int))) (i8106 : Int) (x8107 : (Int × Int × Int × Bool)) (v8109 : Int) (v : Bool) : Fr × LL := ([(0, aD (.slice tC) a0), (1, .one (.slc 19)), (5, aB x7268.1), (8, aI x8107.1), (9, aI x8107.2.1), (10, aI x8107.2.2.1), (11, aB v), (15, aI v8109), (23, aD (.slice tC) a0), (24, aI (List.length a0 : Int)), (25, aI i7267), (54, aD (.slice tI) v7270.2), (55, aI (List.length v7270.2 : Int)), (56, aI i8106)], [(19, .seq tI x7268.2), (1000, .seq tI c0)])
def ref_choices_i2_g910 (x7268 : (Bool × (List Int))) (x8107 : (Int × Int × Int × Bool)) (v8109 : Int) : Option (Int × Int × Int × Bool) :=
(bif x8107.2.2.2 then
(some true)
else
((idx x7268.2 v8109).bind fun v8147 =>
some (v8147 == (0 : Int)))).bind fun v8149 =>
(idx x7268.2 v8109).bind fun v8151 =>
bif decide (v8151 < (0 : Int)) then
(some (v8109, (0 : Int), w64 (x8107.2.2.1 + (1 : Int)), v8149))
else
(some (x8107.1, x8107.2.1, x8107.2.2.1, v8149))
@[reducible] def ref_choices_i2_s911 (a0 : (List ((List Int) × (List Int)))) (c0 : (List Int)) (i7267 : Int) (x7268 : (Bool × (List Int))) (v7270 : ((List Int) × (List Int))) (i8106 : Int) (v : (Int × Int × Int × Bool)) : Fr × LL := ([(0, aD (.slice tC) a0), (1, .one (.slc 19)), (5, aB x7268.1), (8, aI v.1), (9, aI v.2.1), (10, aI v.2.2.1), (11, aB v.2.2.2), (23, aD (.slice tC) a0), (24, aI (List.length a0 : Int)), (25, aI i7267), (54, aD (.slice tI) v7270.2), (55, aI (List.length v7270.2 : Int)), (56, aI i8106)], [(19, .seq tI x7268.2), (1000, .seq tI c0)])
def ref_choices_i2_b912 (x7268 : (Bool × (List Int))) (i8106 : Int) (v8109 : Int) (x8107 : (Int × Int × Int × Bool)) : Option (Flow (Int × Int × Int × Bool) (Int × Int × Int × Bool)) :=
(ref_choices_i2_g910 x7268 x8107 v8109).bind fun v8154 =>
some (.next (v8154.1, v8154.2.1, v8154.2.2.1, v8154.2.2.2))
@[reducible] def ref_choices_i2_s913 (a0 : (List ((List Int) × (List Int)))) (c0 : (List Int)) (i7267 : Int) (x7268 : (Bool × (List Int))) (v7270 : ((List Int) × (List Int))) (v : Int × (Int × Int × Int × Bool)) : Fr × LL := ([(0, aD (.slice tC) a0), (1, .one (.slc 19)), (5, aB x7268.1), (8, aI v.2.1), (9, aI v.2.2.1), (10, aI v.2.2.2.1), (11, aB v.2.2.2.2), (23, aD (.slice tC) a0), (24, aI (List.length a0 : Int)), (25, aI i7267), (54, aD (.slice tI) v7270.2), (55, aI (List.length v7270.2 : Int)), (56, aI v.1)], [(19, .seq tI x7268.2), (1000, .seq tI c0)])
@[reducible] def ref_choices_i2_s914 (a0 : (List ((List Int) × (List Int)))) (c0 : (List Int)) (i7267 : Int) (x7268 : (Bool × (List Int))) (v : (Int × Int × Int × Bool)) : Fr × LL := ([(0, aD (.slice tC) a0), (1, .one (.slc 19)), (5, aB x7268.1), (8, aI v.1), (9, aI v.2.1), (10, aI v.2.2.1), (11, aB v.2.2.2), (23, aD (.slice tC) a0), (24, aI (List.length a0 : Int)), (25, aI i7267)], [(19, .seq tI x7268.2), (1000, .seq tI c0)])
def ref_choices_i2_g915 (x7268 : (Bool × (List Int))) (v7270 : ((List Int) × (List Int))) : Option (Esc Int (Bool × (List Int))) :=
(forL (ref_choices_i2_b894 x7268) (fun x7947 => (x7947.1, x7947.2.1, x7947.2.2.1, x7947.2.2.2)) v7270.1 0 ((-1 : Int), (0 : Int), (0 : Int), false)).bind fun v7997 =>
(forL (ref_choices_i2_b912 x7268) (fun x8107 => (x8107.1, x8107.2.1, x8107.2.2.1, x8107.2.2.2)) v7270.2 0 (v7997.1, v7997.2.1, v7997.2.2.1, v7997.2.2.2)).bind fun v8157 =>
bif v8157.2.2.2 then
(some (.brk (x7268.1, x7268.2)))
else
(bif v8157.2.2.1 == (0 : Int) then
(some (.ret (0 : Int)))
else
(bif v8157.2.2.1 == (1 : Int) then
((idx x7268.2 v8157.1).bind fun v8165 =>
some (.brk (true, List.set x7268.2 (Int.toNat v8157.1) v8157.2.1)))
else
(some (.brk (x7268.1, x7268.2)))))
@[reducible] def ref_choices_i2_s916 (c0 : (List Int)) (v : Int) : Fr × LL := ([(4, aI v)], [(1000, .seq tI c0)])
@[reducible] def ref_choices_i2_s917 (a0 : (List ((List Int) × (List Int)))) (c0 : (List Int)) (i7267 : Int) (v : (Bool × (List Int))) : Fr × LL := ([(0, aD (.slice tC) a0), (1, .one (.slc 19)), (5, aB v.1), (23, aD (.slice tC) a0), (24, aI (List.length a0 : Int)), (25, aI i7267)], [(19, .seq tI v.2), (1000, .seq tI c0)])
def ref_choices_i2_b918 (i7267 : Int) (v7270 : ((List Int) × (List Int))) (x7268 : (Bool × (List Int))) : Option (Flow (Bool × (List Int)) (Esc Int (Bool × (List Int)))) :=
(ref_choices_i2_g915 x7268 v7270).bind fun v8167 =>
match v8167 with
| .ret v8169 =>
(some (.done (.ret v8169)))
| .brk v8170 =>
(some (.next (v8170.1, v8170.2)))
@[reducible] def ref_choices_i2_s919 (a0 : (List ((List Int) × (List Int)))) (c0 : (List Int)) (v : Int × (Bool × (List Int))) : Fr × LL := ([(0, aD (.slice tC) a0), (1, .one (.slc 19)), (5, aB v.2.1), (23, aD (.slice tC) a0), (24, aI (List.length a0 : Int)), (25, aI v.1)], [(19, .seq tI v.2.2), (1000, .seq tI c0)])
@[reducible] def ref_choices_i2_s920 (c0 : (List Int)) (v : Int) : Fr × LL := ([(4, aI v)], [(1000, .seq tI c0)])
@[reducible] def ref_choices_i2_s921 (a0 : (List ((List Int) × (List Int)))) (c0 : (List Int)) (v : (Bool × (List Int))) : Fr × LL := ([(0, aD (.slice tC) a0), (1, .one (.slc 19)), (5, aB v.1)], [(19, .seq tI v.2), (1000, .seq tI c0)])
def ref_choices_i2_b922 (a0 : (List ((List Int) × (List Int)))) (x2728 : (Bool × (List Int))) : Option (Flow (Bool × (List Int)) (Esc Int (List Int))) :=
bif x2728.1 then
((forL ref_choices_i2_b918 (fun x7268 => (.brk (x7268.1, x7268.2))) a0 0 (false, x2728.2)).bind fun v8172 =>
match v8172 with
| .ret v8177 =>
(some (.done (.ret v8177)))
| .brk v8178 =>
(some (.next (v8178.1, v8178.2))))
else
(some (.done (.brk x2728.2)))
@[reducible] def ref_choices_i2_s923 (a0 : (List ((List Int) × (List Int)))) (c0 : (List Int)) (v : (Bool × (List Int))) : Fr × LL := ([(0, aD (.slice tC) a0), (1, .one (.slc 19)), (5, aB v.1)], [(19, .seq tI v.2), (1000, .seq tI c0)])
@[reducible] def ref_choices_i2_s924 (c0 : (List Int)) (v : Int) : Fr × LL := ([(4, aI v)], [(1000, .seq tI c0)])
@[reducible] def ref_choices_i2_s925 (a0 : (List ((List Int) × (List Int)))) (c0 : (List Int)) (v : (List Int)) : Fr × LL := ([(0, aD (.slice tC) a0), (1, .one (.slc 19))], [(19, .seq tI v), (1000, .seq tI c0)])
def ref_choices_i2_b926 (a0 : (List ((List Int) × (List Int)))) (v8184 : (List Int)) (rf_ref_choices_i2 : (List ((List Int) × (List Int))) → (List Int) → Option Int) (rf_ref_choices : (List ((List Int) × (List Int))) → (List Int) → Option Int) (i8211 : Int) (v8214 : Int) (x8212 : Unit) : Option (Flow Unit (Esc Int Unit)) :=
bif decide (v8214 ≥ (0 : Int)) then
(some (.next ()))
else
((rf_ref_choices_i2 a0 (List.set v8184 (Int.toNat i8211) (0 : Int))).bind fun r8218 =>
bif decide (r8218 > (1 : Int)) then
(some (.done (.ret (2 : Int))))
else
((idx (List.set v8184 (Int.toNat i8211) (0 : Int)) i8211).bind fun v8221 =>
(rf_ref_choices a0 (List.set (List.set v8184 (Int.toNat i8211) (0 : Int)) (Int.toNat i8211) (1 : Int))).bind fun r8223 =>
bif decide ((w64 (r8218 + r8223)) > (2 : Int)) then
(some (.done (.ret (2 : Int))))
else
(some (.done (.ret (w64 (r8218 + r8223)))))))
@[reducible] def ref_choices_i2_s927 (a0 : (List ((List Int) × (List Int)))) (c0 : (List Int)) (v8184 : (List Int)) (v : Int × Unit) : Fr × LL := ([(0, aD (.slice tC) a0), (1, .one (.slc 19)), (16, aI v.1)], [(19, .seq tI v8184), (1000, .seq tI c0)])
@[reducible] def ref_choices_i2_s928 (c0 : (List Int)) (v : Int) : Fr × LL := ([(4, aI v)], [(1000, .seq tI c0)])
@[reducible] def ref_choices_i2_s929 (c0 : (List Int)) (v : Unit) : Fr × LL := ([], [(1000, .seq tI c0)])
def ref_choices_i2_step (rf_ref_choices : (List ((List Int) × (List Int))) → (List Int) → Option Int) (rf_ref_choices_i2 : (List ((List Int) × (List Int))) → (List Int) → Option Int) (fuel : Nat) (a0 : (List ((List Int) × (List Int)))) (c0 : (List Int)) : Option Int :=
(ck ((0 : Int) + (List.length c0 : Int) ≤ 4294967296)).bind fun _ =>
(iter (ref_choices_i2_b922 a0) fuel (true, [] ++ c0)).bind fun v8179 =>
match v8179 with
| .ret v8183 =>
(some v8183)
| .brk v8184 =>
((forL (ref_choices_i2_b926 a0 v8184 rf_ref_choices_i2 rf_ref_choices) (fun x8212 => (.brk ())) v8184 0 ()).bind fun v8227 =>
match v8227 with
| .ret v8232 =>
(some v8232)
| .brk v8233 =>
(some (1 : Int)))
def ref_choices_i2 (rf_ref_choices : (List ((List Int) × (List Int))) → (List Int) → Option Int) : Nat → (List ((List Int) × (List Int))) → (List Int) → Option Int
 | 0 => fun _ _ => none
 | fuel + 1 => fun a0 c0 => ref_choices_i2_step rf_ref_choices (ref_choices_i2 rf_ref_choices fuel) fuel a0 c0
theorem ref_choices_i2_step_ok {rf_ref_choices : (List ((List Int) × (List Int))) → (List Int) → Option Int} (ih_ref_choices : ∀ {a0 : (List ((List Int) × (List Int)))} {a1 : (List Int)} {r : Int}, rf_ref_choices a0 a1 = some r → FnC Try.prog 83 [aD (.slice tC) a0, aD (.slice tI) a1] [] (aI r) []) {rf_ref_choices_i2 : (List ((List Int) × (List Int))) → (List Int) → Option Int} (ih_ref_choices_i2 : ∀ {a0 : (List ((List Int) × (List Int)))} {c0 : (List Int)} {r : Int}, rf_ref_choices_i2 a0 c0 = some r → FnC Try.prog 83 [aD (.slice tC) a0, .one (.slc 1000)] [(1000, .seq tI c0)] (aI r) [(1000, .seq tI c0)]) {fuel : Nat} {a0 : (List ((List Int) × (List Int)))} {c0 : (List Int)} {r : Int} (h : ref_choices_i2_step rf_ref_choices rf_ref_choices_i2 fuel a0 c0 = some r) : FnC Try.prog 83 [aD (.slice tC) a0, .one (.slc 1000)] [(1000, .seq tI c0)] (aI r) [(1000, .seq tI c0)] := by
 refine fnC_of_W (B := bodyOf Try.f83) (n := 119) Try.func83 (by kernel_rfl) (by kernel_rfl) (by kernel_rfl) (by kernel_rfl) (by kernel_rfl) ?_
 intro K
 refine sr [(0, aD (.slice tC) a0), (1, .one (.slc 1000))] [(1000, .seq tI c0)] (by kernel_rfl) ?_
 refine W_seq (by kernel_rfl) ?_
 obtain ⟨_, h1, h⟩ := bind_of h
 replace h1 := ck_some h1
 refine W_run 4 [] [0, 1] [19, 1000] (fr' := [(0, aD (.slice tC) a0), (1, .one (.slc 19))]) (L' := [(19, .seq tI ([] ++ c0)), (1000, .seq tI c0)]) (obs := [SmallLen (List.length ([] : (List Int)) + List.length c0)]) (by kernel_rfl) (by kernel_rfl) (by kernel_rfl) (allP1 h1) ?_
 refine seqQ_norm ?_
 refine W_seq (by kernel_rfl) ?_
 refine srL [(0, aD (.slice tC) a0), (1, .one (.slc 19)), (5, aB true)] (by kernel_rfl) ?_
 refine W_block (id := 0) (by kernel_rfl) ?_
 obtain ⟨v8179, h8180, h⟩ := bind_of h
 refine W_weaken [0, 1, 5] [19, 1000] (fr' := ((ref_choices_i2_s923 a0 c0) (true, [] ++ c0)).1) (L' := ((ref_choices_i2_s923 a0 c0) (true, [] ++ c0)).2) (by kernel_rfl) ?_
 refine W_cutK (W_loop (S := (ref_choices_i2_s923 a0 c0)) (J := (escQ (exQ .ret (ref_choices_i2_s924 c0)) (exQ (.exit 0) (ref_choices_i2_s925 a0 c0)))) (by kernel_rfl) ?_ fuel _ v8179 h8180) ?_
 ·rintro x2728 s h
  refine W_seq (by kernel_rfl) ?_
  refine sr [(0, aD (.slice tC) a0), (1, .one (.slc 19)), (22, aB x2728.1)] [(19, .seq tI x2728.2), (1000, .seq tI c0)] (by kernel_rfl) ?_
  refine W_cond (o := .tmp 22) (b := x2728.1) (by kernel_rfl) (by kernel_rfl) (fun h5454 => ?_) (fun h5454 => ?_)
  ·replace h := ofT h5454 h
   refine wkL [(0, aD (.slice tC) a0), (1, .one (.slc 19))] (by kernel_rfl) ?_
   refine seqQ_norm ?_
   refine W_block (id := 1) (by kernel_rfl) ?_
   refine srL [(0, aD (.slice tC) a0), (1, .one (.slc 19)), (5, aB false)] (by kernel_rfl) ?_
   refine srL [(0, aD (.slice tC) a0), (1, .one (.slc 19)), (5, aB false), (23, aD (.slice tC) a0), (24, aI (List.length a0 : Int)), (25, aI (0 : Int))] (by kernel_rfl) ?_
   refine W_block (id := 2) (by kernel_rfl) ?_
   obtain ⟨v8172, h8173, h⟩ := bind_of h
   refine W_len (t := 23) (u := tC) (xs := a0) (by kernel_rfl) (fun h8176 => ?_)
   obtain ⟨h8174, h8175⟩ := forL_iter h8176 h8173
   refine W_weaken [0, 1, 5, 23, 24, 25] [19, 1000] (fr' := ((ref_choices_i2_s919 a0 c0) ((0 : Int), (false, x2728.2))).1) (L' := ((ref_choices_i2_s919 a0 c0) ((0 : Int), (false, x2728.2))).2) (by kernel_rfl) ?_
   refine W_cutK (W_loop (S := (ref_choices_i2_s919 a0 c0)) (J := (escQ (exQ .ret (ref_choices_i2_s920 c0)) (exQ (.exit 2) (ref_choices_i2_s921 a0 c0)))) (by kernel_rfl) ?_ h8174 _ v8172 h8175) ?_
   ·rintro ⟨i7267, x7268⟩ s h
    refine sr [(0, aD (.slice tC) a0), (1, .one (.slc 19)), (5, aB x7268.1), (23, aD (.slice tC) a0), (24, aI (List.length a0 : Int)), (25, aI i7267), (26, aB (decide (i7267 < (List.length a0 : Int))))] [(19, .seq tI x7268.2), (1000, .seq tI c0)] (by kernel_rfl) ?_
    refine W_seq (by kernel_rfl) ?_
    refine W_cond (o := .tmp 26) (b := decide (i7267 < (List.length a0 : Int))) (by kernel_rfl) (by kernel_rfl) (fun h7272 => ?_) (fun h7272 => ?_)
    ·replace h := stepL_true h7272 h
     obtain ⟨v7270, _, h7271, h, rfl⟩ := h
     refine wkL [(0, aD (.slice tC) a0), (1, .one (.slc 19)), (5, aB x7268.1), (23, aD (.slice tC) a0), (24, aI (List.length a0 : Int)), (25, aI i7267)] (by kernel_rfl) ?_
     refine seqQ_norm ?_
     refine W_seq (by kernel_rfl) ?_
     obtain ⟨v8167, h8168, h⟩ := bind_of h
     refine W_cutK (Q' := (escQ (exQ .ret (ref_choices_i2_s916 c0)) (exQ .normal (ref_choices_i2_s917 a0 c0 i7267))) v8167) ?_ ?_
     ·replace h := h8168
      refine W_block (id := 3) (by kernel_rfl) ?_
      refine sro [(1, .val (.dat tC v7270)), (5, .typed)] [(0, aD (.slice tC) a0), (1, .one (.slc 19)), (5, aB x7268.1), (7, .one (.ptr 7 0)), (23, aD (.slice tC) a0), (24, aI (List.length a0 : Int)), (25, aI i7267)] [(19, .seq tI x7268.2), (7, .one tC v7270), (1000, .seq tI c0)] [Idx a0 i7267 v7270, True] (by kernel_rfl) (allP2 (Idx.of h7271) (allP1 trivial)) ?_
      refine srL [(0, aD (.slice tC) a0), (1, .one (.slc 19)), (5, aB x7268.1), (7, .one (.ptr 7 0)), (8, aI (-1 : Int)), (23, aD (.slice tC) a0), (24, aI (List.length a0 : Int)), (25, aI i7267)] (by kernel_rfl) ?_
      refine srL [(0, aD (.slice tC) a0), (1, .one (.slc 19)), (5, aB x7268.1), (7, .one (.ptr 7 0)), (8, aI (-1 : Int)), (9, aI (0 : Int)), (23, aD (.slice tC) a0), (24, aI (List.length a0 : Int)), (25, aI i7267)] (by kernel_rfl) ?_
      refine srL [(0, aD (.slice tC) a0), (1, .one (.slc 19)), (5, aB x7268.1), (7, .one (.ptr 7 0)), (8, aI (-1 : Int)), (9, aI (0 : Int)), (10, aI (0 : Int)), (23, aD (.slice tC) a0), (24, aI (List.length a0 : Int)), (25, aI i7267)] (by kernel_rfl) ?_
      refine srL [(0, aD (.slice tC) a0), (1, .one (.slc 19)), (5, aB x7268.1), (7, .one (.ptr 7 0)), (8, aI (-1 : Int)), (9, aI (0 : Int)), (10, aI (0 : Int)), (11, aB false), (23, aD (.slice tC) a0), (24, aI (List.length a0 : Int)), (25, aI i7267)] (by kernel_rfl) ?_
      refine W_seq (by kernel_rfl) ?_
      refine srL [(0, aD (.slice tC) a0), (1, .one (.slc 19)), (5, aB x7268.1), (7, .one (.ptr 7 0)), (8, aI (-1 : Int)), (9, aI (0 : Int)), (10, aI (0 : Int)), (11, aB false), (23, aD (.slice tC) a0), (24, aI (List.length a0 : Int)), (25, aI i7267), (30, aD (.slice tI) v7270.1), (31, aI (List.length v7270.1 : Int)), (32, aI (0 : Int))] (by kernel_rfl) ?_
      refine W_block (id := 4) (by kernel_rfl) ?_
      obtain ⟨v7997, h7998, h⟩ := bind_of h
      refine W_len (t := 30) (u := tI) (xs := v7270.1) (by kernel_rfl) (fun h8001 => ?_)
      obtain ⟨h7999, h8000⟩ := forL_iter h8001 h7998
      refine W_weaken [0, 1, 5, 7, 8, 9, 10, 11, 23, 24, 25, 30, 31, 32] [19, 7, 1000] (fr' := ((ref_choices_i2_s895 a0 c0 i7267 x7268 v7270) ((0 : Int), ((-1 : Int), (0 : Int), (0 : Int), false))).1) (L' := ((ref_choices_i2_s895 a0 c0 i7267 x7268 v7270) ((0 : Int), ((-1 : Int), (0 : Int), (0 : Int), false))).2) (by kernel_rfl) ?_
      refine W_cutK (W_loop (S := (ref_choices_i2_s895 a0 c0 i7267 x7268 v7270)) (J := (exQ (.exit 4) (ref_choices_i2_s896 a0 c0 i7267 x7268 v7270))) (by kernel_rfl) ?_ h7999 _ v7997 h8000) ?_
      ·rintro ⟨i7946, x7947⟩ s h
       refine sr [(0, aD (.slice tC) a0), (1, .one (.slc 19)), (5, aB x7268.1), (7, .one (.ptr 7 0)), (8, aI x7947.1), (9, aI x7947.2.1), (10, aI x7947.2.2.1), (11, aB x7947.2.2.2), (23, aD (.slice tC) a0), (24, aI (List.length a0 : Int)), (25, aI i7267), (30, aD (.slice tI) v7270.1), (31, aI (List.length v7270.1 : Int)), (32, aI i7946), (33, aB (decide (i7946 < (List.length v7270.1 : Int))))] [(19, .seq tI x7268.2), (7, .one tC v7270), (1000, .seq tI c0)] (by kernel_rfl) ?_
       refine W_seq (by kernel_rfl) ?_
       refine W_cond (o := .tmp 33) (b := decide (i7946 < (List.length v7270.1 : Int))) (by kernel_rfl) (by kernel_rfl) (fun h7951 => ?_) (fun h7951 => ?_)
       ·replace h := stepL_true h7951 h
        obtain ⟨v7949, _, h7950, h, rfl⟩ := h
        refine wkL [(0, aD (.slice tC) a0), (1, .one (.slc 19)), (5, aB x7268.1), (7, .one (.ptr 7 0)), (8, aI x7947.1), (9, aI x7947.2.1), (10, aI x7947.2.2.1), (11, aB x7947.2.2.2), (23, aD (.slice tC) a0), (24, aI (List.length a0 : Int)), (25, aI i7267), (30, aD (.slice tI) v7270.1), (31, aI (List.length v7270.1 : Int)), (32, aI i7946)] (by kernel_rfl) ?_
        refine seqQ_norm ?_
        refine W_seq (by kernel_rfl) ?_
        obtain ⟨v7994, h7995, h⟩ := bind_of h
        refine W_cutK (Q' := (exQ .normal (ref_choices_i2_s893 a0 c0 i7267 x7268 v7270 i7946)) v7994) ?_ ?_
        ·replace h := h7995
         refine W_block (id := 5) (by kernel_rfl) ?_
         refine sro [(1, .val (.dat tI v7949))] [(0, aD (.slice tC) a0), (1, .one (.slc 19)), (5, aB x7268.1), (7, .one (.ptr 7 0)), (8, aI x7947.1), (9, aI x7947.2.1), (10, aI x7947.2.2.1), (11, aB x7947.2.2.2), (13, aI v7949), (23, aD (.slice tC) a0), (24, aI (List.length a0 : Int)), (25, aI i7267), (30, aD (.slice tI) v7270.1), (31, aI (List.length v7270.1 : Int)), (32, aI i7946)] [(19, .seq tI x7268.2), (7, .one tC v7270), (1000, .seq tI c0)] [Idx v7270.1 i7946 v7949] (by kernel_rfl) (allP1 (Idx.of h7950)) ?_
         refine W_seq (by kernel_rfl) ?_
         obtain ⟨v7989, h7990, h⟩ := bind_of h
         refine W_cutK (Q' := (exQ .normal (ref_choices_i2_s891 a0 c0 i7267 x7268 v7270 i7946 x7947 v7949)) v7989) ?_ ?_
         ·replace h := h7990
          refine W_region (by kernel_rfl) ?_
          refine wo 2 [(0, aD (.slice tC) a0), (1, .one (.slc 19)), (5, aB x7268.1), (7, .one (.ptr 7 0)), (8, aI x7947.1), (9, aI x7947.2.1), (10, aI x7947.2.2.1), (11, aB x7947.2.2.2), (13, aI v7949), (23, aD (.slice tC) a0), (24, aI (List.length a0 : Int)), (25, aI i7267), (30, aD (.slice tI) v7270.1), (31, aI (List.length v7270.1 : Int)), (32, aI i7946), (37, aB x7947.2.2.2)] [(7, .one tC v7270), (19, .seq tI x7268.2), (1000, .seq tI c0)] (by kernel_rfl) ?_
          rcases Bool.eq_false_or_eq_true (x7947.2.2.2) with h7986 | h7986
          ·replace h := ofT h7986 h
           refine woo 9 [(4, .known true), (6, .known true), (8, .known true), (10, .known true), (12, .known true), (15, .val (.dat .bool true))] [(0, aD (.slice tC) a0), (1, .one (.slc 19)), (5, aB x7268.1), (7, .one (.ptr 7 0)), (8, aI x7947.1), (9, aI x7947.2.1), (10, aI x7947.2.2.1), (11, aB true), (13, aI v7949), (23, aD (.slice tC) a0), (24, aI (List.length a0 : Int)), (25, aI i7267), (30, aD (.slice tI) v7270.1), (31, aI (List.length v7270.1 : Int)), (32, aI i7946)] [(7, .one tC v7270), (19, .seq tI x7268.2), (1000, .seq tI c0)] [(x7947.2.2.2 = true), (x7947.2.2.2 = true), (x7947.2.2.2 = true), (x7947.2.2.2 = true), (x7947.2.2.2 = true), (x7947.2.2.2 = true)] (by kernel_rfl) (allP2 h7986 (allP2 h7986 (allP2 h7986 (allP2 h7986 (allP2 h7986 (allP1 h7986)))))) ?_
           obtain rfl := Option.some.inj h
           refine wf [(0, aD (.slice tC) a0), (1, .one (.slc 19)), (5, aB x7268.1), (7, .one (.ptr 7 0)), (8, aI x7947.1), (9, aI x7947.2.1), (10, aI x7947.2.2.1), (11, aB true), (13, aI v7949), (23, aD (.slice tC) a0), (24, aI (List.length a0 : Int)), (25, aI i7267), (30, aD (.slice tI) v7270.1), (31, aI (List.length v7270.1 : Int)), (32, aI i7946)] [(19, .seq tI x7268.2), (7, .one tC v7270), (1000, .seq tI c0)] (by kernel_rfl) ?_
           exact exM (by kernel_rfl)
          ·replace h := ofF h7986 h
           obtain ⟨v7987, h7988, h⟩ := bind_of h
           refine woo 9 [(4, .known false), (6, .known false), (8, .known false), (10, .known false), (11, .val (.dat tI v7987)), (12, .known false), (15, .val (.dat .bool false))] [(0, aD (.slice tC) a0), (1, .one (.slc 19)), (5, aB x7268.1), (7, .one (.ptr 7 0)), (8, aI x7947.1), (9, aI x7947.2.1), (10, aI x7947.2.2.1), (11, aB (v7987 == (1 : Int))), (13, aI v7949), (23, aD (.slice tC) a0), (24, aI (List.length a0 : Int)), (25, aI i7267), (30, aD (.slice tI) v7270.1), (31, aI (List.length v7270.1 : Int)), (32, aI i7946)] [(7, .one tC v7270), (19, .seq tI x7268.2), (1000, .seq tI c0)] [(x7947.2.2.2 = false), (x7947.2.2.2 = false), (x7947.2.2.2 = false), InR v7949 (List.length x7268.2), (x7947.2.2.2 = false), Idx x7268.2 v7949 v7987, (x7947.2.2.2 = false), (x7947.2.2.2 = false)] (by kernel_rfl) (allP2 h7986 (allP2 h7986 (allP2 h7986 (allP2 (InR.of h7988) (allP2 h7986 (allP2 (Idx.of h7988) (allP2 h7986 (allP1 h7986)))))))) ?_
           obtain rfl := Option.some.inj h
           refine wf [(0, aD (.slice tC) a0), (1, .one (.slc 19)), (5, aB x7268.1), (7, .one (.ptr 7 0)), (8, aI x7947.1), (9, aI x7947.2.1), (10, aI x7947.2.2.1), (11, aB (v7987 == (1 : Int))), (13, aI v7949), (23, aD (.slice tC) a0), (24, aI (List.length a0 : Int)), (25, aI i7267), (30, aD (.slice tI) v7270.1), (31, aI (List.length v7270.1 : Int)), (32, aI i7946)] [(19, .seq tI x7268.2), (7, .one tC v7270), (1000, .seq tI c0)] (by kernel_rfl) ?_
           exact exM (by kernel_rfl)
         ·intro e fr L hJ
          obtain ⟨rfl, rfl, rfl⟩ := hJ
          refine ltk [(0, aD (.slice tC) a0), (1, .one (.slc 19)), (5, aB x7268.1), (7, .one (.ptr 7 0)), (8, aI x7947.1), (9, aI x7947.2.1), (10, aI x7947.2.2.1), (11, aB v7989), (13, aI v7949), (23, aD (.slice tC) a0), (24, aI (List.length a0 : Int)), (25, aI i7267), (30, aD (.slice tI) v7270.1), (31, aI (List.length v7270.1 : Int)), (32, aI i7946)] [(19, .seq tI x7268.2), (7, .one tC v7270), (1000, .seq tI c0)] (by kernel_rfl) ?_
          refine seqQ_norm ?_
          refine W_seq (by kernel_rfl) ?_
          obtain ⟨v7991, h7992, h⟩ := bind_of h
          refine W_run 5 [(7, .val (.dat tI v7991))] [0, 1, 5, 7, 8, 9, 10, 11, 13, 23, 24, 25, 30, 31, 32, 48] [19, 7, 1000] (fr' := [(0, aD (.slice tC) a0), (1, .one (.slc 19)), (5, aB x7268.1), (7, .one (.ptr 7 0)), (8, aI x7947.1), (9, aI x7947.2.1), (10, aI x7947.2.2.1), (11, aB v7989), (13, aI v7949), (23, aD (.slice tC) a0), (24, aI (List.length a0 : Int)), (25, aI i7267), (30, aD (.slice tI) v7270.1), (31, aI (List.length v7270.1 : Int)), (32, aI i7946), (48, aB (decide (v7991 < (0 : Int))))]) (L' := [(19, .seq tI x7268.2), (7, .one tC v7270), (1000, .seq tI c0)]) (obs := [InR v7949 (List.length x7268.2), Idx x7268.2 v7949 v7991]) (by kernel_rfl) (by kernel_rfl) (by kernel_rfl) (allP2 (InR.of h7992) (allP1 (Idx.of h7992))) ?_
          refine seqQ_norm ?_
          refine W_cond (o := .tmp 48) (b := decide (v7991 < (0 : Int))) (by kernel_rfl) (by kernel_rfl) (fun h7993 => ?_) (fun h7993 => ?_)
          ·replace h := ofT h7993 h
           refine srL [(0, aD (.slice tC) a0), (1, .one (.slc 19)), (5, aB x7268.1), (7, .one (.ptr 7 0)), (8, aI v7949), (10, aI x7947.2.2.1), (11, aB v7989), (23, aD (.slice tC) a0), (24, aI (List.length a0 : Int)), (25, aI i7267), (30, aD (.slice tI) v7270.1), (31, aI (List.length v7270.1 : Int)), (32, aI i7946)] (by kernel_rfl) ?_
           refine srL [(0, aD (.slice tC) a0), (1, .one (.slc 19)), (5, aB x7268.1), (7, .one (.ptr 7 0)), (8, aI v7949), (9, aI (1 : Int)), (10, aI x7947.2.2.1), (11, aB v7989), (23, aD (.slice tC) a0), (24, aI (List.length a0 : Int)), (25, aI i7267), (30, aD (.slice tI) v7270.1), (31, aI (List.length v7270.1 : Int)), (32, aI i7946)] (by kernel_rfl) ?_
           obtain rfl := Option.some.inj h
           refine swL [(0, aD (.slice tC) a0), (1, .one (.slc 19)), (5, aB x7268.1), (7, .one (.ptr 7 0)), (8, aI v7949), (9, aI (1 : Int)), (10, aI (w64 (x7947.2.2.1 + (1 : Int)))), (11, aB v7989), (23, aD (.slice tC) a0), (24, aI (List.length a0 : Int)), (25, aI i7267), (30, aD (.slice tI) v7270.1), (31, aI (List.length v7270.1 : Int)), (32, aI i7946)] (by kernel_rfl) ?_
           refine blockQ_norm ?_
           exact exM (by kernel_rfl)
          ·replace h := ofF h7993 h
           obtain rfl := Option.some.inj h
           refine wkL [(0, aD (.slice tC) a0), (1, .one (.slc 19)), (5, aB x7268.1), (7, .one (.ptr 7 0)), (8, aI x7947.1), (9, aI x7947.2.1), (10, aI x7947.2.2.1), (11, aB v7989), (23, aD (.slice tC) a0), (24, aI (List.length a0 : Int)), (25, aI i7267), (30, aD (.slice tI) v7270.1), (31, aI (List.length v7270.1 : Int)), (32, aI i7946)] (by kernel_rfl) ?_
           refine blockQ_norm ?_
           exact exM (by kernel_rfl)
        ·intro e fr L hJ
         obtain ⟨rfl, rfl, rfl⟩ := hJ
         refine ltk [(0, aD (.slice tC) a0), (1, .one (.slc 19)), (5, aB x7268.1), (7, .one (.ptr 7 0)), (8, aI v7994.1), (9, aI v7994.2.1), (10, aI v7994.2.2.1), (11, aB v7994.2.2.2), (23, aD (.slice tC) a0), (24, aI (List.length a0 : Int)), (25, aI i7267), (30, aD (.slice tI) v7270.1), (31, aI (List.length v7270.1 : Int)), (32, aI i7946)] [(19, .seq tI x7268.2), (7, .one tC v7270), (1000, .seq tI c0)] (by kernel_rfl) ?_
         refine seqQ_norm ?_
         obtain rfl := Option.some.inj h
         refine swL [(0, aD (.slice tC) a0), (1, .one (.slc 19)), (5, aB x7268.1), (7, .one (.ptr 7 0)), (8, aI v7994.1), (9, aI v7994.2.1), (10, aI v7994.2.2.1), (11, aB v7994.2.2.2), (23, aD (.slice tC) a0), (24, aI (List.length a0 : Int)), (25, aI i7267), (30, aD (.slice tI) v7270.1), (31, aI (List.length v7270.1 : Int)), (32, aI (w64 (i7946 + (1 : Int))))] (by kernel_rfl) ?_
         exact round_next' (by kernel_rfl) (by kernel_rfl)
       ·obtain rfl := stepL_false h7951 h
        refine wxL 4 [(0, aD (.slice tC) a0), (1, .one (.slc 19)), (5, aB x7268.1), (7, .one (.ptr 7 0)), (8, aI x7947.1), (9, aI x7947.2.1), (10, aI x7947.2.2.1), (11, aB x7947.2.2.2), (23, aD (.slice tC) a0), (24, aI (List.length a0 : Int)), (25, aI i7267)] (by kernel_rfl) ?_
        refine seqQ_exit ?_
        refine round_exit ?_
        exact exM (by kernel_rfl)
      ·intro e fr L hJ
       obtain ⟨rfl, rfl, rfl⟩ := hJ
       refine ltk [(0, aD (.slice tC) a0), (1, .one (.slc 19)), (5, aB x7268.1), (7, .one (.ptr 7 0)), (8, aI v7997.1), (9, aI v7997.2.1), (10, aI v7997.2.2.1), (11, aB v7997.2.2.2), (23, aD (.slice tC) a0), (24, aI (List.length a0 : Int)), (25, aI i7267)] [(19, .seq tI x7268.2), (7, .one tC v7270), (1000, .seq tI c0)] (by kernel_rfl) ?_
       refine blockQ_hit ?_
       refine seqQ_norm ?_
       refine W_seq (by kernel_rfl) ?_
       refine sr [(0, aD (.slice tC) a0), (1, .one (.slc 19)), (5, aB x7268.1), (8, aI v7997.1), (9, aI v7997.2.1), (10, aI v7997.2.2.1), (11, aB v7997.2.2.2), (23, aD (.slice tC) a0), (24, aI (List.length a0 : Int)), (25, aI i7267), (54, aD (.slice tI) v7270.2), (55, aI (List.length v7270.2 : Int)), (56, aI (0 : Int))] [(19, .seq tI x7268.2), (1000, .seq tI c0)] (by kernel_rfl) ?_
       refine W_block (id := 6) (by kernel_rfl) ?_
       obtain ⟨v8157, h8158, h⟩ := bind_of h
       refine W_len (t := 54) (u := tI) (xs := v7270.2) (by kernel_rfl) (fun h8161 => ?_)
       obtain ⟨h8159, h8160⟩ := forL_iter h8161 h8158
       refine W_weaken [0, 1, 5, 8, 9, 10, 11, 23, 24, 25, 54, 55, 56] [19, 1000] (fr' := ((ref_choices_i2_s913 a0 c0 i7267 x7268 v7270) ((0 : Int), (v7997.1, v7997.2.1, v7997.2.2.1, v7997.2.2.2))).1) (L' := ((ref_choices_i2_s913 a0 c0 i7267 x7268 v7270) ((0 : Int), (v7997.1, v7997.2.1, v7997.2.2.1, v7997.2.2.2))).2) (by kernel_rfl) ?_
       refine W_cutK (W_loop (S := (ref_choices_i2_s913 a0 c0 i7267 x7268 v7270)) (J := (exQ (.exit 6) (ref_choices_i2_s914 a0 c0 i7267 x7268))) (by kernel_rfl) ?_ h8159 _ v8157 h8160) ?_
       ·rintro ⟨i8106, x8107⟩ s h
        refine sr [(0, aD (.slice tC) a0), (1, .one (.slc 19)), (5, aB x7268.1), (8, aI x8107.1), (9, aI x8107.2.1), (10, aI x8107.2.2.1), (11, aB x8107.2.2.2), (23, aD (.slice tC) a0), (24, aI (List.length a0 : Int)), (25, aI i7267), (54, aD (.slice tI) v7270.2), (55, aI (List.length v7270.2 : Int)), (56, aI i8106), (57, aB (decide (i8106 < (List.length v7270.2 : Int))))] [(19, .seq tI x7268.2), (1000, .seq tI c0)] (by kernel_rfl) ?_
        refine W_seq (by kernel_rfl) ?_
        refine W_cond (o := .tmp 57) (b := decide (i8106 < (List.length v7270.2 : Int))) (by kernel_rfl) (by kernel_rfl) (fun h8111 => ?_) (fun h8111 => ?_)
        ·replace h := stepL_true h8111 h
         obtain ⟨v8109, _, h8110, h, rfl⟩ := h
         refine wkL [(0, aD (.slice tC) a0), (1, .one (.slc 19)), (5, aB x7268.1), (8, aI x8107.1), (9, aI x8107.2.1), (10, aI x8107.2.2.1), (11, aB x8107.2.2.2), (23, aD (.slice tC) a0), (24, aI (List.length a0 : Int)), (25, aI i7267), (54, aD (.slice tI) v7270.2), (55, aI (List.length v7270.2 : Int)), (56, aI i8106)] (by kernel_rfl) ?_
         refine seqQ_norm ?_
         refine W_seq (by kernel_rfl) ?_
         obtain ⟨v8154, h8155, h⟩ := bind_of h
         refine W_cutK (Q' := (exQ .normal (ref_choices_i2_s911 a0 c0 i7267 x7268 v7270 i8106)) v8154) ?_ ?_
         ·replace h := h8155
          refine W_block (id := 7) (by kernel_rfl) ?_
          refine sro [(1, .val (.dat tI v8109))] [(0, aD (.slice tC) a0), (1, .one (.slc 19)), (5, aB x7268.1), (8, aI x8107.1), (9, aI x8107.2.1), (10, aI x8107.2.2.1), (11, aB x8107.2.2.2), (15, aI v8109), (23, aD (.slice tC) a0), (24, aI (List.length a0 : Int)), (25, aI i7267), (54, aD (.slice tI) v7270.2), (55, aI (List.length v7270.2 : Int)), (56, aI i8106)] [(19, .seq tI x7268.2), (1000, .seq tI c0)] [Idx v7270.2 i8106 v8109] (by kernel_rfl) (allP1 (Idx.of h8110)) ?_
          refine W_seq (by kernel_rfl) ?_
          obtain ⟨v8149, h8150, h⟩ := bind_of h
          refine W_cutK (Q' := (exQ .normal (ref_choices_i2_s909 a0 c0 i7267 x7268 v7270 i8106 x8107 v8109)) v8149) ?_ ?_
          ·replace h := h8150
           refine W_region (by kernel_rfl) ?_
           refine wo 2 [(0, aD (.slice tC) a0), (1, .one (.slc 19)), (5, aB x7268.1), (8, aI x8107.1), (9, aI x8107.2.1), (10, aI x8107.2.2.1), (11, aB x8107.2.2.2), (15, aI v8109), (23, aD (.slice tC) a0), (24, aI (List.length a0 : Int)), (25, aI i7267), (54, aD (.slice tI) v7270.2), (55, aI (List.length v7270.2 : Int)), (56, aI i8106), (61, aB x8107.2.2.2)] [(19, .seq tI x7268.2), (1000, .seq tI c0)] (by kernel_rfl) ?_
           rcases Bool.eq_false_or_eq_true (x8107.2.2.2) with h8146 | h8146
           ·replace h := ofT h8146 h
            refine woo 9 [(4, .known true), (6, .known true), (8, .known true), (10, .known true), (12, .known true), (15, .val (.dat .bool true))] [(0, aD (.slice tC) a0), (1, .one (.slc 19)), (5, aB x7268.1), (8, aI x8107.1), (9, aI x8107.2.1), (10, aI x8107.2.2.1), (11, aB true), (15, aI v8109), (23, aD (.slice tC) a0), (24, aI (List.length a0 : Int)), (25, aI i7267), (54, aD (.slice tI) v7270.2), (55, aI (List.length v7270.2 : Int)), (56, aI i8106)] [(19, .seq tI x7268.2), (1000, .seq tI c0)] [(x8107.2.2.2 = true), (x8107.2.2.2 = true), (x8107.2.2.2 = true), (x8107.2.2.2 = true), (x8107.2.2.2 = true), (x8107.2.2.2 = true)] (by kernel_rfl) (allP2 h8146 (allP2 h8146 (allP2 h8146 (allP2 h8146 (allP2 h8146 (allP1 h8146)))))) ?_
            obtain rfl := Option.some.inj h
            refine wfL [(0, aD (.slice tC) a0), (1, .one (.slc 19)), (5, aB x7268.1), (8, aI x8107.1), (9, aI x8107.2.1), (10, aI x8107.2.2.1), (11, aB true), (15, aI v8109), (23, aD (.slice tC) a0), (24, aI (List.length a0 : Int)), (25, aI i7267), (54, aD (.slice tI) v7270.2), (55, aI (List.length v7270.2 : Int)), (56, aI i8106)] (by kernel_rfl) ?_
            exact exM (by kernel_rfl)
           ·replace h := ofF h8146 h
            obtain ⟨v8147, h8148, h⟩ := bind_of h
            refine woo 9 [(4, .known false), (6, .known false), (8, .known false), (10, .known false), (11, .val (.dat tI v8147)), (12, .known false), (15, .val (.dat .bool false))] [(0, aD (.slice tC) a0), (1, .one (.slc 19)), (5, aB x7268.1), (8, aI x8107.1), (9, aI x8107.2.1), (10, aI x8107.2.2.1), (11, aB (v8147 == (0 : Int))), (15, aI v8109), (23, aD (.slice tC) a0), (24, aI (List.length a0 : Int)), (25, aI i7267), (54, aD (.slice tI) v7270.2), (55, aI (List.length v7270.2 : Int)), (56, aI i8106)] [(19, .seq tI x7268.2), (1000, .seq tI c0)] [(x8107.2.2.2 = false), (x8107.2.2.2 = false), (x8107.2.2.2 = false), InR v8109 (List.length x7268.2), (x8107.2.2.2 = false), Idx x7268.2 v8109 v8147, (x8107.2.2.2 = false), (x8107.2.2.2 = false)] (by kernel_rfl) (allP2 h8146 (allP2 h8146 (allP2 h8146 (allP2 (InR.of h8148) (allP2 h8146 (allP2 (Idx.of h8148) (allP2 h8146 (allP1 h8146)))))))) ?_
            obtain rfl := Option.some.inj h
            refine wfL [(0, aD (.slice tC) a0), (1, .one (.slc 19)), (5, aB x7268.1), (8, aI x8107.1), (9, aI x8107.2.1), (10, aI x8107.2.2.1), (11, aB (v8147 == (0 : Int))), (15, aI v8109), (23, aD (.slice tC) a0), (24, aI (List.length a0 : Int)), (25, aI i7267), (54, aD (.slice tI) v7270.2), (55, aI (List.length v7270.2 : Int)), (56, aI i8106)] (by kernel_rfl) ?_
            exact exM (by kernel_rfl)
          ·intro e fr L hJ
           obtain ⟨rfl, rfl, rfl⟩ := hJ
           refine ltk [(0, aD (.slice tC) a0), (1, .one (.slc 19)), (5, aB x7268.1), (8, aI x8107.1), (9, aI x8107.2.1), (10, aI x8107.2.2.1), (11, aB v8149), (15, aI v8109), (23, aD (.slice tC) a0), (24, aI (List.length a0 : Int)), (25, aI i7267), (54, aD (.slice tI) v7270.2), (55, aI (List.length v7270.2 : Int)), (56, aI i8106)] [(19, .seq tI x7268.2), (1000, .seq tI c0)] (by kernel_rfl) ?_
           refine seqQ_norm ?_
           refine W_seq (by kernel_rfl) ?_
           obtain ⟨v8151, h8152, h⟩ := bind_of h
           refine W_run 5 [(7, .val (.dat tI v8151))] [0, 1, 5, 8, 9, 10, 11, 15, 23, 24, 25, 54, 55, 56, 72] [19, 1000] (fr' := [(0, aD (.slice tC) a0), (1, .one (.slc 19)), (5, aB x7268.1), (8, aI x8107.1), (9, aI x8107.2.1), (10, aI x8107.2.2.1), (11, aB v8149), (15, aI v8109), (23, aD (.slice tC) a0), (24, aI (List.length a0 : Int)), (25, aI i7267), (54, aD (.slice tI) v7270.2), (55, aI (List.length v7270.2 : Int)), (56, aI i8106), (72, aB (decide (v8151 < (0 : Int))))]) (L' := [(19, .seq tI x7268.2), (1000, .seq tI c0)]) (obs := [InR v8109 (List.length x7268.2), Idx x7268.2 v8109 v8151]) (by kernel_rfl) (by kernel_rfl) (by kernel_rfl) (allP2 (InR.of h8152) (allP1 (Idx.of h8152))) ?_
           refine seqQ_norm ?_
           refine W_cond (o := .tmp 72) (b := decide (v8151 < (0 : Int))) (by kernel_rfl) (by kernel_rfl) (fun h8153 => ?_) (fun h8153 => ?_)
           ·replace h := ofT h8153 h
            refine srL [(0, aD (.slice tC) a0), (1, .one (.slc 19)), (5, aB x7268.1), (8, aI v8109), (10, aI x8107.2.2.1), (11, aB v8149), (23, aD (.slice tC) a0), (24, aI (List.length a0 : Int)), (25, aI i7267), (54, aD (.slice tI) v7270.2), (55, aI (List.length v7270.2 : Int)), (56, aI i8106)] (by kernel_rfl) ?_
            refine srL [(0, aD (.slice tC) a0), (1, .one (.slc 19)), (5, aB x7268.1), (8, aI v8109), (9, aI (0 : Int)), (10, aI x8107.2.2.1), (11, aB v8149), (23, aD (.slice tC) a0), (24, aI (List.length a0 : Int)), (25, aI i7267), (54, aD (.slice tI) v7270.2), (55, aI (List.length v7270.2 : Int)), (56, aI i8106)] (by kernel_rfl) ?_
            obtain rfl := Option.some.inj h
            refine swL [(0, aD (.slice tC) a0), (1, .one (.slc 19)), (5, aB x7268.1), (8, aI v8109), (9, aI (0 : Int)), (10, aI (w64 (x8107.2.2.1 + (1 : Int)))), (11, aB v8149), (23, aD (.slice tC) a0), (24, aI (List.length a0 : Int)), (25, aI i7267), (54, aD (.slice tI) v7270.2), (55, aI (List.length v7270.2 : Int)), (56, aI i8106)] (by kernel_rfl) ?_
            refine blockQ_norm ?_
            exact exM (by kernel_rfl)
           ·replace h := ofF h8153 h
            obtain rfl := Option.some.inj h
            refine wkL [(0, aD (.slice tC) a0), (1, .one (.slc 19)), (5, aB x7268.1), (8, aI x8107.1), (9, aI x8107.2.1), (10, aI x8107.2.2.1), (11, aB v8149), (23, aD (.slice tC) a0), (24, aI (List.length a0 : Int)), (25, aI i7267), (54, aD (.slice tI) v7270.2), (55, aI (List.length v7270.2 : Int)), (56, aI i8106)] (by kernel_rfl) ?_
            refine blockQ_norm ?_
            exact exM (by kernel_rfl)
         ·intro e fr L hJ
          obtain ⟨rfl, rfl, rfl⟩ := hJ
          refine ltk [(0, aD (.slice tC) a0), (1, .one (.slc 19)), (5, aB x7268.1), (8, aI v8154.1), (9, aI v8154.2.1), (10, aI v8154.2.2.1), (11, aB v8154.2.2.2), (23, aD (.slice tC) a0), (24, aI (List.length a0 : Int)), (25, aI i7267), (54, aD (.slice tI) v7270.2), (55, aI (List.length v7270.2 : Int)), (56, aI i8106)] [(19, .seq tI x7268.2), (1000, .seq tI c0)] (by kernel_rfl) ?_
          refine seqQ_norm ?_
          obtain rfl := Option.some.inj h
          refine swL [(0, aD (.slice tC) a0), (1, .one (.slc 19)), (5, aB x7268.1), (8, aI v8154.1), (9, aI v8154.2.1), (10, aI v8154.2.2.1), (11, aB v8154.2.2.2), (23, aD (.slice tC) a0), (24, aI (List.length a0 : Int)), (25, aI i7267), (54, aD (.slice tI) v7270.2), (55, aI (List.length v7270.2 : Int)), (56, aI (w64 (i8106 + (1 : Int))))] (by kernel_rfl) ?_
          exact round_next' (by kernel_rfl) (by kernel_rfl)
        ·obtain rfl := stepL_false h8111 h
         refine wxL 6 [(0, aD (.slice tC) a0), (1, .one (.slc 19)), (5, aB x7268.1), (8, aI x8107.1), (9, aI x8107.2.1), (10, aI x8107.2.2.1), (11, aB x8107.2.2.2), (23, aD (.slice tC) a0), (24, aI (List.length a0 : Int)), (25, aI i7267)] (by kernel_rfl) ?_
         refine seqQ_exit ?_
         refine round_exit ?_
         exact exM (by kernel_rfl)
       ·intro e fr L hJ
        obtain ⟨rfl, rfl, rfl⟩ := hJ
        refine ltk [(0, aD (.slice tC) a0), (1, .one (.slc 19)), (5, aB x7268.1), (8, aI v8157.1), (9, aI v8157.2.1), (10, aI v8157.2.2.1), (11, aB v8157.2.2.2), (23, aD (.slice tC) a0), (24, aI (List.length a0 : Int)), (25, aI i7267)] [(19, .seq tI x7268.2), (1000, .seq tI c0)] (by kernel_rfl) ?_
        refine blockQ_hit ?_
        refine seqQ_norm ?_
        refine W_seq (by kernel_rfl) ?_
        refine sr [(0, aD (.slice tC) a0), (1, .one (.slc 19)), (5, aB x7268.1), (8, aI v8157.1), (9, aI v8157.2.1), (10, aI v8157.2.2.1), (23, aD (.slice tC) a0), (24, aI (List.length a0 : Int)), (25, aI i7267), (77, aB v8157.2.2.2)] [(19, .seq tI x7268.2), (1000, .seq tI c0)] (by kernel_rfl) ?_
        refine W_cond (o := .tmp 77) (b := v8157.2.2.2) (by kernel_rfl) (by kernel_rfl) (fun h8162 => ?_) (fun h8162 => ?_)
        ·replace h := ofT h8162 h
         obtain rfl := Option.some.inj h
         refine wxL 3 [(0, aD (.slice tC) a0), (1, .one (.slc 19)), (5, aB x7268.1), (23, aD (.slice tC) a0), (24, aI (List.length a0 : Int)), (25, aI i7267)] (by kernel_rfl) ?_
         refine seqQ_exit ?_
         refine blockQ_hit ?_
         refine escQ_brk ?_
         exact exM (by kernel_rfl)
        ·replace h := ofF h8162 h
         refine wkL [(0, aD (.slice tC) a0), (1, .one (.slc 19)), (5, aB x7268.1), (8, aI v8157.1), (9, aI v8157.2.1), (10, aI v8157.2.2.1), (23, aD (.slice tC) a0), (24, aI (List.length a0 : Int)), (25, aI i7267)] (by kernel_rfl) ?_
         refine seqQ_norm ?_
         refine W_seq (by kernel_rfl) ?_
         refine srL [(0, aD (.slice tC) a0), (1, .one (.slc 19)), (5, aB x7268.1), (8, aI v8157.1), (9, aI v8157.2.1), (10, aI v8157.2.2.1), (23, aD (.slice tC) a0), (24, aI (List.length a0 : Int)), (25, aI i7267), (79, aB (v8157.2.2.1 == (0 : Int)))] (by kernel_rfl) ?_
         refine W_cond (o := .tmp 79) (b := v8157.2.2.1 == (0 : Int)) (by kernel_rfl) (by kernel_rfl) (fun h8163 => ?_) (fun h8163 => ?_)
         ·replace h := ofT h8163 h
          refine sr [(4, aI (0 : Int))] [(1000, .seq tI c0)] (by kernel_rfl) ?_
          obtain rfl := Option.some.inj h
          refine wtL [(4, aI (0 : Int))] (by kernel_rfl) ?_
          refine seqQ_ret ?_
          refine blockQ_ret ?_
          refine escQ_ret ?_
          exact exM (by kernel_rfl)
         ·replace h := ofF h8163 h
          refine wkL [(0, aD (.slice tC) a0), (1, .one (.slc 19)), (5, aB x7268.1), (8, aI v8157.1), (9, aI v8157.2.1), (10, aI v8157.2.2.1), (23, aD (.slice tC) a0), (24, aI (List.length a0 : Int)), (25, aI i7267)] (by kernel_rfl) ?_
          refine seqQ_norm ?_
          refine srL [(0, aD (.slice tC) a0), (1, .one (.slc 19)), (5, aB x7268.1), (8, aI v8157.1), (9, aI v8157.2.1), (23, aD (.slice tC) a0), (24, aI (List.length a0 : Int)), (25, aI i7267), (81, aB (v8157.2.2.1 == (1 : Int)))] (by kernel_rfl) ?_
          refine W_cond (o := .tmp 81) (b := v8157.2.2.1 == (1 : Int)) (by kernel_rfl) (by kernel_rfl) (fun h8164 => ?_) (fun h8164 => ?_)
          ·replace h := ofT h8164 h
           refine W_seq (by kernel_rfl) ?_
           obtain ⟨v8165, h8166, h⟩ := bind_of h
           refine W_run 5 [] [0, 1, 23, 24, 25] [19, 1000] (fr' := [(0, aD (.slice tC) a0), (1, .one (.slc 19)), (23, aD (.slice tC) a0), (24, aI (List.length a0 : Int)), (25, aI i7267)]) (L' := [(19, .seq tI (List.set x7268.2 (Int.toNat v8157.1) v8157.2.1)), (1000, .seq tI c0)]) (obs := [InR v8157.1 (List.length x7268.2), InR v8157.1 (List.length x7268.2)]) (by kernel_rfl) (by kernel_rfl) (by kernel_rfl) (allP2 (InR.of h8166) (allP1 (InR.of h8166))) ?_
           refine seqQ_norm ?_
           obtain rfl := Option.some.inj h
           refine swL [(0, aD (.slice tC) a0), (1, .one (.slc 19)), (5, aB true), (23, aD (.slice tC) a0), (24, aI (List.length a0 : Int)), (25, aI i7267)] (by kernel_rfl) ?_
           refine blockQ_norm ?_
           refine escQ_brk ?_
           exact exM (by kernel_rfl)
          ·replace h := ofF h8164 h
           obtain rfl := Option.some.inj h
           refine wkL [(0, aD (.slice tC) a0), (1, .one (.slc 19)), (5, aB x7268.1), (23, aD (.slice tC) a0), (24, aI (List.length a0 : Int)), (25, aI i7267)] (by kernel_rfl) ?_
           refine blockQ_norm ?_
           refine escQ_brk ?_
           exact exM (by kernel_rfl)
     ·intro e fr L hJ
      rcases v8167 with v8169 | v8170
      ·obtain ⟨rfl, rfl, rfl⟩ := hJ
       obtain rfl := Option.some.inj h
       refine ltk [(4, aI v8169)] [(1000, .seq tI c0)] (by kernel_rfl) ?_
       refine seqQ_ret ?_
       refine round_ret ?_
       refine escQ_ret ?_
       exact exM (by kernel_rfl)
      ·obtain ⟨rfl, rfl, rfl⟩ := hJ
       refine ltk [(0, aD (.slice tC) a0), (1, .one (.slc 19)), (5, aB v8170.1), (23, aD (.slice tC) a0), (24, aI (List.length a0 : Int)), (25, aI i7267)] [(19, .seq tI v8170.2), (1000, .seq tI c0)] (by kernel_rfl) ?_
       refine seqQ_norm ?_
       obtain rfl := Option.some.inj h
       refine swL [(0, aD (.slice tC) a0), (1, .one (.slc 19)), (5, aB v8170.1), (23, aD (.slice tC) a0), (24, aI (List.length a0 : Int)), (25, aI (w64 (i7267 + (1 : Int))))] (by kernel_rfl) ?_
       exact round_next' (by kernel_rfl) (by kernel_rfl)
    ·obtain rfl := stepL_false h7272 h
     refine wxL 2 [(0, aD (.slice tC) a0), (1, .one (.slc 19)), (5, aB x7268.1)] (by kernel_rfl) ?_
     refine seqQ_exit ?_
     refine round_exit ?_
     refine escQ_brk ?_
     exact exM (by kernel_rfl)
   ·intro e fr L hJ
    rcases v8172 with v8177 | v8178
    ·obtain ⟨rfl, rfl, rfl⟩ := hJ
     obtain rfl := Option.some.inj h
     refine ltk [(4, aI v8177)] [(1000, .seq tI c0)] (by kernel_rfl) ?_
     refine blockQ_ret ?_
     refine blockQ_ret ?_
     refine round_ret ?_
     refine escQ_ret ?_
     exact exM (by kernel_rfl)
    ·obtain ⟨rfl, rfl, rfl⟩ := hJ
     obtain rfl := Option.some.inj h
     refine ltk [(0, aD (.slice tC) a0), (1, .one (.slc 19)), (5, aB v8178.1)] [(19, .seq tI v8178.2), (1000, .seq tI c0)] (by kernel_rfl) ?_
     refine blockQ_hit ?_
     refine blockQ_norm ?_
     exact round_next' (by kernel_rfl) (by kernel_rfl)
  ·replace h := ofF h5454 h
   obtain rfl := Option.some.inj h
   refine wxL 0 [(0, aD (.slice tC) a0), (1, .one (.slc 19))] (by kernel_rfl) ?_
   refine seqQ_exit ?_
   refine round_exit ?_
   refine escQ_brk ?_
   exact exM (by kernel_rfl)
 ·intro e fr L hJ
  rcases v8179 with v8183 | v8184
  ·obtain ⟨rfl, rfl, rfl⟩ := hJ
   obtain rfl := Option.some.inj h
   refine ltk [(4, aI v8183)] [(1000, .seq tI c0)] (by kernel_rfl) ?_
   refine blockQ_ret ?_
   refine seqQ_ret ?_
   exact retM (by kernel_rfl)
  ·obtain ⟨rfl, rfl, rfl⟩ := hJ
   refine ltk [(0, aD (.slice tC) a0), (1, .one (.slc 19))] [(19, .seq tI v8184), (1000, .seq tI c0)] (by kernel_rfl) ?_
   refine blockQ_hit ?_
   refine seqQ_norm ?_
   refine W_seq (by kernel_rfl) ?_
   refine sr [(0, aD (.slice tC) a0), (1, .one (.slc 19)), (16, aI (0 : Int))] [(19, .seq tI v8184), (1000, .seq tI c0)] (by kernel_rfl) ?_
   refine W_block (id := 8) (by kernel_rfl) ?_
   obtain ⟨v8227, h8228, h⟩ := bind_of h
   refine W_lenS (s := 19) (u := tI) (xs := v8184) (by kernel_rfl) (fun h8231 => ?_)
   obtain ⟨h8229, h8230⟩ := forL_iter h8231 h8228
   refine W_weaken [0, 1, 16] [19, 1000] (fr' := ((ref_choices_i2_s927 a0 c0 v8184) ((0 : Int), ())).1) (L' := ((ref_choices_i2_s927 a0 c0 v8184) ((0 : Int), ())).2) (by kernel_rfl) ?_
   refine W_cutK (W_loop (S := (ref_choices_i2_s927 a0 c0 v8184)) (J := (escQ (exQ .ret (ref_choices_i2_s928 c0)) (exQ (.exit 8) (ref_choices_i2_s929 c0)))) (by kernel_rfl) ?_ h8229 _ v8227 h8230) ?_
   ·rintro ⟨i8211, x8212⟩ s h
    refine W_seq (by kernel_rfl) ?_
    refine sr [(0, aD (.slice tC) a0), (1, .one (.slc 19)), (16, aI i8211), (90, aB (decide (i8211 < (List.length v8184 : Int))))] [(19, .seq tI v8184), (1000, .seq tI c0)] (by kernel_rfl) ?_
    refine W_cond (o := .tmp 90) (b := decide (i8211 < (List.length v8184 : Int))) (by kernel_rfl) (by kernel_rfl) (fun h8216 => ?_) (fun h8216 => ?_)
    ·replace h := stepL_true h8216 h
     obtain ⟨v8214, _, h8215, h, rfl⟩ := h
     refine wkL [(0, aD (.slice tC) a0), (1, .one (.slc 19)), (16, aI i8211)] (by kernel_rfl) ?_
     refine seqQ_norm ?_
     refine W_seq (by kernel_rfl) ?_
     refine W_block (id := 9) (by kernel_rfl) ?_
     refine W_seq (by kernel_rfl) ?_
     refine sro [(7, .val (.dat tI v8214))] [(0, aD (.slice tC) a0), (1, .one (.slc 19)), (16, aI i8211), (97, aB (decide (v8214 ≥ (0 : Int))))] [(19, .seq tI v8184), (1000, .seq tI c0)] [InR i8211 (List.length v8184), Idx v8184 i8211 v8214] (by kernel_rfl) (allP2 (InR.of h8215) (allP1 (Idx.of h8215))) ?_
     refine W_cond (o := .tmp 97) (b := decide (v8214 ≥ (0 : Int))) (by kernel_rfl) (by kernel_rfl) (fun h8217 => ?_) (fun h8217 => ?_)
     ·replace h := ofT h8217 h
      refine wxL 9 [(0, aD (.slice tC) a0), (1, .one (.slc 19)), (16, aI i8211)] (by kernel_rfl) ?_
      refine seqQ_exit ?_
      refine blockQ_hit ?_
      refine seqQ_norm ?_
      obtain rfl := Option.some.inj h
      refine sw [(0, aD (.slice tC) a0), (1, .one (.slc 19)), (16, aI (w64 (i8211 + (1 : Int))))] [(19, .seq tI v8184), (1000, .seq tI c0)] (by kernel_rfl) ?_
      exact round_next' (by kernel_rfl) (by kernel_rfl)
     ·replace h := ofF h8217 h
      refine wkL [(0, aD (.slice tC) a0), (1, .one (.slc 19)), (16, aI i8211)] (by kernel_rfl) ?_
      refine seqQ_norm ?_
      refine sro [] [(0, aD (.slice tC) a0), (1, .one (.slc 19)), (16, aI i8211)] [(19, .seq tI (List.set v8184 (Int.toNat i8211) (0 : Int))), (1000, .seq tI c0)] [InR i8211 (List.length v8184), InR i8211 (List.length v8184)] (by kernel_rfl) (allP2 (InR.of h8215) (allP1 (InR.of h8215))) ?_
      refine W_seq (by kernel_rfl) ?_
      refine W_region (by kernel_rfl) ?_
      refine woL 2 [(0, aD (.slice tC) a0), (1, .one (.slc 19)), (16, aI i8211), (101, aD (.slice tC) a0), (102, .one (.slc 19))] (by kernel_rfl) ?_
      obtain ⟨r8218, h8219, h⟩ := bind_of h
      refine WO_lend [(1000, 19)] (us := [none, none]) (d := 103) (p := True) (j := 3) rfl ⟨by kernel_rfl, by kernel_rfl, by kernel_rfl⟩ trivial (ih_ref_choices_i2 h8219) (by kernel_rfl) (by kernel_rfl) ?_
      refine wo 4 [(0, aD (.slice tC) a0), (1, .one (.slc 19)), (16, aI i8211), (17, aI r8218)] [(19, .seq tI (List.set v8184 (Int.toNat i8211) (0 : Int))), (1000, .seq tI c0)] (by kernel_rfl) ?_
      refine wfL [(0, aD (.slice tC) a0), (1, .one (.slc 19)), (16, aI i8211), (17, aI r8218)] (by kernel_rfl) ?_
      refine seqQ_norm ?_
      refine W_seq (by kernel_rfl) ?_
      refine srL [(0, aD (.slice tC) a0), (1, .one (.slc 19)), (16, aI i8211), (17, aI r8218), (105, aB (decide (r8218 > (1 : Int))))] (by kernel_rfl) ?_
      refine W_cond (o := .tmp 105) (b := decide (r8218 > (1 : Int))) (by kernel_rfl) (by kernel_rfl) (fun h8220 => ?_) (fun h8220 => ?_)
      ·replace h := ofT h8220 h
       refine sr [(4, aI (2 : Int))] [(1000, .seq tI c0)] (by kernel_rfl) ?_
       obtain rfl := Option.some.inj h
       refine wtL [(4, aI (2 : Int))] (by kernel_rfl) ?_
       refine seqQ_ret ?_
       refine blockQ_ret ?_
       refine seqQ_ret ?_
       refine round_ret ?_
       refine escQ_ret ?_
       exact exM (by kernel_rfl)
      ·replace h := ofF h8220 h
       refine wkL [(0, aD (.slice tC) a0), (1, .one (.slc 19)), (16, aI i8211), (17, aI r8218)] (by kernel_rfl) ?_
       refine seqQ_norm ?_
       refine W_seq (by kernel_rfl) ?_
       obtain ⟨v8221, h8222, h⟩ := bind_of h
       refine W_run 4 [] [0, 1, 17] [19, 1000] (fr' := [(0, aD (.slice tC) a0), (1, .one (.slc 19)), (17, aI r8218)]) (L' := [(19, .seq tI (List.set (List.set v8184 (Int.toNat i8211) (0 : Int)) (Int.toNat i8211) (1 : Int))), (1000, .seq tI c0)]) (obs := [InR i8211 (List.length (List.set v8184 (Int.toNat i8211) (0 : Int))), InR i8211 (List.length (List.set v8184 (Int.toNat i8211) (0 : Int)))]) (by kernel_rfl) (by kernel_rfl) (by kernel_rfl) (allP2 (InR.of h8222) (allP1 (InR.of h8222))) ?_
       refine seqQ_norm ?_
       refine W_seq (by kernel_rfl) ?_
       refine W_region (by kernel_rfl) ?_
       refine woL 2 [(17, aI r8218), (109, aD (.slice tC) a0), (110, .one (.slc 19))] (by kernel_rfl) ?_
       obtain ⟨r8223, h8224, h⟩ := bind_of h
       refine WO_frz 19 (by kernel_rfl) ?_
       refine WO_call0 (us := [none, none]) (d := 111) (p := True) (j := 3) rfl ⟨by kernel_rfl, by kernel_rfl, by kernel_rfl⟩ trivial (ih_ref_choices h8224) (by kernel_rfl) ?_
       refine wo 4 [(17, aI r8218), (18, aI r8223)] [(1000, .seq tI c0)] (by kernel_rfl) ?_
       refine wfL [(17, aI r8218), (18, aI r8223)] (by kernel_rfl) ?_
       refine seqQ_norm ?_
       refine W_seq (by kernel_rfl) ?_
       refine srL [(17, aI r8218), (18, aI r8223), (115, aB (decide ((w64 (r8218 + r8223)) > (2 : Int))))] (by kernel_rfl) ?_
       refine W_cond (o := .tmp 115) (b := decide ((w64 (r8218 + r8223)) > (2 : Int))) (by kernel_rfl) (by kernel_rfl) (fun h8225 => ?_) (fun h8225 => ?_)
       ·replace h := ofT h8225 h
        refine srL [(4, aI (2 : Int))] (by kernel_rfl) ?_
        obtain rfl := Option.some.inj h
        refine wtL [(4, aI (2 : Int))] (by kernel_rfl) ?_
        refine seqQ_ret ?_
        refine blockQ_ret ?_
        refine seqQ_ret ?_
        refine round_ret ?_
        refine escQ_ret ?_
        exact exM (by kernel_rfl)
       ·replace h := ofF h8225 h
        refine wkL [(17, aI r8218), (18, aI r8223)] (by kernel_rfl) ?_
        refine seqQ_norm ?_
        refine srL [(4, aI (w64 (r8218 + r8223)))] (by kernel_rfl) ?_
        obtain rfl := Option.some.inj h
        refine wtL [(4, aI (w64 (r8218 + r8223)))] (by kernel_rfl) ?_
        refine blockQ_ret ?_
        refine seqQ_ret ?_
        refine round_ret ?_
        refine escQ_ret ?_
        exact exM (by kernel_rfl)
    ·obtain rfl := stepL_false h8216 h
     refine wx 8 [] [(1000, .seq tI c0)] (by kernel_rfl) ?_
     refine seqQ_exit ?_
     refine round_exit ?_
     refine escQ_brk ?_
     exact exM (by kernel_rfl)
   ·intro e fr L hJ
    rcases v8227 with v8232 | v8233
    ·obtain ⟨rfl, rfl, rfl⟩ := hJ
     obtain rfl := Option.some.inj h
     refine ltk [(4, aI v8232)] [(1000, .seq tI c0)] (by kernel_rfl) ?_
     refine blockQ_ret ?_
     refine seqQ_ret ?_
     exact retM (by kernel_rfl)
    ·obtain ⟨rfl, rfl, rfl⟩ := hJ
     refine ltk [] [(1000, .seq tI c0)] (by kernel_rfl) ?_
     refine blockQ_hit ?_
     refine seqQ_norm ?_
     refine sr [(4, aI (1 : Int))] [(1000, .seq tI c0)] (by kernel_rfl) ?_
     obtain rfl := Option.some.inj h
     refine wtL [(4, aI (1 : Int))] (by kernel_rfl) ?_
     exact retM (by kernel_rfl)
theorem ref_choices_i2_ok {rf_ref_choices : (List ((List Int) × (List Int))) → (List Int) → Option Int} (ih_ref_choices : ∀ {a0 : (List ((List Int) × (List Int)))} {a1 : (List Int)} {r : Int}, rf_ref_choices a0 a1 = some r → FnC Try.prog 83 [aD (.slice tC) a0, aD (.slice tI) a1] [] (aI r) []) : ∀ {fuel : Nat} {a0 : (List ((List Int) × (List Int)))} {c0 : (List Int)} {r : Int}, ref_choices_i2 rf_ref_choices fuel a0 c0 = some r → FnC Try.prog 83 [aD (.slice tC) a0, .one (.slc 1000)] [(1000, .seq tI c0)] (aI r) [(1000, .seq tI c0)] := by
 intro fuel
 induction fuel with
 | zero => intros a0 c0 r h; cases h
 | succ fuel ih => intros a0 c0 r h; exact ref_choices_i2_step_ok ih_ref_choices (fun h => ih h) (show ref_choices_i2_step rf_ref_choices (ref_choices_i2 rf_ref_choices fuel) fuel a0 c0 = some r from h)
end Go.Proofs.Ytnblafiefaalgaa.wholeClauses
