/- What the functions that CellSteps calls compute, as models, and that they compute it: written by a program of mine. -/
import Derived.Test.YtmongadolmofnaaProg
import Derived.Test.YtmongadolmofnaaSl3
set_option linter.all false
set_option maxRecDepth 100000
namespace Go.Proofs.Ytmongadolmofnaa.cellSteps
open Go Go.Sl
def cell_wrong (a0 : Int) : Option Bool :=
some ((decide (a0 < (0 : Int))) || (decide (a0 > (255 : Int))))
theorem cell_wrong_ok {a0 : Int} {r : Bool} (h : cell_wrong a0 = some r) : FnC Try.prog 47 [aI a0] [] (aB r) [] := by
  refine fnC_of_W (B := bodyOf Try.f47) (n := 9) Try.func47 (by kernel_rfl) (by kernel_rfl) (by kernel_rfl) (by kernel_rfl) (by kernel_rfl) ?_
  intro K
  refine W_seq (by kernel_rfl) ?_
  refine W_run 1 [] [0] [] (fr' := [(0, aI a0)]) (L' := []) (obs := []) (by kernel_rfl) (by kernel_rfl) (by kernel_rfl) allP0 ?_
  refine seqQ_norm ?_
  refine W_seq (by kernel_rfl) ?_
  refine W_run 7 [] [2] [] (fr' := [(2, aB ((decide (a0 < (0 : Int))) || (decide (a0 > (255 : Int)))))]) (L' := []) (obs := []) (by kernel_rfl) (by kernel_rfl) (by kernel_rfl) allP0 ?_
  refine seqQ_norm ?_
  obtain rfl := Option.some.inj h
  refine W_ret [2] [] (fr' := [(2, aB ((decide (a0 < (0 : Int))) || (decide (a0 > (255 : Int)))))]) (L' := []) (by kernel_rfl) (by kernel_rfl) ?_
  exact retQ_mk (by kernel_rfl) (by kernel_rfl) (by kernel_rfl)

def cell_bit (a0 : Bool) : Option Int :=
bif a0 then
(some (1 : Int))
else
(some (0 : Int))
theorem cell_bit_ok {a0 : Bool} {r : Int} (h : cell_bit a0 = some r) : FnC Try.prog 48 [aB a0] [] (aI r) [] := by
  refine fnC_of_W (B := bodyOf Try.f48) (n := 4) Try.func48 (by kernel_rfl) (by kernel_rfl) (by kernel_rfl) (by kernel_rfl) (by kernel_rfl) ?_
  intro K
  refine W_seq (by kernel_rfl) ?_
  refine W_run 1 [] [0] [] (fr' := [(0, aB a0)]) (L' := []) (obs := []) (by kernel_rfl) (by kernel_rfl) (by kernel_rfl) allP0 ?_
  refine seqQ_norm ?_
  refine W_seq (by kernel_rfl) ?_
  refine W_seq (by kernel_rfl) ?_
  refine W_run 1 [] [3] [] (fr' := [(3, aB a0)]) (L' := []) (obs := []) (by kernel_rfl) (by kernel_rfl) (by kernel_rfl) allP0 ?_
  refine seqQ_norm ?_
  refine W_cond (o := .tmp 3) (b := a0) (by kernel_rfl) (by kernel_rfl) (fun h1 => ?_) (fun h1 => ?_)
  · replace h := ofT h1 h
    refine W_seq (by kernel_rfl) ?_
    refine W_run 1 [] [2] [] (fr' := [(2, aI (1 : Int))]) (L' := []) (obs := []) (by kernel_rfl) (by kernel_rfl) (by kernel_rfl) allP0 ?_
    refine seqQ_norm ?_
    obtain rfl := Option.some.inj h
    refine W_ret [2] [] (fr' := [(2, aI (1 : Int))]) (L' := []) (by kernel_rfl) (by kernel_rfl) ?_
    refine seqQ_ret ?_
    exact retQ_mk (by kernel_rfl) (by kernel_rfl) (by kernel_rfl)
  · replace h := ofF h1 h
    refine W_skip [] [] (fr' := []) (L' := []) (by kernel_rfl) (by kernel_rfl) ?_
    refine seqQ_norm ?_
    refine W_seq (by kernel_rfl) ?_
    refine W_run 1 [] [2] [] (fr' := [(2, aI (0 : Int))]) (L' := []) (obs := []) (by kernel_rfl) (by kernel_rfl) (by kernel_rfl) allP0 ?_
    refine seqQ_norm ?_
    obtain rfl := Option.some.inj h
    refine W_ret [2] [] (fr' := [(2, aI (0 : Int))]) (L' := []) (by kernel_rfl) (by kernel_rfl) ?_
    exact retQ_mk (by kernel_rfl) (by kernel_rfl) (by kernel_rfl)

def cell_Step_b1 (a0 : Int) (a1 : (List Bool)) (i38 : Int) (v41 : Bool) (x39 : (List Bool)) : Option (Flow (List Bool) (List Bool)) :=
(ck ((List.length a1 : Int) ≠ 0)).bind fun _ =>
(idx a1 (Int.tmod (w64 ((w64 (i38 + (List.length a1 : Int))) - (1 : Int))) (List.length a1 : Int))).bind fun v45 =>
(cell_bit v45).bind fun r47 =>
(cell_bit v41).bind fun r49 =>
(idx a1 (Int.tmod (w64 (i38 + (1 : Int))) (List.length a1 : Int))).bind fun v51 =>
(cell_bit v51).bind fun r53 =>
(ck (0 ≤ w64 ((w64 ((w64 ((4 : Int) * r47)) + (w64 ((2 : Int) * r49)))) + r53))).bind fun _ =>
(ck ((List.length x39 : Int) + 1 ≤ 4294967296)).bind fun _ =>
some (.next (x39 ++ [(bAnd .i64 (bShr .i64 a0 (w64 ((w64 ((w64 ((4 : Int) * r47)) + (w64 ((2 : Int) * r49)))) + r53))) (1 : Int)) == (1 : Int)]))
@[reducible] def cell_Step_s2 (a0 : Int) (a1 : (List Bool)) (v : Int × (List Bool)) : Fr × LL := ([(0, aI a0), (1, aD (.slice .bool) a1), (6, aI (List.length a1 : Int)), (7, .one (.slc 59)), (21, aI (List.length a1 : Int)), (22, aI v.1)], [(59, .seq .bool v.2)])
@[reducible] def cell_Step_s3 (v : (List Bool)) : Fr × LL := ([(7, .one (.slc 59))], [(59, .seq .bool v)])
def cell_Step (a0 : Int) (a1 : (List Bool)) : Option ((List Bool) × Int) :=
(cell_wrong a0).bind fun r1 =>
bif r1 then
(some ([], (4 : Int)))
else
(bif (decide ((List.length a1 : Int) < (1 : Int))) || (decide ((List.length a1 : Int) > (12 : Int))) then
(some ([], (1 : Int)))
else
((forL (cell_Step_b1 a0 a1) (fun x39 => x39) a1 0 []).bind fun v58 =>
some (v58, (0 : Int))))
theorem cell_Step_ok {a0 : Int} {a1 : (List Bool)} {r : ((List Bool) × Int)} (h : cell_Step a0 a1 = some r) : FnC Try.prog 30 [aI a0, aD (.slice .bool) a1] [] (.tup [.dat (.slice .bool) r.1, .dat tI r.2]) [] := by
  refine fnC_of_W (B := bodyOf Try.f30) (n := 62) Try.func30 (by kernel_rfl) (by kernel_rfl) (by kernel_rfl) (by kernel_rfl) (by kernel_rfl) ?_
  intro K
  refine W_seq (by kernel_rfl) ?_
  refine W_run 2 [] [0, 1] [] (fr' := [(0, aI a0), (1, aD (.slice .bool) a1)]) (L' := []) (obs := []) (by kernel_rfl) (by kernel_rfl) (by kernel_rfl) allP0 ?_
  refine seqQ_norm ?_
  refine W_seq (by kernel_rfl) ?_
  refine W_seq (by kernel_rfl) ?_
  refine W_region (by kernel_rfl) ?_
  refine WO_run (j := 1) (k := 1) (orcs := []) (kF := [0, 1, 10]) (kL := []) (fr' := [(0, aI a0), (1, aD (.slice .bool) a1), (10, aI a0)]) (L' := []) (obs := []) rfl (by kernel_rfl) allP0 ?_
  obtain ⟨r1, h2, h⟩ := bind_of h
  refine WO_call0 (us := [none]) (d := 11) (p := True) (j := 2) rfl ⟨by kernel_rfl, by kernel_rfl, by kernel_rfl⟩ trivial (cell_wrong_ok h2) (by kernel_rfl) ?_
  refine WO_fin [0, 1, 11] [] (fr' := [(0, aI a0), (1, aD (.slice .bool) a1), (11, aB r1)]) (L' := []) (by kernel_rfl) (by kernel_rfl) ?_
  refine seqQ_norm ?_
  refine W_cond (o := .tmp 11) (b := r1) (by kernel_rfl) (by kernel_rfl) (fun h3 => ?_) (fun h3 => ?_)
  · replace h := ofT h3 h
    refine W_seq (by kernel_rfl) ?_
    refine W_run 2 [] [4, 5] [] (fr' := [(4, .one (.nilS)), (5, aI (4 : Int))]) (L' := []) (obs := []) (by kernel_rfl) (by kernel_rfl) (by kernel_rfl) allP0 ?_
    refine seqQ_norm ?_
    obtain rfl := Option.some.inj h
    refine W_cnv 4 (.slice .bool) (by kernel_rfl) ?_
    refine W_ret [4, 5] [] (fr' := [(4, aD (.slice .bool) []), (5, aI (4 : Int))]) (L' := []) (by kernel_rfl) (by kernel_rfl) ?_
    refine seqQ_ret ?_
    exact retQ_mk (by kernel_rfl) (by kernel_rfl) (by kernel_rfl)
  · replace h := ofF h3 h
    refine W_skip [0, 1] [] (fr' := [(0, aI a0), (1, aD (.slice .bool) a1)]) (L' := []) (by kernel_rfl) (by kernel_rfl) ?_
    refine seqQ_norm ?_
    refine W_seq (by kernel_rfl) ?_
    refine W_run 3 [] [0, 1, 6] [] (fr' := [(0, aI a0), (1, aD (.slice .bool) a1), (6, aI (List.length a1 : Int))]) (L' := []) (obs := []) (by kernel_rfl) (by kernel_rfl) (by kernel_rfl) allP0 ?_
    refine seqQ_norm ?_
    refine W_seq (by kernel_rfl) ?_
    refine W_seq (by kernel_rfl) ?_
    refine W_run 6 [] [0, 1, 6, 19] [] (fr' := [(0, aI a0), (1, aD (.slice .bool) a1), (6, aI (List.length a1 : Int)), (19, aB ((decide ((List.length a1 : Int) < (1 : Int))) || (decide ((List.length a1 : Int) > (12 : Int)))))]) (L' := []) (obs := []) (by kernel_rfl) (by kernel_rfl) (by kernel_rfl) allP0 ?_
    refine seqQ_norm ?_
    refine W_cond (o := .tmp 19) (b := (decide ((List.length a1 : Int) < (1 : Int))) || (decide ((List.length a1 : Int) > (12 : Int)))) (by kernel_rfl) (by kernel_rfl) (fun h4 => ?_) (fun h4 => ?_)
    · replace h := ofT h4 h
      refine W_seq (by kernel_rfl) ?_
      refine W_run 2 [] [4, 5] [] (fr' := [(4, .one (.nilS)), (5, aI (1 : Int))]) (L' := []) (obs := []) (by kernel_rfl) (by kernel_rfl) (by kernel_rfl) allP0 ?_
      refine seqQ_norm ?_
      obtain rfl := Option.some.inj h
      refine W_cnv 4 (.slice .bool) (by kernel_rfl) ?_
      refine W_ret [4, 5] [] (fr' := [(4, aD (.slice .bool) []), (5, aI (1 : Int))]) (L' := []) (by kernel_rfl) (by kernel_rfl) ?_
      refine seqQ_ret ?_
      exact retQ_mk (by kernel_rfl) (by kernel_rfl) (by kernel_rfl)
    · replace h := ofF h4 h
      refine W_skip [0, 1, 6] [] (fr' := [(0, aI a0), (1, aD (.slice .bool) a1), (6, aI (List.length a1 : Int))]) (L' := []) (by kernel_rfl) (by kernel_rfl) ?_
      refine seqQ_norm ?_
      refine W_seq (by kernel_rfl) ?_
      refine W_run 1 [] [0, 1, 6, 7] [] (fr' := [(0, aI a0), (1, aD (.slice .bool) a1), (6, aI (List.length a1 : Int)), (7, .one (.nilS))]) (L' := []) (obs := []) (by kernel_rfl) (by kernel_rfl) (by kernel_rfl) allP0 ?_
      refine seqQ_norm ?_
      refine W_seq (by kernel_rfl) ?_
      refine W_seq (by kernel_rfl) ?_
      refine W_run 3 [] [0, 1, 6, 7, 21, 22] [] (fr' := [(0, aI a0), (1, aD (.slice .bool) a1), (6, aI (List.length a1 : Int)), (7, .one (.nilS)), (21, aI (List.length a1 : Int)), (22, aI (0 : Int))]) (L' := []) (obs := []) (by kernel_rfl) (by kernel_rfl) (by kernel_rfl) allP0 ?_
      refine seqQ_norm ?_
      refine W_block (id := 0) (by kernel_rfl) ?_
      obtain ⟨v58, h59, h⟩ := bind_of h
      refine W_len (t := 1) (u := .bool) (xs := a1) (by kernel_rfl) (fun h62 => ?_)
      obtain ⟨h60, h61⟩ := forL_iter h62 h59
      refine W_mine 7 59 .bool (by kernel_rfl) ?_
      refine W_weaken [0, 1, 6, 7, 21, 22] [59] (fr' := ((cell_Step_s2 a0 a1) ((0 : Int), [])).1) (L' := ((cell_Step_s2 a0 a1) ((0 : Int), [])).2) (by kernel_rfl) ?_
      refine W_cutK (W_loop (S := (cell_Step_s2 a0 a1)) (J := (exQ (.exit 0) cell_Step_s3)) (by kernel_rfl) ?_ h60 _ v58 h61) ?_
      · rintro ⟨i38, x39⟩ s h
        refine W_seq (by kernel_rfl) ?_
        refine W_run 1 [] [0, 1, 6, 7, 21, 22, 23] [59] (fr' := [(0, aI a0), (1, aD (.slice .bool) a1), (6, aI (List.length a1 : Int)), (7, .one (.slc 59)), (21, aI (List.length a1 : Int)), (22, aI i38), (23, aB (decide (i38 < (List.length a1 : Int))))]) (L' := [(59, .seq .bool x39)]) (obs := []) (by kernel_rfl) (by kernel_rfl) (by kernel_rfl) allP0 ?_
        refine seqQ_norm ?_
        refine W_seq (by kernel_rfl) ?_
        refine W_cond (o := .tmp 23) (b := decide (i38 < (List.length a1 : Int))) (by kernel_rfl) (by kernel_rfl) (fun h43 => ?_) (fun h43 => ?_)
        · replace h := stepL_true h43 h
          obtain ⟨v41, _, h42, h, rfl⟩ := h
          refine W_skip [0, 1, 6, 7, 21, 22] [59] (fr' := [(0, aI a0), (1, aD (.slice .bool) a1), (6, aI (List.length a1 : Int)), (7, .one (.slc 59)), (21, aI (List.length a1 : Int)), (22, aI i38)]) (L' := [(59, .seq .bool x39)]) (by kernel_rfl) (by kernel_rfl) ?_
          refine seqQ_norm ?_
          refine W_seq (by kernel_rfl) ?_
          refine W_block (id := 1) (by kernel_rfl) ?_
          refine W_seq (by kernel_rfl) ?_
          refine W_run 2 [] [0, 1, 6, 7, 8, 21, 22] [59] (fr' := [(0, aI a0), (1, aD (.slice .bool) a1), (6, aI (List.length a1 : Int)), (7, .one (.slc 59)), (8, aI i38), (21, aI (List.length a1 : Int)), (22, aI i38)]) (L' := [(59, .seq .bool x39)]) (obs := []) (by kernel_rfl) (by kernel_rfl) (by kernel_rfl) allP0 ?_
          refine seqQ_norm ?_
          refine W_seq (by kernel_rfl) ?_
          obtain ⟨_, h44, h⟩ := bind_of h
          replace h44 := ck_some h44
          obtain ⟨v45, h46, h⟩ := bind_of h
          obtain ⟨r47, h48, h⟩ := bind_of h
          obtain ⟨r49, h50, h⟩ := bind_of h
          obtain ⟨v51, h52, h⟩ := bind_of h
          obtain ⟨r53, h54, h⟩ := bind_of h
          refine W_draw2 27 [(15, .val (.dat .bool v45)), (27, .val (.dat .bool v41)), (47, .val (.dat .bool v51))] [(9, [none], aI r47), (15, [none], aI r49), (25, [none], aI r53)] [0, 1, 6, 7, 9, 21, 22] [59] (fr' := [(0, aI a0), (1, aD (.slice .bool) a1), (6, aI (List.length a1 : Int)), (7, .one (.slc 59)), (9, aI (w64 ((w64 ((w64 ((4 : Int) * r47)) + (w64 ((2 : Int) * r49)))) + r53))), (21, aI (List.length a1 : Int)), (22, aI i38)]) (L' := [(59, .seq .bool x39)]) (out := [(25, aD (.slice .bool) a1), (26, aI i38), (27, aI (List.length a1 : Int)), (28, aI (w64 (i38 + (List.length a1 : Int)))), (29, aI (w64 ((w64 (i38 + (List.length a1 : Int))) - (1 : Int)))), (30, aI (List.length a1 : Int)), (31, aI (Int.tmod (w64 ((w64 (i38 + (List.length a1 : Int))) - (1 : Int))) (List.length a1 : Int))), (32, .one (.dptr .bool v45)), (33, aB v45), (34, aI r47), (35, aI (w64 ((4 : Int) * r47))), (36, aD (.slice .bool) a1), (37, aI i38), (38, .one (.dptr .bool v41)), (39, aB v41), (40, aI r49), (41, aI (w64 ((2 : Int) * r49))), (42, aI (w64 ((w64 ((4 : Int) * r47)) + (w64 ((2 : Int) * r49))))), (43, aD (.slice .bool) a1), (44, aI i38), (45, aI (w64 (i38 + (1 : Int)))), (46, aI (List.length a1 : Int)), (47, aI (Int.tmod (w64 (i38 + (1 : Int))) (List.length a1 : Int))), (48, .one (.dptr .bool v51)), (49, aB v51), (50, aI r53), (51, aI (w64 ((w64 ((w64 ((4 : Int) * r47)) + (w64 ((2 : Int) * r49)))) + r53)))]) (obs := [((List.length a1 : Int) ≠ 0), Idx a1 (Int.tmod (w64 ((w64 (i38 + (List.length a1 : Int))) - (1 : Int))) (List.length a1 : Int)) v45, True, Idx a1 i38 v41, True, ((List.length a1 : Int) ≠ 0), Idx a1 (Int.tmod (w64 (i38 + (1 : Int))) (List.length a1 : Int)) v51, True]) (obs2 := []) (calls := [(48, [aB v45], aI r47), (48, [aB v41], aI r49), (48, [aB v51], aI r53)]) (by kernel_rfl) (by kernel_rfl) (by kernel_rfl) (by kernel_rfl) (allP2 h44 (allP2 (Idx.of h46) (allP2 trivial (allP2 (Idx.of h42) (allP2 trivial (allP2 h44 (allP2 (Idx.of h52) (allP1 trivial)))))))) (allC1 (by kernel_rfl) (cell_bit_ok h48) (by kernel_rfl) (allC1 (by kernel_rfl) (cell_bit_ok h50) (by kernel_rfl) (allC1 (by kernel_rfl) (cell_bit_ok h54) (by kernel_rfl) allC0))) (by kernel_rfl) allP0 ?_
          refine seqQ_norm ?_
          obtain ⟨_, h55, h⟩ := bind_of h
          replace h55 := ck_some h55
          obtain ⟨_, h56, h⟩ := bind_of h
          replace h56 := ck_some h56
          refine W_run 9 [] [0, 1, 6, 7, 21, 22] [59] (fr' := [(0, aI a0), (1, aD (.slice .bool) a1), (6, aI (List.length a1 : Int)), (7, .one (.slc 59)), (21, aI (List.length a1 : Int)), (22, aI i38)]) (L' := [(59, .seq .bool (x39 ++ [(bAnd .i64 (bShr .i64 a0 (w64 ((w64 ((w64 ((4 : Int) * r47)) + (w64 ((2 : Int) * r49)))) + r53))) (1 : Int)) == (1 : Int)]))]) (obs := [(0 ≤ w64 ((w64 ((w64 ((4 : Int) * r47)) + (w64 ((2 : Int) * r49)))) + r53)), SmallLen (List.length x39 + List.length [(bAnd .i64 (bShr .i64 a0 (w64 ((w64 ((w64 ((4 : Int) * r47)) + (w64 ((2 : Int) * r49)))) + r53))) (1 : Int)) == (1 : Int)])]) (by kernel_rfl) (by kernel_rfl) (by kernel_rfl) (allP2 h55 (allP1 h56)) ?_
          refine blockQ_norm ?_
          refine seqQ_norm ?_
          obtain rfl := Option.some.inj h
          refine W_run 2 [] [0, 1, 6, 7, 21, 22] [59] (fr' := [(0, aI a0), (1, aD (.slice .bool) a1), (6, aI (List.length a1 : Int)), (7, .one (.slc 59)), (21, aI (List.length a1 : Int)), (22, aI (w64 (i38 + (1 : Int))))]) (L' := [(59, .seq .bool (x39 ++ [(bAnd .i64 (bShr .i64 a0 (w64 ((w64 ((w64 ((4 : Int) * r47)) + (w64 ((2 : Int) * r49)))) + r53))) (1 : Int)) == (1 : Int)]))]) (obs := []) (by kernel_rfl) (by kernel_rfl) (by kernel_rfl) allP0 ?_
          exact round_next' (by kernel_rfl) (by kernel_rfl)
        · obtain rfl := stepL_false h43 h
          refine W_exit (id := 0) [7] [59] (fr' := [(7, .one (.slc 59))]) (L' := [(59, .seq .bool x39)]) (by kernel_rfl) (by kernel_rfl) ?_
          refine seqQ_exit ?_
          refine round_exit ?_
          exact exQ_mk (by kernel_rfl) (by kernel_rfl)
      · intro e fr L hJ
        obtain ⟨rfl, rfl, rfl⟩ := hJ
        refine LT_keep [7] [59] (fr' := [(7, .one (.slc 59))]) (L' := [(59, .seq .bool v58)]) (by kernel_rfl) ?_
        refine blockQ_hit ?_
        refine seqQ_norm ?_
        refine W_seq (by kernel_rfl) ?_
        refine W_run 3 [] [4, 5] [59] (fr' := [(4, .one (.slc 59)), (5, aI (0 : Int))]) (L' := [(59, .seq .bool v58)]) (obs := []) (by kernel_rfl) (by kernel_rfl) (by kernel_rfl) allP0 ?_
        refine seqQ_norm ?_
        obtain rfl := Option.some.inj h
        refine W_frz 59 (by kernel_rfl) ?_
        refine W_ret [4, 5] [] (fr' := [(4, aD (.slice .bool) v58), (5, aI (0 : Int))]) (L' := []) (by kernel_rfl) (by kernel_rfl) ?_
        exact retQ_mk (by kernel_rfl) (by kernel_rfl) (by kernel_rfl)

def ref_Within (a0 : Int) (a1 : Int) (a2 : Int) : Option Bool :=
some ((decide (a0 ≤ a1)) && (decide (a1 ≤ a2)))
theorem ref_Within_ok {a0 : Int} {a1 : Int} {a2 : Int} {r : Bool} (h : ref_Within a0 a1 a2 = some r) : FnC Try.prog 15 [aI a0, aI a1, aI a2] [] (aB r) [] := by
  refine fnC_of_W (B := bodyOf Try.f15) (n := 15) Try.func15 (by kernel_rfl) (by kernel_rfl) (by kernel_rfl) (by kernel_rfl) (by kernel_rfl) ?_
  intro K
  refine W_seq (by kernel_rfl) ?_
  refine W_run 1 [] [0, 1, 2] [] (fr' := [(0, aI a0), (1, aI a1), (2, aI a2)]) (L' := []) (obs := []) (by kernel_rfl) (by kernel_rfl) (by kernel_rfl) allP0 ?_
  refine seqQ_norm ?_
  refine W_seq (by kernel_rfl) ?_
  refine W_run 9 [] [6] [] (fr' := [(6, aB ((decide (a0 ≤ a1)) && (decide (a1 ≤ a2))))]) (L' := []) (obs := []) (by kernel_rfl) (by kernel_rfl) (by kernel_rfl) allP0 ?_
  refine seqQ_norm ?_
  obtain rfl := Option.some.inj h
  refine W_ret [6] [] (fr' := [(6, aB ((decide (a0 ≤ a1)) && (decide (a1 ≤ a2))))]) (L' := []) (by kernel_rfl) (by kernel_rfl) ?_
  exact retQ_mk (by kernel_rfl) (by kernel_rfl) (by kernel_rfl)

def law_ruleCode (a0 : Int) : Option Int :=
(ref_Within (0 : Int) a0 (255 : Int)).bind fun r1 =>
bif !r1 then
(some (4 : Int))
else
(some (0 : Int))
theorem law_ruleCode_ok {a0 : Int} {r : Int} (h : law_ruleCode a0 = some r) : FnC Try.prog 31 [aI a0] [] (aI r) [] := by
  refine fnC_of_W (B := bodyOf Try.f31) (n := 6) Try.func31 (by kernel_rfl) (by kernel_rfl) (by kernel_rfl) (by kernel_rfl) (by kernel_rfl) ?_
  intro K
  refine W_seq (by kernel_rfl) ?_
  refine W_run 1 [] [0] [] (fr' := [(0, aI a0)]) (L' := []) (obs := []) (by kernel_rfl) (by kernel_rfl) (by kernel_rfl) allP0 ?_
  refine seqQ_norm ?_
  refine W_seq (by kernel_rfl) ?_
  refine W_seq (by kernel_rfl) ?_
  refine W_region (by kernel_rfl) ?_
  refine WO_run (j := 1) (k := 1) (orcs := []) (kF := [3]) (kL := []) (fr' := [(3, aI a0)]) (L' := []) (obs := []) rfl (by kernel_rfl) allP0 ?_
  obtain ⟨r1, h2, h⟩ := bind_of h
  refine WO_call0 (us := [none, none, none]) (d := 4) (p := True) (j := 2) rfl ⟨by kernel_rfl, by kernel_rfl, by kernel_rfl⟩ trivial (ref_Within_ok h2) (by kernel_rfl) ?_
  refine WO_run (j := 3) (k := 1) (orcs := []) (kF := [5]) (kL := []) (fr' := [(5, aB (!r1))]) (L' := []) (obs := []) rfl (by kernel_rfl) allP0 ?_
  refine WO_fin [5] [] (fr' := [(5, aB (!r1))]) (L' := []) (by kernel_rfl) (by kernel_rfl) ?_
  refine seqQ_norm ?_
  refine W_cond (o := .tmp 5) (b := !r1) (by kernel_rfl) (by kernel_rfl) (fun h3 => ?_) (fun h3 => ?_)
  · replace h := ofT h3 h
    refine W_seq (by kernel_rfl) ?_
    refine W_run 1 [] [2] [] (fr' := [(2, aI (4 : Int))]) (L' := []) (obs := []) (by kernel_rfl) (by kernel_rfl) (by kernel_rfl) allP0 ?_
    refine seqQ_norm ?_
    obtain rfl := Option.some.inj h
    refine W_ret [2] [] (fr' := [(2, aI (4 : Int))]) (L' := []) (by kernel_rfl) (by kernel_rfl) ?_
    refine seqQ_ret ?_
    exact retQ_mk (by kernel_rfl) (by kernel_rfl) (by kernel_rfl)
  · replace h := ofF h3 h
    refine W_skip [] [] (fr' := []) (L' := []) (by kernel_rfl) (by kernel_rfl) ?_
    refine seqQ_norm ?_
    refine W_seq (by kernel_rfl) ?_
    refine W_run 1 [] [2] [] (fr' := [(2, aI (0 : Int))]) (L' := []) (obs := []) (by kernel_rfl) (by kernel_rfl) (by kernel_rfl) allP0 ?_
    refine seqQ_norm ?_
    obtain rfl := Option.some.inj h
    refine W_ret [2] [] (fr' := [(2, aI (0 : Int))]) (L' := []) (by kernel_rfl) (by kernel_rfl) ?_
    exact retQ_mk (by kernel_rfl) (by kernel_rfl) (by kernel_rfl)

def ref_Bit (a0 : Int) (a1 : Int) : Option Bool :=
bif (decide (a1 ≥ (0 : Int))) && (decide (a1 < (63 : Int))) then
((ck (0 ≤ IntKind.wrap .u64 (a1))).bind fun _ =>
some ((bAnd .i64 a0 (bShl .i64 (1 : Int) (IntKind.wrap .u64 (a1)))) != (0 : Int)))
else
(some false)
theorem ref_Bit_ok {a0 : Int} {a1 : Int} {r : Bool} (h : ref_Bit a0 a1 = some r) : FnC Try.prog 49 [aI a0, aI a1] [] (aB r) [] := by
  refine fnC_of_W (B := bodyOf Try.f49) (n := 19) Try.func49 (by kernel_rfl) (by kernel_rfl) (by kernel_rfl) (by kernel_rfl) (by kernel_rfl) ?_
  intro K
  refine W_seq (by kernel_rfl) ?_
  refine W_run 1 [] [0, 1] [] (fr' := [(0, aI a0), (1, aI a1)]) (L' := []) (obs := []) (by kernel_rfl) (by kernel_rfl) (by kernel_rfl) allP0 ?_
  refine seqQ_norm ?_
  refine W_seq (by kernel_rfl) ?_
  refine W_region (by kernel_rfl) ?_
  refine WO_run (j := 7) (k := 7) (orcs := []) (kF := [0, 1, 11]) (kL := []) (fr' := [(0, aI a0), (1, aI a1), (11, aB ((decide (a1 ≥ (0 : Int))) && (decide (a1 < (63 : Int)))))]) (L' := []) (obs := []) rfl (by kernel_rfl) allP0 ?_
  rcases Bool.eq_false_or_eq_true ((decide (a1 ≥ (0 : Int))) && (decide (a1 < (63 : Int)))) with h1 | h1
  · replace h := ofT h1 h
    obtain ⟨_, h2, h⟩ := bind_of h
    replace h2 := ck_some h2
    refine WO_run (j := 15) (k := 8) (orcs := [(14, .known true), (16, .known true), (18, .known true), (20, .known true), (22, .known true), (24, .known true), (27, .val (.dat .bool true))]) (kF := [4]) (kL := []) (fr' := [(4, aB ((bAnd .i64 a0 (bShl .i64 (1 : Int) (IntKind.wrap .u64 (a1)))) != (0 : Int)))]) (L' := []) (obs := [(((decide (a1 ≥ (0 : Int))) && (decide (a1 < (63 : Int)))) = true), (((decide (a1 ≥ (0 : Int))) && (decide (a1 < (63 : Int)))) = true), (((decide (a1 ≥ (0 : Int))) && (decide (a1 < (63 : Int)))) = true), (((decide (a1 ≥ (0 : Int))) && (decide (a1 < (63 : Int)))) = true), (0 ≤ IntKind.wrap .u64 (a1)), (((decide (a1 ≥ (0 : Int))) && (decide (a1 < (63 : Int)))) = true), (((decide (a1 ≥ (0 : Int))) && (decide (a1 < (63 : Int)))) = true), (((decide (a1 ≥ (0 : Int))) && (decide (a1 < (63 : Int)))) = true)]) rfl (by kernel_rfl) (allP2 h1 (allP2 h1 (allP2 h1 (allP2 h1 (allP2 h2 (allP2 h1 (allP2 h1 (allP1 h1)))))))) ?_
    refine WO_fin [4] [] (fr' := [(4, aB ((bAnd .i64 a0 (bShl .i64 (1 : Int) (IntKind.wrap .u64 (a1)))) != (0 : Int)))]) (L' := []) (by kernel_rfl) (by kernel_rfl) ?_
    refine seqQ_norm ?_
    obtain rfl := Option.some.inj h
    refine W_ret [4] [] (fr' := [(4, aB ((bAnd .i64 a0 (bShl .i64 (1 : Int) (IntKind.wrap .u64 (a1)))) != (0 : Int)))]) (L' := []) (by kernel_rfl) (by kernel_rfl) ?_
    exact retQ_mk (by kernel_rfl) (by kernel_rfl) (by kernel_rfl)
  · replace h := ofF h1 h
    refine WO_run (j := 15) (k := 8) (orcs := [(14, .known false), (16, .known false), (18, .known false), (20, .known false), (22, .known false), (24, .known false), (27, .val (.dat .bool false))]) (kF := [4]) (kL := []) (fr' := [(4, aB false)]) (L' := []) (obs := [(((decide (a1 ≥ (0 : Int))) && (decide (a1 < (63 : Int)))) = false), (((decide (a1 ≥ (0 : Int))) && (decide (a1 < (63 : Int)))) = false), (((decide (a1 ≥ (0 : Int))) && (decide (a1 < (63 : Int)))) = false), (((decide (a1 ≥ (0 : Int))) && (decide (a1 < (63 : Int)))) = false), (((decide (a1 ≥ (0 : Int))) && (decide (a1 < (63 : Int)))) = false), (((decide (a1 ≥ (0 : Int))) && (decide (a1 < (63 : Int)))) = false), (((decide (a1 ≥ (0 : Int))) && (decide (a1 < (63 : Int)))) = false)]) rfl (by kernel_rfl) (allP2 h1 (allP2 h1 (allP2 h1 (allP2 h1 (allP2 h1 (allP2 h1 (allP1 h1))))))) ?_
    refine WO_fin [4] [] (fr' := [(4, aB false)]) (L' := []) (by kernel_rfl) (by kernel_rfl) ?_
    refine seqQ_norm ?_
    obtain rfl := Option.some.inj h
    refine W_ret [4] [] (fr' := [(4, aB false)]) (L' := []) (by kernel_rfl) (by kernel_rfl) ?_
    exact retQ_mk (by kernel_rfl) (by kernel_rfl) (by kernel_rfl)

@[reducible] def ref_Truth_s1 (a0 : Int) (v : Int) : Fr × LL := ([(0, aI a0), (9, aI v)], [])
@[reducible] def ref_Truth_s2 (a0 : Int) (a3 : Bool) (v : Int) : Fr × LL := ([(0, aI a0), (3, aB a3), (9, aI v)], [])
@[reducible] def ref_Truth_s3 (a0 : Int) (a2 : Bool) (a3 : Bool) (v : Int) : Fr × LL := ([(0, aI a0), (2, aB a2), (3, aB a3), (9, aI v)], [])
def ref_Truth (a0 : Int) (a1 : Bool) (a2 : Bool) (a3 : Bool) : Option Bool :=
(bif a1 then
(some (4 : Int))
else
(some (0 : Int))).bind fun v4 =>
(bif a2 then
(some (w64 (v4 + (2 : Int))))
else
(some v4)).bind fun v9 =>
(bif a3 then
(some (w64 (v9 + (1 : Int))))
else
(some v9)).bind fun v14 =>
(ref_Bit a0 v14).bind fun r16 =>
some r16
theorem ref_Truth_ok {a0 : Int} {a1 : Bool} {a2 : Bool} {a3 : Bool} {r : Bool} (h : ref_Truth a0 a1 a2 a3 = some r) : FnC Try.prog 32 [aI a0, aB a1, aB a2, aB a3] [] (aB r) [] := by
  refine fnC_of_W (B := bodyOf Try.f32) (n := 22) Try.func32 (by kernel_rfl) (by kernel_rfl) (by kernel_rfl) (by kernel_rfl) (by kernel_rfl) ?_
  intro K
  refine W_seq (by kernel_rfl) ?_
  refine W_run 1 [] [0, 1, 2, 3] [] (fr' := [(0, aI a0), (1, aB a1), (2, aB a2), (3, aB a3)]) (L' := []) (obs := []) (by kernel_rfl) (by kernel_rfl) (by kernel_rfl) allP0 ?_
  refine seqQ_norm ?_
  refine W_seq (by kernel_rfl) ?_
  refine W_run 1 [] [0, 1, 2, 3, 9] [] (fr' := [(0, aI a0), (1, aB a1), (2, aB a2), (3, aB a3), (9, aI (0 : Int))]) (L' := []) (obs := []) (by kernel_rfl) (by kernel_rfl) (by kernel_rfl) allP0 ?_
  refine seqQ_norm ?_
  refine W_seq (by kernel_rfl) ?_
  obtain ⟨v4, h5, h⟩ := bind_of h
  refine W_cutK (Q' := (exQ .normal (ref_Truth_s3 a0 a2 a3)) v4) ?_ ?_
  · replace h := h5
    refine W_seq (by kernel_rfl) ?_
    refine W_run 1 [] [0, 2, 3, 9, 10] [] (fr' := [(0, aI a0), (2, aB a2), (3, aB a3), (9, aI (0 : Int)), (10, aB a1)]) (L' := []) (obs := []) (by kernel_rfl) (by kernel_rfl) (by kernel_rfl) allP0 ?_
    refine seqQ_norm ?_
    refine W_cond (o := .tmp 10) (b := a1) (by kernel_rfl) (by kernel_rfl) (fun h3 => ?_) (fun h3 => ?_)
    · replace h := ofT h3 h
      obtain rfl := Option.some.inj h
      refine W_run 3 [] [0, 2, 3, 9] [] (fr' := [(0, aI a0), (2, aB a2), (3, aB a3), (9, aI (4 : Int))]) (L' := []) (obs := []) (by kernel_rfl) (by kernel_rfl) (by kernel_rfl) allP0 ?_
      exact exQ_mk (by kernel_rfl) (by kernel_rfl)
    · replace h := ofF h3 h
      obtain rfl := Option.some.inj h
      refine W_skip [0, 2, 3, 9] [] (fr' := [(0, aI a0), (2, aB a2), (3, aB a3), (9, aI (0 : Int))]) (L' := []) (by kernel_rfl) (by kernel_rfl) ?_
      exact exQ_mk (by kernel_rfl) (by kernel_rfl)
  · intro e fr L hJ
    obtain ⟨rfl, rfl, rfl⟩ := hJ
    refine LT_keep [0, 2, 3, 9] [] (fr' := [(0, aI a0), (2, aB a2), (3, aB a3), (9, aI v4)]) (L' := []) (by kernel_rfl) ?_
    refine seqQ_norm ?_
    refine W_seq (by kernel_rfl) ?_
    obtain ⟨v9, h10, h⟩ := bind_of h
    refine W_cutK (Q' := (exQ .normal (ref_Truth_s2 a0 a3)) v9) ?_ ?_
    · replace h := h10
      refine W_seq (by kernel_rfl) ?_
      refine W_run 1 [] [0, 3, 9, 13] [] (fr' := [(0, aI a0), (3, aB a3), (9, aI v4), (13, aB a2)]) (L' := []) (obs := []) (by kernel_rfl) (by kernel_rfl) (by kernel_rfl) allP0 ?_
      refine seqQ_norm ?_
      refine W_cond (o := .tmp 13) (b := a2) (by kernel_rfl) (by kernel_rfl) (fun h8 => ?_) (fun h8 => ?_)
      · replace h := ofT h8 h
        obtain rfl := Option.some.inj h
        refine W_run 3 [] [0, 3, 9] [] (fr' := [(0, aI a0), (3, aB a3), (9, aI (w64 (v4 + (2 : Int))))]) (L' := []) (obs := []) (by kernel_rfl) (by kernel_rfl) (by kernel_rfl) allP0 ?_
        exact exQ_mk (by kernel_rfl) (by kernel_rfl)
      · replace h := ofF h8 h
        obtain rfl := Option.some.inj h
        refine W_skip [0, 3, 9] [] (fr' := [(0, aI a0), (3, aB a3), (9, aI v4)]) (L' := []) (by kernel_rfl) (by kernel_rfl) ?_
        exact exQ_mk (by kernel_rfl) (by kernel_rfl)
    · intro e fr L hJ
      obtain ⟨rfl, rfl, rfl⟩ := hJ
      refine LT_keep [0, 3, 9] [] (fr' := [(0, aI a0), (3, aB a3), (9, aI v9)]) (L' := []) (by kernel_rfl) ?_
      refine seqQ_norm ?_
      refine W_seq (by kernel_rfl) ?_
      obtain ⟨v14, h15, h⟩ := bind_of h
      refine W_cutK (Q' := (exQ .normal (ref_Truth_s1 a0)) v14) ?_ ?_
      · replace h := h15
        refine W_seq (by kernel_rfl) ?_
        refine W_run 1 [] [0, 9, 16] [] (fr' := [(0, aI a0), (9, aI v9), (16, aB a3)]) (L' := []) (obs := []) (by kernel_rfl) (by kernel_rfl) (by kernel_rfl) allP0 ?_
        refine seqQ_norm ?_
        refine W_cond (o := .tmp 16) (b := a3) (by kernel_rfl) (by kernel_rfl) (fun h13 => ?_) (fun h13 => ?_)
        · replace h := ofT h13 h
          obtain rfl := Option.some.inj h
          refine W_run 3 [] [0, 9] [] (fr' := [(0, aI a0), (9, aI (w64 (v9 + (1 : Int))))]) (L' := []) (obs := []) (by kernel_rfl) (by kernel_rfl) (by kernel_rfl) allP0 ?_
          exact exQ_mk (by kernel_rfl) (by kernel_rfl)
        · replace h := ofF h13 h
          obtain rfl := Option.some.inj h
          refine W_skip [0, 9] [] (fr' := [(0, aI a0), (9, aI v9)]) (L' := []) (by kernel_rfl) (by kernel_rfl) ?_
          exact exQ_mk (by kernel_rfl) (by kernel_rfl)
      · intro e fr L hJ
        obtain ⟨rfl, rfl, rfl⟩ := hJ
        refine LT_keep [0, 9] [] (fr' := [(0, aI a0), (9, aI v14)]) (L' := []) (by kernel_rfl) ?_
        refine seqQ_norm ?_
        refine W_seq (by kernel_rfl) ?_
        refine W_region (by kernel_rfl) ?_
        refine WO_run (j := 2) (k := 2) (orcs := []) (kF := [19, 20]) (kL := []) (fr' := [(19, aI a0), (20, aI v14)]) (L' := []) (obs := []) rfl (by kernel_rfl) allP0 ?_
        obtain ⟨r16, h17, h⟩ := bind_of h
        refine WO_call0 (us := [none, none]) (d := 21) (p := True) (j := 3) rfl ⟨by kernel_rfl, by kernel_rfl, by kernel_rfl⟩ trivial (ref_Bit_ok h17) (by kernel_rfl) ?_
        refine WO_run (j := 4) (k := 1) (orcs := []) (kF := [8]) (kL := []) (fr' := [(8, aB r16)]) (L' := []) (obs := []) rfl (by kernel_rfl) allP0 ?_
        refine WO_fin [8] [] (fr' := [(8, aB r16)]) (L' := []) (by kernel_rfl) (by kernel_rfl) ?_
        refine seqQ_norm ?_
        obtain rfl := Option.some.inj h
        refine W_ret [8] [] (fr' := [(8, aB r16)]) (L' := []) (by kernel_rfl) (by kernel_rfl) ?_
        exact retQ_mk (by kernel_rfl) (by kernel_rfl) (by kernel_rfl)

@[reducible] def law_CellSteps_s3 (a0 : Int) (a1 : (List Bool)) (r1 : ((List Bool) × Int)) (r3 : Int) (v : Bool) : Fr × LL := ([(0, aI a0), (1, aD (.slice .bool) a1), (5, aD (.slice .bool) r1.1), (6, aI r1.2), (7, aI r3), (8, aI (List.length a1 : Int)), (26, aB v)], [])
def law_CellSteps_g4 (a1 : (List Bool)) (r3 : Int) : Option Int :=
(bif r3 == (0 : Int) then
((ref_Within (1 : Int) (List.length a1 : Int) (12 : Int)).bind fun r36 =>
some (!r36))
else
(some false)).bind fun v38 =>
bif v38 then
(some (1 : Int))
else
(some r3)
def law_CellSteps_b5 (a0 : Int) (a1 : (List Bool)) (r1 : ((List Bool) × Int)) (i73 : Int) (v76 : Bool) (x74 : Unit) : Option (Flow Unit (Esc Bool Unit)) :=
(idx r1.1 i73).bind fun v79 =>
(ck ((List.length a1 : Int) ≠ 0)).bind fun _ =>
(idx a1 (Int.tmod (w64 ((w64 (i73 + (List.length a1 : Int))) - (1 : Int))) (List.length a1 : Int))).bind fun v82 =>
(idx a1 (Int.tmod (w64 (i73 + (1 : Int))) (List.length a1 : Int))).bind fun v84 =>
(ref_Truth a0 v82 v76 v84).bind fun r86 =>
bif !(v79 == r86) then
(some (.done (.ret false)))
else
(some (.next ()))
@[reducible] def law_CellSteps_s6 (a0 : Int) (a1 : (List Bool)) (r1 : ((List Bool) × Int)) (v : Int × Unit) : Fr × LL := ([(0, aI a0), (1, aD (.slice .bool) a1), (5, aD (.slice .bool) r1.1), (8, aI (List.length a1 : Int)), (9, aI v.1)], [])
@[reducible] def law_CellSteps_s7 (v : Bool) : Fr × LL := ([(4, aB v)], [])
@[reducible] def law_CellSteps_s8 (v : Unit) : Fr × LL := ([], [])
@[reducible] def law_CellSteps_s9 (a0 : Int) (a1 : (List Bool)) (r1 : ((List Bool) × Int)) (v : Int) : Fr × LL := ([(0, aI a0), (1, aD (.slice .bool) a1), (5, aD (.slice .bool) r1.1), (6, aI r1.2), (7, aI v), (8, aI (List.length a1 : Int))], [])
def law_CellSteps (a0 : Int) (a1 : (List Bool)) : Option Bool :=
(cell_Step a0 a1).bind fun r1 =>
(law_ruleCode a0).bind fun r3 =>
(law_CellSteps_g4 a1 r3).bind fun v41 =>
bif v41 != (0 : Int) then
(some ((r1.2 == v41) && ((List.length r1.1 : Int) == (0 : Int))))
else
(bif (r1.2 != (0 : Int)) || ((List.length r1.1 : Int) != (List.length a1 : Int)) then
(some false)
else
((forL (law_CellSteps_b5 a0 a1 r1) (fun x74 => (.brk ())) a1 0 ()).bind fun v90 =>
match v90 with
| .ret v95 =>
(some v95)
| .brk v96 =>
(some true)))
theorem law_CellSteps_ok {a0 : Int} {a1 : (List Bool)} {r : Bool} (h : law_CellSteps a0 a1 = some r) : FnC Try.prog 12 [aI a0, aD (.slice .bool) a1] [] (aB r) [] := by
  refine fnC_of_W (B := bodyOf Try.f12) (n := 77) Try.func12 (by kernel_rfl) (by kernel_rfl) (by kernel_rfl) (by kernel_rfl) (by kernel_rfl) ?_
  intro K
  refine W_seq (by kernel_rfl) ?_
  refine W_run 1 [] [0, 1] [] (fr' := [(0, aI a0), (1, aD (.slice .bool) a1)]) (L' := []) (obs := []) (by kernel_rfl) (by kernel_rfl) (by kernel_rfl) allP0 ?_
  refine seqQ_norm ?_
  refine W_seq (by kernel_rfl) ?_
  refine W_region (by kernel_rfl) ?_
  refine WO_run (j := 2) (k := 2) (orcs := []) (kF := [0, 1, 11, 12]) (kL := []) (fr' := [(0, aI a0), (1, aD (.slice .bool) a1), (11, aI a0), (12, aD (.slice .bool) a1)]) (L' := []) (obs := []) rfl (by kernel_rfl) allP0 ?_
  obtain ⟨r1, h2, h⟩ := bind_of h
  refine WO_call0 (us := [none, none]) (d := 13) (p := True) (j := 3) rfl ⟨by kernel_rfl, by kernel_rfl, by kernel_rfl⟩ trivial (cell_Step_ok h2) (by kernel_rfl) ?_
  refine WO_run (j := 8) (k := 5) (orcs := []) (kF := [0, 1, 5, 6]) (kL := []) (fr' := [(0, aI a0), (1, aD (.slice .bool) a1), (5, aD (.slice .bool) r1.1), (6, aI r1.2)]) (L' := []) (obs := []) rfl (by kernel_rfl) allP0 ?_
  refine WO_fin [0, 1, 5, 6] [] (fr' := [(0, aI a0), (1, aD (.slice .bool) a1), (5, aD (.slice .bool) r1.1), (6, aI r1.2)]) (L' := []) (by kernel_rfl) (by kernel_rfl) ?_
  refine seqQ_norm ?_
  refine W_seq (by kernel_rfl) ?_
  refine W_region (by kernel_rfl) ?_
  refine WO_run (j := 1) (k := 1) (orcs := []) (kF := [0, 1, 5, 6, 16]) (kL := []) (fr' := [(0, aI a0), (1, aD (.slice .bool) a1), (5, aD (.slice .bool) r1.1), (6, aI r1.2), (16, aI a0)]) (L' := []) (obs := []) rfl (by kernel_rfl) allP0 ?_
  obtain ⟨r3, h4, h⟩ := bind_of h
  refine WO_call0 (us := [none]) (d := 17) (p := True) (j := 2) rfl ⟨by kernel_rfl, by kernel_rfl, by kernel_rfl⟩ trivial (law_ruleCode_ok h4) (by kernel_rfl) ?_
  refine WO_run (j := 3) (k := 1) (orcs := []) (kF := [0, 1, 5, 6, 7]) (kL := []) (fr' := [(0, aI a0), (1, aD (.slice .bool) a1), (5, aD (.slice .bool) r1.1), (6, aI r1.2), (7, aI r3)]) (L' := []) (obs := []) rfl (by kernel_rfl) allP0 ?_
  refine WO_fin [0, 1, 5, 6, 7] [] (fr' := [(0, aI a0), (1, aD (.slice .bool) a1), (5, aD (.slice .bool) r1.1), (6, aI r1.2), (7, aI r3)]) (L' := []) (by kernel_rfl) (by kernel_rfl) ?_
  refine seqQ_norm ?_
  refine W_seq (by kernel_rfl) ?_
  refine W_run 3 [] [0, 1, 5, 6, 7, 8] [] (fr' := [(0, aI a0), (1, aD (.slice .bool) a1), (5, aD (.slice .bool) r1.1), (6, aI r1.2), (7, aI r3), (8, aI (List.length a1 : Int))]) (L' := []) (obs := []) (by kernel_rfl) (by kernel_rfl) (by kernel_rfl) allP0 ?_
  refine seqQ_norm ?_
  refine W_seq (by kernel_rfl) ?_
  obtain ⟨v41, h42, h⟩ := bind_of h
  refine W_cutK (Q' := (exQ .normal (law_CellSteps_s9 a0 a1 r1)) v41) ?_ ?_
  · replace h := h42
    refine W_seq (by kernel_rfl) ?_
    obtain ⟨v38, h39, h⟩ := bind_of h
    refine W_cutK (Q' := (exQ .normal (law_CellSteps_s3 a0 a1 r1 r3)) v38) ?_ ?_
    · replace h := h39
      refine W_region (by kernel_rfl) ?_
      refine WO_run (j := 3) (k := 3) (orcs := []) (kF := [0, 1, 5, 6, 7, 8, 22]) (kL := []) (fr' := [(0, aI a0), (1, aD (.slice .bool) a1), (5, aD (.slice .bool) r1.1), (6, aI r1.2), (7, aI r3), (8, aI (List.length a1 : Int)), (22, aB (r3 == (0 : Int)))]) (L' := []) (obs := []) rfl (by kernel_rfl) allP0 ?_
      rcases Bool.eq_false_or_eq_true (r3 == (0 : Int)) with h35 | h35
      · replace h := ofT h35 h
        refine WO_run (j := 4) (k := 1) (orcs := [(6, .known true)]) (kF := [0, 1, 5, 6, 7, 8, 22, 23]) (kL := []) (fr' := [(0, aI a0), (1, aD (.slice .bool) a1), (5, aD (.slice .bool) r1.1), (6, aI r1.2), (7, aI r3), (8, aI (List.length a1 : Int)), (22, aB (r3 == (0 : Int))), (23, aI (List.length a1 : Int))]) (L' := []) (obs := [((r3 == (0 : Int)) = true)]) rfl (by kernel_rfl) (allP1 h35) ?_
        obtain ⟨r36, h37, h⟩ := bind_of h
        refine WO_call0 (us := [none, none, none]) (d := 24) (p := ((r3 == (0 : Int)) = true)) (j := 5) rfl ⟨by kernel_rfl, by kernel_rfl, by kernel_rfl⟩ h35 (ref_Within_ok h37) (by kernel_rfl) ?_
        refine WO_run (j := 7) (k := 2) (orcs := [(10, .known true), (13, .val (.dat .bool true))]) (kF := [0, 1, 5, 6, 7, 8, 26]) (kL := []) (fr' := [(0, aI a0), (1, aD (.slice .bool) a1), (5, aD (.slice .bool) r1.1), (6, aI r1.2), (7, aI r3), (8, aI (List.length a1 : Int)), (26, aB (!r36))]) (L' := []) (obs := [((r3 == (0 : Int)) = true), ((r3 == (0 : Int)) = true)]) rfl (by kernel_rfl) (allP2 h35 (allP1 h35)) ?_
        obtain rfl := Option.some.inj h
        refine WO_fin [0, 1, 5, 6, 7, 8, 26] [] (fr' := [(0, aI a0), (1, aD (.slice .bool) a1), (5, aD (.slice .bool) r1.1), (6, aI r1.2), (7, aI r3), (8, aI (List.length a1 : Int)), (26, aB (!r36))]) (L' := []) (by kernel_rfl) (by kernel_rfl) ?_
        exact exQ_mk (by kernel_rfl) (by kernel_rfl)
      · replace h := ofF h35 h
        refine WO_run (j := 7) (k := 4) (orcs := [(6, .known false), (8, .known false), (10, .known false), (13, .val (.dat .bool false))]) (kF := [0, 1, 5, 6, 7, 8, 26]) (kL := []) (fr' := [(0, aI a0), (1, aD (.slice .bool) a1), (5, aD (.slice .bool) r1.1), (6, aI r1.2), (7, aI r3), (8, aI (List.length a1 : Int)), (26, aB false)]) (L' := []) (obs := [((r3 == (0 : Int)) = false), ((r3 == (0 : Int)) = false), ((r3 == (0 : Int)) = false), ((r3 == (0 : Int)) = false)]) rfl (by kernel_rfl) (allP2 h35 (allP2 h35 (allP2 h35 (allP1 h35)))) ?_
        obtain rfl := Option.some.inj h
        refine WO_fin [0, 1, 5, 6, 7, 8, 26] [] (fr' := [(0, aI a0), (1, aD (.slice .bool) a1), (5, aD (.slice .bool) r1.1), (6, aI r1.2), (7, aI r3), (8, aI (List.length a1 : Int)), (26, aB false)]) (L' := []) (by kernel_rfl) (by kernel_rfl) ?_
        exact exQ_mk (by kernel_rfl) (by kernel_rfl)
    · intro e fr L hJ
      obtain ⟨rfl, rfl, rfl⟩ := hJ
      refine LT_keep [0, 1, 5, 6, 7, 8, 26] [] (fr' := [(0, aI a0), (1, aD (.slice .bool) a1), (5, aD (.slice .bool) r1.1), (6, aI r1.2), (7, aI r3), (8, aI (List.length a1 : Int)), (26, aB v38)]) (L' := []) (by kernel_rfl) ?_
      refine seqQ_norm ?_
      refine W_cond (o := .tmp 26) (b := v38) (by kernel_rfl) (by kernel_rfl) (fun h40 => ?_) (fun h40 => ?_)
      · replace h := ofT h40 h
        obtain rfl := Option.some.inj h
        refine W_run 1 [] [0, 1, 5, 6, 7, 8] [] (fr' := [(0, aI a0), (1, aD (.slice .bool) a1), (5, aD (.slice .bool) r1.1), (6, aI r1.2), (7, aI (1 : Int)), (8, aI (List.length a1 : Int))]) (L' := []) (obs := []) (by kernel_rfl) (by kernel_rfl) (by kernel_rfl) allP0 ?_
        exact exQ_mk (by kernel_rfl) (by kernel_rfl)
      · replace h := ofF h40 h
        obtain rfl := Option.some.inj h
        refine W_skip [0, 1, 5, 6, 7, 8] [] (fr' := [(0, aI a0), (1, aD (.slice .bool) a1), (5, aD (.slice .bool) r1.1), (6, aI r1.2), (7, aI r3), (8, aI (List.length a1 : Int))]) (L' := []) (by kernel_rfl) (by kernel_rfl) ?_
        exact exQ_mk (by kernel_rfl) (by kernel_rfl)
  · intro e fr L hJ
    obtain ⟨rfl, rfl, rfl⟩ := hJ
    refine LT_keep [0, 1, 5, 6, 7, 8] [] (fr' := [(0, aI a0), (1, aD (.slice .bool) a1), (5, aD (.slice .bool) r1.1), (6, aI r1.2), (7, aI v41), (8, aI (List.length a1 : Int))]) (L' := []) (by kernel_rfl) ?_
    refine seqQ_norm ?_
    refine W_seq (by kernel_rfl) ?_
    refine W_seq (by kernel_rfl) ?_
    refine W_run 2 [] [0, 1, 5, 6, 7, 8, 28] [] (fr' := [(0, aI a0), (1, aD (.slice .bool) a1), (5, aD (.slice .bool) r1.1), (6, aI r1.2), (7, aI v41), (8, aI (List.length a1 : Int)), (28, aB (v41 != (0 : Int)))]) (L' := []) (obs := []) (by kernel_rfl) (by kernel_rfl) (by kernel_rfl) allP0 ?_
    refine seqQ_norm ?_
    refine W_cond (o := .tmp 28) (b := v41 != (0 : Int)) (by kernel_rfl) (by kernel_rfl) (fun h43 => ?_) (fun h43 => ?_)
    · replace h := ofT h43 h
      refine W_seq (by kernel_rfl) ?_
      refine W_run 9 [] [4] [] (fr' := [(4, aB ((r1.2 == v41) && ((List.length r1.1 : Int) == (0 : Int))))]) (L' := []) (obs := []) (by kernel_rfl) (by kernel_rfl) (by kernel_rfl) allP0 ?_
      refine seqQ_norm ?_
      obtain rfl := Option.some.inj h
      refine W_ret [4] [] (fr' := [(4, aB ((r1.2 == v41) && ((List.length r1.1 : Int) == (0 : Int))))]) (L' := []) (by kernel_rfl) (by kernel_rfl) ?_
      refine seqQ_ret ?_
      exact retQ_mk (by kernel_rfl) (by kernel_rfl) (by kernel_rfl)
    · replace h := ofF h43 h
      refine W_skip [0, 1, 5, 6, 8] [] (fr' := [(0, aI a0), (1, aD (.slice .bool) a1), (5, aD (.slice .bool) r1.1), (6, aI r1.2), (8, aI (List.length a1 : Int))]) (L' := []) (by kernel_rfl) (by kernel_rfl) ?_
      refine seqQ_norm ?_
      refine W_seq (by kernel_rfl) ?_
      refine W_seq (by kernel_rfl) ?_
      refine W_run 8 [] [0, 1, 5, 8, 44] [] (fr' := [(0, aI a0), (1, aD (.slice .bool) a1), (5, aD (.slice .bool) r1.1), (8, aI (List.length a1 : Int)), (44, aB ((r1.2 != (0 : Int)) || ((List.length r1.1 : Int) != (List.length a1 : Int))))]) (L' := []) (obs := []) (by kernel_rfl) (by kernel_rfl) (by kernel_rfl) allP0 ?_
      refine seqQ_norm ?_
      refine W_cond (o := .tmp 44) (b := (r1.2 != (0 : Int)) || ((List.length r1.1 : Int) != (List.length a1 : Int))) (by kernel_rfl) (by kernel_rfl) (fun h44 => ?_) (fun h44 => ?_)
      · replace h := ofT h44 h
        refine W_seq (by kernel_rfl) ?_
        refine W_run 1 [] [4] [] (fr' := [(4, aB false)]) (L' := []) (obs := []) (by kernel_rfl) (by kernel_rfl) (by kernel_rfl) allP0 ?_
        refine seqQ_norm ?_
        obtain rfl := Option.some.inj h
        refine W_ret [4] [] (fr' := [(4, aB false)]) (L' := []) (by kernel_rfl) (by kernel_rfl) ?_
        refine seqQ_ret ?_
        exact retQ_mk (by kernel_rfl) (by kernel_rfl) (by kernel_rfl)
      · replace h := ofF h44 h
        refine W_skip [0, 1, 5, 8] [] (fr' := [(0, aI a0), (1, aD (.slice .bool) a1), (5, aD (.slice .bool) r1.1), (8, aI (List.length a1 : Int))]) (L' := []) (by kernel_rfl) (by kernel_rfl) ?_
        refine seqQ_norm ?_
        refine W_seq (by kernel_rfl) ?_
        refine W_seq (by kernel_rfl) ?_
        refine W_run 1 [] [0, 1, 5, 8, 9] [] (fr' := [(0, aI a0), (1, aD (.slice .bool) a1), (5, aD (.slice .bool) r1.1), (8, aI (List.length a1 : Int)), (9, aI (0 : Int))]) (L' := []) (obs := []) (by kernel_rfl) (by kernel_rfl) (by kernel_rfl) allP0 ?_
        refine seqQ_norm ?_
        refine W_block (id := 0) (by kernel_rfl) ?_
        obtain ⟨v90, h91, h⟩ := bind_of h
        refine W_len (t := 1) (u := .bool) (xs := a1) (by kernel_rfl) (fun h94 => ?_)
        obtain ⟨h92, h93⟩ := forL_iter h94 h91
        refine W_weaken [0, 1, 5, 8, 9] [] (fr' := ((law_CellSteps_s6 a0 a1 r1) ((0 : Int), ())).1) (L' := ((law_CellSteps_s6 a0 a1 r1) ((0 : Int), ())).2) (by kernel_rfl) ?_
        refine W_cutK (W_loop (S := (law_CellSteps_s6 a0 a1 r1)) (J := (escQ (exQ .ret law_CellSteps_s7) (exQ (.exit 0) law_CellSteps_s8))) (by kernel_rfl) ?_ h92 _ v90 h93) ?_
        · rintro ⟨i73, x74⟩ s h
          refine W_seq (by kernel_rfl) ?_
          refine W_seq (by kernel_rfl) ?_
          refine W_run 3 [] [0, 1, 5, 8, 9, 47] [] (fr' := [(0, aI a0), (1, aD (.slice .bool) a1), (5, aD (.slice .bool) r1.1), (8, aI (List.length a1 : Int)), (9, aI i73), (47, aB (decide (i73 < (List.length a1 : Int))))]) (L' := []) (obs := []) (by kernel_rfl) (by kernel_rfl) (by kernel_rfl) allP0 ?_
          refine seqQ_norm ?_
          refine W_cond (o := .tmp 47) (b := decide (i73 < (List.length a1 : Int))) (by kernel_rfl) (by kernel_rfl) (fun h78 => ?_) (fun h78 => ?_)
          · replace h := stepL_true h78 h
            obtain ⟨v76, _, h77, h, rfl⟩ := h
            refine W_skip [0, 1, 5, 8, 9] [] (fr' := [(0, aI a0), (1, aD (.slice .bool) a1), (5, aD (.slice .bool) r1.1), (8, aI (List.length a1 : Int)), (9, aI i73)]) (L' := []) (by kernel_rfl) (by kernel_rfl) ?_
            refine seqQ_norm ?_
            refine W_seq (by kernel_rfl) ?_
            refine W_block (id := 1) (by kernel_rfl) ?_
            refine W_seq (by kernel_rfl) ?_
            obtain ⟨v79, h80, h⟩ := bind_of h
            obtain ⟨_, h81, h⟩ := bind_of h
            replace h81 := ck_some h81
            obtain ⟨v82, h83, h⟩ := bind_of h
            obtain ⟨v84, h85, h⟩ := bind_of h
            obtain ⟨r86, h87, h⟩ := bind_of h
            refine W_draw2 27 [(5, .val (.dat .bool v79)), (25, .val (.dat .bool v82)), (33, .val (.dat .bool v76)), (47, .val (.dat .bool v84))] [(25, [none, none, none, none], aB r86)] [0, 1, 5, 8, 9, 76] [] (fr' := [(0, aI a0), (1, aD (.slice .bool) a1), (5, aD (.slice .bool) r1.1), (8, aI (List.length a1 : Int)), (9, aI i73), (76, aB (!(v79 == r86)))]) (L' := []) (out := [(50, aD (.slice .bool) r1.1), (51, aI i73), (52, .one (.dptr .bool v79)), (53, aB v79), (54, aI a0), (55, aD (.slice .bool) a1), (56, aI i73), (57, aI (List.length a1 : Int)), (58, aI (w64 (i73 + (List.length a1 : Int)))), (59, aI (w64 ((w64 (i73 + (List.length a1 : Int))) - (1 : Int)))), (60, aI (List.length a1 : Int)), (61, aI (Int.tmod (w64 ((w64 (i73 + (List.length a1 : Int))) - (1 : Int))) (List.length a1 : Int))), (62, .one (.dptr .bool v82)), (63, aB v82), (64, aD (.slice .bool) a1), (65, aI i73), (66, .one (.dptr .bool v76)), (67, aB v76), (68, aD (.slice .bool) a1), (69, aI i73), (70, aI (w64 (i73 + (1 : Int)))), (71, aI (List.length a1 : Int)), (72, aI (Int.tmod (w64 (i73 + (1 : Int))) (List.length a1 : Int))), (73, .one (.dptr .bool v84)), (74, aB v84), (75, aB r86), (76, aB (!(v79 == r86)))]) (obs := [Idx r1.1 i73 v79, ((List.length a1 : Int) ≠ 0), Idx a1 (Int.tmod (w64 ((w64 (i73 + (List.length a1 : Int))) - (1 : Int))) (List.length a1 : Int)) v82, Idx a1 i73 v76, ((List.length a1 : Int) ≠ 0), Idx a1 (Int.tmod (w64 (i73 + (1 : Int))) (List.length a1 : Int)) v84, True]) (obs2 := []) (calls := [(32, [aI a0, aB v82, aB v76, aB v84], aB r86)]) (by kernel_rfl) (by kernel_rfl) (by kernel_rfl) (by kernel_rfl) (allP2 (Idx.of h80) (allP2 h81 (allP2 (Idx.of h83) (allP2 (Idx.of h77) (allP2 h81 (allP2 (Idx.of h85) (allP1 trivial))))))) (allC1 (by kernel_rfl) (ref_Truth_ok h87) (by kernel_rfl) allC0) (by kernel_rfl) allP0 ?_
            refine seqQ_norm ?_
            refine W_cond (o := .tmp 76) (b := !(v79 == r86)) (by kernel_rfl) (by kernel_rfl) (fun h88 => ?_) (fun h88 => ?_)
            · replace h := ofT h88 h
              refine W_seq (by kernel_rfl) ?_
              refine W_run 1 [] [4] [] (fr' := [(4, aB false)]) (L' := []) (obs := []) (by kernel_rfl) (by kernel_rfl) (by kernel_rfl) allP0 ?_
              refine seqQ_norm ?_
              obtain rfl := Option.some.inj h
              refine W_ret [4] [] (fr' := [(4, aB false)]) (L' := []) (by kernel_rfl) (by kernel_rfl) ?_
              refine blockQ_ret ?_
              refine seqQ_ret ?_
              refine round_ret ?_
              refine escQ_ret ?_
              exact exQ_mk (by kernel_rfl) (by kernel_rfl)
            · replace h := ofF h88 h
              refine W_skip [0, 1, 5, 8, 9] [] (fr' := [(0, aI a0), (1, aD (.slice .bool) a1), (5, aD (.slice .bool) r1.1), (8, aI (List.length a1 : Int)), (9, aI i73)]) (L' := []) (by kernel_rfl) (by kernel_rfl) ?_
              refine blockQ_norm ?_
              refine seqQ_norm ?_
              obtain rfl := Option.some.inj h
              refine W_run 3 [] [0, 1, 5, 8, 9] [] (fr' := [(0, aI a0), (1, aD (.slice .bool) a1), (5, aD (.slice .bool) r1.1), (8, aI (List.length a1 : Int)), (9, aI (w64 (i73 + (1 : Int))))]) (L' := []) (obs := []) (by kernel_rfl) (by kernel_rfl) (by kernel_rfl) allP0 ?_
              exact round_next' (by kernel_rfl) (by kernel_rfl)
          · obtain rfl := stepL_false h78 h
            refine W_exit (id := 0) [] [] (fr' := []) (L' := []) (by kernel_rfl) (by kernel_rfl) ?_
            refine seqQ_exit ?_
            refine round_exit ?_
            refine escQ_brk ?_
            exact exQ_mk (by kernel_rfl) (by kernel_rfl)
        · intro e fr L hJ
          rcases v90 with v95 | v96
          · obtain ⟨rfl, rfl, rfl⟩ := hJ
            obtain rfl := Option.some.inj h
            refine LT_keep [4] [] (fr' := [(4, aB v95)]) (L' := []) (by kernel_rfl) ?_
            refine blockQ_ret ?_
            refine seqQ_ret ?_
            exact retQ_mk (by kernel_rfl) (by kernel_rfl) (by kernel_rfl)
          · obtain ⟨rfl, rfl, rfl⟩ := hJ
            refine LT_keep [] [] (fr' := []) (L' := []) (by kernel_rfl) ?_
            refine blockQ_hit ?_
            refine seqQ_norm ?_
            refine W_seq (by kernel_rfl) ?_
            refine W_run 1 [] [4] [] (fr' := [(4, aB true)]) (L' := []) (obs := []) (by kernel_rfl) (by kernel_rfl) (by kernel_rfl) allP0 ?_
            refine seqQ_norm ?_
            obtain rfl := Option.some.inj h
            refine W_ret [4] [] (fr' := [(4, aB true)]) (L' := []) (by kernel_rfl) (by kernel_rfl) ?_
            exact retQ_mk (by kernel_rfl) (by kernel_rfl) (by kernel_rfl)
end Go.Proofs.Ytmongadolmofnaa.cellSteps
