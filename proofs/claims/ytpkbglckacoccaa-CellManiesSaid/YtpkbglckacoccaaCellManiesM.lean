/- What the functions that CellManies calls compute, as models, and that they compute it: written by a program of mine. -/
import Derived.Test.YtpkbglckacoccaaProg
import Derived.Test.YtpkbglckacoccaaSl4
set_option linter.all false
set_option maxRecDepth 100000
namespace Go.Proofs.Ytpkbglckacoccaa.cellManies
open Go Go.Sl
def cell_wrong (a0 : Int) : Option Bool :=
some ((decide (a0 < (0 : Int))) || (decide (a0 > (255 : Int))))
theorem cell_wrong_ok {a0 : Int} {r : Bool} (h : cell_wrong a0 = some r) : FnC Try.prog 48 [aI a0] [] (aB r) [] := by
  refine fnC_of_W (B := bodyOf Try.f48) (n := 9) Try.func48 (by kernel_rfl) (by kernel_rfl) (by kernel_rfl) (by kernel_rfl) (by kernel_rfl) ?_
  intro K
  refine W_seq (by kernel_rfl) ?_
  refine W_run 1 [] [0] [] (fr' := [(0, aI a0)]) (L' := []) (obs := []) (by kernel_rfl) (by kernel_rfl) (by kernel_rfl) allP0 ?_
  refine seqQ_norm ?_
  refine W_seq (by kernel_rfl) ?_
  refine W_run 7 [] [2] [] (fr' := [(2, aB ((decide (a0 < (0 : Int))) || (decide (a0 > (255 : Int)))))]) (L' := []) (obs := []) (by kernel_rfl) (by kernel_rfl) (by kernel_rfl) allP0 ?_
  refine seqQ_norm ?_
  obtain rfl := Option.some.inj h
  refine W_ret [2] [] (fr' := [(2, aB ((decide (a0 < (0 : Int))) || (decide (a0 > (255 : Int)))))]) (L' := []) (by kernel_rfl) (by kernel_rfl) ?_
  exact retQ_mk (by kernel_rfl) (by kernel_rfl) (by kernel_rfl)

def cell_bit (a0 : Bool) : Option Int :=
bif a0 then
(some (1 : Int))
else
(some (0 : Int))
theorem cell_bit_ok {a0 : Bool} {r : Int} (h : cell_bit a0 = some r) : FnC Try.prog 49 [aB a0] [] (aI r) [] := by
  refine fnC_of_W (B := bodyOf Try.f49) (n := 4) Try.func49 (by kernel_rfl) (by kernel_rfl) (by kernel_rfl) (by kernel_rfl) (by kernel_rfl) ?_
  intro K
  refine W_seq (by kernel_rfl) ?_
  refine W_run 1 [] [0] [] (fr' := [(0, aB a0)]) (L' := []) (obs := []) (by kernel_rfl) (by kernel_rfl) (by kernel_rfl) allP0 ?_
  refine seqQ_norm ?_
  refine W_seq (by kernel_rfl) ?_
  refine W_seq (by kernel_rfl) ?_
  refine W_run 1 [] [3] [] (fr' := [(3, aB a0)]) (L' := []) (obs := []) (by kernel_rfl) (by kernel_rfl) (by kernel_rfl) allP0 ?_
  refine seqQ_norm ?_
  refine W_cond (o := .tmp 3) (b := a0) (by kernel_rfl) (by kernel_rfl) (fun h1 => ?_) (fun h1 => ?_)
  · replace h := ofT h1 h
    refine W_seq (by kernel_rfl) ?_
    refine W_run 1 [] [2] [] (fr' := [(2, aI (1 : Int))]) (L' := []) (obs := []) (by kernel_rfl) (by kernel_rfl) (by kernel_rfl) allP0 ?_
    refine seqQ_norm ?_
    obtain rfl := Option.some.inj h
    refine W_ret [2] [] (fr' := [(2, aI (1 : Int))]) (L' := []) (by kernel_rfl) (by kernel_rfl) ?_
    refine seqQ_ret ?_
    exact retQ_mk (by kernel_rfl) (by kernel_rfl) (by kernel_rfl)
  · replace h := ofF h1 h
    refine W_skip [] [] (fr' := []) (L' := []) (by kernel_rfl) (by kernel_rfl) ?_
    refine seqQ_norm ?_
    refine W_seq (by kernel_rfl) ?_
    refine W_run 1 [] [2] [] (fr' := [(2, aI (0 : Int))]) (L' := []) (obs := []) (by kernel_rfl) (by kernel_rfl) (by kernel_rfl) allP0 ?_
    refine seqQ_norm ?_
    obtain rfl := Option.some.inj h
    refine W_ret [2] [] (fr' := [(2, aI (0 : Int))]) (L' := []) (by kernel_rfl) (by kernel_rfl) ?_
    exact retQ_mk (by kernel_rfl) (by kernel_rfl) (by kernel_rfl)

def cell_Many_g83 (a0 : Int) (v538 : Bool) (i710 : Int) (v714 : Int) (i766 : Int) (x767 : (List Int)) : Option (List Int) :=
(ck (0 ≤ w64 ((w64 ((2 : Int) * i710)) + i766))).bind fun _ =>
(cell_bit v538).bind fun r785 =>
bif (bAnd .i64 (bShr .i64 a0 (w64 ((w64 ((2 : Int) * i710)) + i766))) (1 : Int)) == r785 then
((ck (0 ≤ bAnd .i64 (w64 ((w64 ((2 : Int) * i710)) + i766)) (3 : Int) ∧ bAnd .i64 (w64 ((w64 ((2 : Int) * i710)) + i766)) (3 : Int) < 4)).bind fun _ =>
(idx x767 (bAnd .i64 (w64 ((w64 ((2 : Int) * i710)) + i766)) (3 : Int))).bind fun v789 =>
some (List.set x767 (Int.toNat (bAnd .i64 (w64 ((w64 ((2 : Int) * i710)) + i766)) (3 : Int))) (w64 (v789 + v714))))
else
(some x767)
@[reducible] def cell_Many_s84 (a0 : Int) (a1 : (List Bool)) (i535 : Int) (x536 : (List Int)) (v538 : Bool) (i710 : Int) (v714 : Int) (i766 : Int) (v : (List Int)) : Fr × LL := ([(0, aI a0), (6, .one (.ptr 6 0)), (8, aB v538), (9, .one (.ptr 9 0)), (10, aI i710), (11, aI v714), (20, aD (.slice .bool) a1), (21, aI (List.length a1 : Int)), (22, aI i535), (26, aD (.arr 4 tI) x536), (27, aI i710), (31, aI i766)], [(6, .one (.arr 4 tI) x536), (9, .one (.arr 4 tI) v)])
def cell_Many_b85 (a0 : Int) (v538 : Bool) (i710 : Int) (v714 : Int) (i766 : Int) (x767 : (List Int)) : Option (Flow (List Int) (List Int)) :=
(cell_Many_g83 a0 v538 i710 v714 i766 x767).bind fun v791 =>
some (.next v791)
@[reducible] def cell_Many_s86 (a0 : Int) (a1 : (List Bool)) (i535 : Int) (x536 : (List Int)) (v538 : Bool) (i710 : Int) (v714 : Int) (v : Int × (List Int)) : Fr × LL := ([(0, aI a0), (6, .one (.ptr 6 0)), (8, aB v538), (9, .one (.ptr 9 0)), (10, aI i710), (11, aI v714), (20, aD (.slice .bool) a1), (21, aI (List.length a1 : Int)), (22, aI i535), (26, aD (.arr 4 tI) x536), (27, aI i710), (31, aI v.1)], [(6, .one (.arr 4 tI) x536), (9, .one (.arr 4 tI) v.2)])
@[reducible] def cell_Many_s87 (a0 : Int) (a1 : (List Bool)) (i535 : Int) (x536 : (List Int)) (v538 : Bool) (i710 : Int) (v : (List Int)) : Fr × LL := ([(0, aI a0), (6, .one (.ptr 6 0)), (8, aB v538), (9, .one (.ptr 9 0)), (20, aD (.slice .bool) a1), (21, aI (List.length a1 : Int)), (22, aI i535), (26, aD (.arr 4 tI) x536), (27, aI i710)], [(6, .one (.arr 4 tI) x536), (9, .one (.arr 4 tI) v)])
def cell_Many_b88 (a0 : Int) (x536 : (List Int)) (v538 : Bool) (i710 : Int) (x711 : (List Int)) : Option (Flow (List Int) (List Int)) :=
(idx x536 i710).bind fun v714 =>
(forI (0 : Int) (2 : Int) (cell_Many_b85 a0 v538 i710 v714) (fun x767 => x767) x711).bind fun v794 =>
some (.next v794)
@[reducible] def cell_Many_s89 (a0 : Int) (a1 : (List Bool)) (i535 : Int) (x536 : (List Int)) (v538 : Bool) (v : Int × (List Int)) : Fr × LL := ([(0, aI a0), (6, .one (.ptr 6 0)), (8, aB v538), (9, .one (.ptr 9 0)), (20, aD (.slice .bool) a1), (21, aI (List.length a1 : Int)), (22, aI i535), (26, aD (.arr 4 tI) x536), (27, aI v.1)], [(6, .one (.arr 4 tI) x536), (9, .one (.arr 4 tI) v.2)])
@[reducible] def cell_Many_s90 (a0 : Int) (a1 : (List Bool)) (i535 : Int) (x536 : (List Int)) (v : (List Int)) : Fr × LL := ([(0, aI a0), (6, .one (.ptr 6 0)), (9, .one (.ptr 9 0)), (20, aD (.slice .bool) a1), (21, aI (List.length a1 : Int)), (22, aI i535)], [(6, .one (.arr 4 tI) x536), (9, .one (.arr 4 tI) v)])
def cell_Many_b91 (a0 : Int) (i535 : Int) (v538 : Bool) (x536 : (List Int)) : Option (Flow (List Int) (List Int)) :=
(forI (0 : Int) (4 : Int) (cell_Many_b88 a0 x536 v538) (fun x711 => x711) [(0 : Int), (0 : Int), (0 : Int), (0 : Int)]).bind fun v799 =>
some (.next v799)
@[reducible] def cell_Many_s92 (a0 : Int) (a1 : (List Bool)) (v : Int × (List Int)) : Fr × LL := ([(0, aI a0), (6, .one (.ptr 6 0)), (20, aD (.slice .bool) a1), (21, aI (List.length a1 : Int)), (22, aI v.1)], [(6, .one (.arr 4 tI) v.2)])
@[reducible] def cell_Many_s93 (v : (List Int)) : Fr × LL := ([(6, .one (.ptr 6 0))], [(6, .one (.arr 4 tI) v)])
def cell_Many (a0 : Int) (a1 : (List Bool)) : Option (Int × Int) :=
(cell_wrong a0).bind fun r1 =>
bif r1 then
(some ((0 : Int), (4 : Int)))
else
(bif decide ((List.length a1 : Int) > (12 : Int)) then
(some ((0 : Int), (1 : Int)))
else
((forL (cell_Many_b91 a0) (fun x536 => x536) a1 0 [(1 : Int), (1 : Int), (1 : Int), (1 : Int)]).bind fun v804 =>
(idx v804 (0 : Int)).bind fun v809 =>
(idx v804 (1 : Int)).bind fun v811 =>
(idx v804 (2 : Int)).bind fun v813 =>
(idx v804 (3 : Int)).bind fun v815 =>
some (w64 ((w64 ((w64 (v809 + v811)) + v813)) + v815), (0 : Int))))
theorem cell_Many_ok {a0 : Int} {a1 : (List Bool)} {r : (Int × Int)} (h : cell_Many a0 a1 = some r) : FnC Try.prog 15 [aI a0, aD (.slice .bool) a1] [] (.tup [.dat tI r.1, .dat tI r.2]) [] := by
  refine fnC_of_W (B := bodyOf Try.f15) (n := 67) Try.func15 (by kernel_rfl) (by kernel_rfl) (by kernel_rfl) (by kernel_rfl) (by kernel_rfl) ?_
  intro K
  refine W_seq (by kernel_rfl) ?_
  refine W_run 2 [] [0, 1] [] (fr' := [(0, aI a0), (1, aD (.slice .bool) a1)]) (L' := []) (obs := []) (by kernel_rfl) (by kernel_rfl) (by kernel_rfl) allP0 ?_
  refine seqQ_norm ?_
  refine W_seq (by kernel_rfl) ?_
  refine W_seq (by kernel_rfl) ?_
  refine W_region (by kernel_rfl) ?_
  refine WO_run (j := 1) (k := 1) (orcs := []) (kF := [0, 1, 14]) (kL := []) (fr' := [(0, aI a0), (1, aD (.slice .bool) a1), (14, aI a0)]) (L' := []) (obs := []) rfl (by kernel_rfl) allP0 ?_
  obtain ⟨r1, h2, h⟩ := bind_of h
  refine WO_call0 (us := [none]) (d := 15) (p := True) (j := 2) rfl ⟨by kernel_rfl, by kernel_rfl, by kernel_rfl⟩ trivial (cell_wrong_ok h2) (by kernel_rfl) ?_
  refine WO_fin [0, 1, 15] [] (fr' := [(0, aI a0), (1, aD (.slice .bool) a1), (15, aB r1)]) (L' := []) (by kernel_rfl) (by kernel_rfl) ?_
  refine seqQ_norm ?_
  refine W_cond (o := .tmp 15) (b := r1) (by kernel_rfl) (by kernel_rfl) (fun h3 => ?_) (fun h3 => ?_)
  · replace h := ofT h3 h
    refine W_seq (by kernel_rfl) ?_
    refine W_run 2 [] [4, 5] [] (fr' := [(4, aI (0 : Int)), (5, aI (4 : Int))]) (L' := []) (obs := []) (by kernel_rfl) (by kernel_rfl) (by kernel_rfl) allP0 ?_
    refine seqQ_norm ?_
    obtain rfl := Option.some.inj h
    refine W_ret [4, 5] [] (fr' := [(4, aI (0 : Int)), (5, aI (4 : Int))]) (L' := []) (by kernel_rfl) (by kernel_rfl) ?_
    refine seqQ_ret ?_
    exact retQ_mk (by kernel_rfl) (by kernel_rfl) (by kernel_rfl)
  · replace h := ofF h3 h
    refine W_skip [0, 1] [] (fr' := [(0, aI a0), (1, aD (.slice .bool) a1)]) (L' := []) (by kernel_rfl) (by kernel_rfl) ?_
    refine seqQ_norm ?_
    refine W_seq (by kernel_rfl) ?_
    refine W_seq (by kernel_rfl) ?_
    refine W_run 3 [] [0, 1, 18] [] (fr' := [(0, aI a0), (1, aD (.slice .bool) a1), (18, aB (decide ((List.length a1 : Int) > (12 : Int))))]) (L' := []) (obs := []) (by kernel_rfl) (by kernel_rfl) (by kernel_rfl) allP0 ?_
    refine seqQ_norm ?_
    refine W_cond (o := .tmp 18) (b := decide ((List.length a1 : Int) > (12 : Int))) (by kernel_rfl) (by kernel_rfl) (fun h4 => ?_) (fun h4 => ?_)
    · replace h := ofT h4 h
      refine W_seq (by kernel_rfl) ?_
      refine W_run 2 [] [4, 5] [] (fr' := [(4, aI (0 : Int)), (5, aI (1 : Int))]) (L' := []) (obs := []) (by kernel_rfl) (by kernel_rfl) (by kernel_rfl) allP0 ?_
      refine seqQ_norm ?_
      obtain rfl := Option.some.inj h
      refine W_ret [4, 5] [] (fr' := [(4, aI (0 : Int)), (5, aI (1 : Int))]) (L' := []) (by kernel_rfl) (by kernel_rfl) ?_
      refine seqQ_ret ?_
      exact retQ_mk (by kernel_rfl) (by kernel_rfl) (by kernel_rfl)
    · replace h := ofF h4 h
      refine W_skip [0, 1] [] (fr' := [(0, aI a0), (1, aD (.slice .bool) a1)]) (L' := []) (by kernel_rfl) (by kernel_rfl) ?_
      refine seqQ_norm ?_
      refine W_seq (by kernel_rfl) ?_
      refine W_run 3 [(3, .typed)] [0, 1, 6] [6] (fr' := [(0, aI a0), (1, aD (.slice .bool) a1), (6, .one (.ptr 6 0))]) (L' := [(6, .one (.arr 4 tI) [(1 : Int), (1 : Int), (1 : Int), (1 : Int)])]) (obs := [True]) (by kernel_rfl) (by kernel_rfl) (by kernel_rfl) (allP1 trivial) ?_
      refine seqQ_norm ?_
      refine W_seq (by kernel_rfl) ?_
      refine W_seq (by kernel_rfl) ?_
      refine W_run 3 [] [0, 6, 20, 21, 22] [6] (fr' := [(0, aI a0), (6, .one (.ptr 6 0)), (20, aD (.slice .bool) a1), (21, aI (List.length a1 : Int)), (22, aI (0 : Int))]) (L' := [(6, .one (.arr 4 tI) [(1 : Int), (1 : Int), (1 : Int), (1 : Int)])]) (obs := []) (by kernel_rfl) (by kernel_rfl) (by kernel_rfl) allP0 ?_
      refine seqQ_norm ?_
      refine W_block (id := 0) (by kernel_rfl) ?_
      obtain ⟨v804, h805, h⟩ := bind_of h
      refine W_len (t := 20) (u := .bool) (xs := a1) (by kernel_rfl) (fun h808 => ?_)
      obtain ⟨h806, h807⟩ := forL_iter h808 h805
      refine W_weaken [0, 6, 20, 21, 22] [6] (fr' := ((cell_Many_s92 a0 a1) ((0 : Int), [(1 : Int), (1 : Int), (1 : Int), (1 : Int)])).1) (L' := ((cell_Many_s92 a0 a1) ((0 : Int), [(1 : Int), (1 : Int), (1 : Int), (1 : Int)])).2) (by kernel_rfl) ?_
      refine W_cutK (W_loop (S := (cell_Many_s92 a0 a1)) (J := (exQ (.exit 0) cell_Many_s93)) (by kernel_rfl) ?_ h806 _ v804 h807) ?_
      · rintro ⟨i535, x536⟩ s h
        refine W_seq (by kernel_rfl) ?_
        refine W_run 1 [] [0, 6, 20, 21, 22, 23] [6] (fr' := [(0, aI a0), (6, .one (.ptr 6 0)), (20, aD (.slice .bool) a1), (21, aI (List.length a1 : Int)), (22, aI i535), (23, aB (decide (i535 < (List.length a1 : Int))))]) (L' := [(6, .one (.arr 4 tI) x536)]) (obs := []) (by kernel_rfl) (by kernel_rfl) (by kernel_rfl) allP0 ?_
        refine seqQ_norm ?_
        refine W_seq (by kernel_rfl) ?_
        refine W_cond (o := .tmp 23) (b := decide (i535 < (List.length a1 : Int))) (by kernel_rfl) (by kernel_rfl) (fun h540 => ?_) (fun h540 => ?_)
        · replace h := stepL_true h540 h
          obtain ⟨v538, _, h539, h, rfl⟩ := h
          refine W_skip [0, 6, 20, 21, 22] [6] (fr' := [(0, aI a0), (6, .one (.ptr 6 0)), (20, aD (.slice .bool) a1), (21, aI (List.length a1 : Int)), (22, aI i535)]) (L' := [(6, .one (.arr 4 tI) x536)]) (by kernel_rfl) (by kernel_rfl) ?_
          refine seqQ_norm ?_
          refine W_seq (by kernel_rfl) ?_
          refine W_block (id := 1) (by kernel_rfl) ?_
          refine W_seq (by kernel_rfl) ?_
          refine W_run 3 [(1, .val (.dat .bool v538))] [0, 6, 8, 20, 21, 22] [6] (fr' := [(0, aI a0), (6, .one (.ptr 6 0)), (8, aB v538), (20, aD (.slice .bool) a1), (21, aI (List.length a1 : Int)), (22, aI i535)]) (L' := [(6, .one (.arr 4 tI) x536)]) (obs := [Idx a1 i535 v538]) (by kernel_rfl) (by kernel_rfl) (by kernel_rfl) (allP1 (Idx.of h539)) ?_
          refine seqQ_norm ?_
          refine W_seq (by kernel_rfl) ?_
          refine W_run 1 [(1, .typed)] [0, 6, 8, 9, 20, 21, 22] [6, 9] (fr' := [(0, aI a0), (6, .one (.ptr 6 0)), (8, aB v538), (9, .one (.ptr 9 0)), (20, aD (.slice .bool) a1), (21, aI (List.length a1 : Int)), (22, aI i535)]) (L' := [(6, .one (.arr 4 tI) x536), (9, .one (.arr 4 tI) [(0 : Int), (0 : Int), (0 : Int), (0 : Int)])]) (obs := []) (by kernel_rfl) (by kernel_rfl) (by kernel_rfl) allP0 ?_
          refine seqQ_norm ?_
          refine W_seq (by kernel_rfl) ?_
          refine W_seq (by kernel_rfl) ?_
          refine W_run 2 [] [0, 6, 8, 9, 20, 21, 22, 26, 27] [6, 9] (fr' := [(0, aI a0), (6, .one (.ptr 6 0)), (8, aB v538), (9, .one (.ptr 9 0)), (20, aD (.slice .bool) a1), (21, aI (List.length a1 : Int)), (22, aI i535), (26, aD (.arr 4 tI) x536), (27, aI (0 : Int))]) (L' := [(6, .one (.arr 4 tI) x536), (9, .one (.arr 4 tI) [(0 : Int), (0 : Int), (0 : Int), (0 : Int)])]) (obs := []) (by kernel_rfl) (by kernel_rfl) (by kernel_rfl) allP0 ?_
          refine seqQ_norm ?_
          refine W_block (id := 2) (by kernel_rfl) ?_
          obtain ⟨v799, h800, h⟩ := bind_of h
          obtain ⟨h801, h802⟩ := forI_iter h800
          refine W_weaken [0, 6, 8, 9, 20, 21, 22, 26, 27] [6, 9] (fr' := ((cell_Many_s89 a0 a1 i535 x536 v538) ((0 : Int), [(0 : Int), (0 : Int), (0 : Int), (0 : Int)])).1) (L' := ((cell_Many_s89 a0 a1 i535 x536 v538) ((0 : Int), [(0 : Int), (0 : Int), (0 : Int), (0 : Int)])).2) (by kernel_rfl) ?_
          refine W_cutK (W_loop (S := (cell_Many_s89 a0 a1 i535 x536 v538)) (J := (exQ (.exit 2) (cell_Many_s90 a0 a1 i535 x536))) (by kernel_rfl) ?_ h801 _ v799 h802) ?_
          · rintro ⟨i710, x711⟩ s h
            refine W_seq (by kernel_rfl) ?_
            refine W_run 1 [] [0, 6, 8, 9, 20, 21, 22, 26, 27, 28] [6, 9] (fr' := [(0, aI a0), (6, .one (.ptr 6 0)), (8, aB v538), (9, .one (.ptr 9 0)), (20, aD (.slice .bool) a1), (21, aI (List.length a1 : Int)), (22, aI i535), (26, aD (.arr 4 tI) x536), (27, aI i710), (28, aB (decide (i710 < (4 : Int))))]) (L' := [(6, .one (.arr 4 tI) x536), (9, .one (.arr 4 tI) x711)]) (obs := []) (by kernel_rfl) (by kernel_rfl) (by kernel_rfl) allP0 ?_
            refine seqQ_norm ?_
            refine W_seq (by kernel_rfl) ?_
            refine W_cond (o := .tmp 28) (b := decide (i710 < (4 : Int))) (by kernel_rfl) (by kernel_rfl) (fun h713 => ?_) (fun h713 => ?_)
            · replace h := stepI_true h713 h
              obtain ⟨_, h, rfl⟩ := h
              refine W_skip [0, 6, 8, 9, 20, 21, 22, 26, 27] [6, 9] (fr' := [(0, aI a0), (6, .one (.ptr 6 0)), (8, aB v538), (9, .one (.ptr 9 0)), (20, aD (.slice .bool) a1), (21, aI (List.length a1 : Int)), (22, aI i535), (26, aD (.arr 4 tI) x536), (27, aI i710)]) (L' := [(6, .one (.arr 4 tI) x536), (9, .one (.arr 4 tI) x711)]) (by kernel_rfl) (by kernel_rfl) ?_
              refine seqQ_norm ?_
              refine W_seq (by kernel_rfl) ?_
              refine W_block (id := 3) (by kernel_rfl) ?_
              refine W_seq (by kernel_rfl) ?_
              obtain ⟨v714, h715, h⟩ := bind_of h
              refine W_run 4 [(3, .val (.dat tI v714))] [0, 6, 8, 9, 10, 11, 20, 21, 22, 26, 27] [6, 9] (fr' := [(0, aI a0), (6, .one (.ptr 6 0)), (8, aB v538), (9, .one (.ptr 9 0)), (10, aI i710), (11, aI v714), (20, aD (.slice .bool) a1), (21, aI (List.length a1 : Int)), (22, aI i535), (26, aD (.arr 4 tI) x536), (27, aI i710)]) (L' := [(6, .one (.arr 4 tI) x536), (9, .one (.arr 4 tI) x711)]) (obs := [Idx x536 i710 v714]) (by kernel_rfl) (by kernel_rfl) (by kernel_rfl) (allP1 (Idx.of h715)) ?_
              refine seqQ_norm ?_
              refine W_seq (by kernel_rfl) ?_
              refine W_run 1 [] [0, 6, 8, 9, 10, 11, 20, 21, 22, 26, 27, 31] [6, 9] (fr' := [(0, aI a0), (6, .one (.ptr 6 0)), (8, aB v538), (9, .one (.ptr 9 0)), (10, aI i710), (11, aI v714), (20, aD (.slice .bool) a1), (21, aI (List.length a1 : Int)), (22, aI i535), (26, aD (.arr 4 tI) x536), (27, aI i710), (31, aI (0 : Int))]) (L' := [(6, .one (.arr 4 tI) x536), (9, .one (.arr 4 tI) x711)]) (obs := []) (by kernel_rfl) (by kernel_rfl) (by kernel_rfl) allP0 ?_
              refine seqQ_norm ?_
              refine W_block (id := 4) (by kernel_rfl) ?_
              obtain ⟨v794, h795, h⟩ := bind_of h
              obtain ⟨h796, h797⟩ := forI_iter h795
              refine W_weaken [0, 6, 8, 9, 10, 11, 20, 21, 22, 26, 27, 31] [6, 9] (fr' := ((cell_Many_s86 a0 a1 i535 x536 v538 i710 v714) ((0 : Int), x711)).1) (L' := ((cell_Many_s86 a0 a1 i535 x536 v538 i710 v714) ((0 : Int), x711)).2) (by kernel_rfl) ?_
              refine W_cutK (W_loop (S := (cell_Many_s86 a0 a1 i535 x536 v538 i710 v714)) (J := (exQ (.exit 4) (cell_Many_s87 a0 a1 i535 x536 v538 i710))) (by kernel_rfl) ?_ h796 _ v794 h797) ?_
              · rintro ⟨i766, x767⟩ s h
                refine W_seq (by kernel_rfl) ?_
                refine W_run 1 [] [0, 6, 8, 9, 10, 11, 20, 21, 22, 26, 27, 31, 32] [6, 9] (fr' := [(0, aI a0), (6, .one (.ptr 6 0)), (8, aB v538), (9, .one (.ptr 9 0)), (10, aI i710), (11, aI v714), (20, aD (.slice .bool) a1), (21, aI (List.length a1 : Int)), (22, aI i535), (26, aD (.arr 4 tI) x536), (27, aI i710), (31, aI i766), (32, aB (decide (i766 < (2 : Int))))]) (L' := [(6, .one (.arr 4 tI) x536), (9, .one (.arr 4 tI) x767)]) (obs := []) (by kernel_rfl) (by kernel_rfl) (by kernel_rfl) allP0 ?_
                refine seqQ_norm ?_
                refine W_seq (by kernel_rfl) ?_
                refine W_cond (o := .tmp 32) (b := decide (i766 < (2 : Int))) (by kernel_rfl) (by kernel_rfl) (fun h769 => ?_) (fun h769 => ?_)
                · replace h := stepI_true h769 h
                  obtain ⟨_, h, rfl⟩ := h
                  refine W_skip [0, 6, 8, 9, 10, 11, 20, 21, 22, 26, 27, 31] [6, 9] (fr' := [(0, aI a0), (6, .one (.ptr 6 0)), (8, aB v538), (9, .one (.ptr 9 0)), (10, aI i710), (11, aI v714), (20, aD (.slice .bool) a1), (21, aI (List.length a1 : Int)), (22, aI i535), (26, aD (.arr 4 tI) x536), (27, aI i710), (31, aI i766)]) (L' := [(6, .one (.arr 4 tI) x536), (9, .one (.arr 4 tI) x767)]) (by kernel_rfl) (by kernel_rfl) ?_
                  refine seqQ_norm ?_
                  refine W_seq (by kernel_rfl) ?_
                  obtain ⟨v791, h792, h⟩ := bind_of h
                  refine W_cutK (Q' := (exQ .normal (cell_Many_s84 a0 a1 i535 x536 v538 i710 v714 i766)) v791) ?_ ?_
                  · replace h := h792
                    refine W_block (id := 5) (by kernel_rfl) ?_
                    refine W_seq (by kernel_rfl) ?_
                    refine W_run 2 [] [0, 6, 8, 9, 10, 11, 12, 20, 21, 22, 26, 27, 31] [6, 9] (fr' := [(0, aI a0), (6, .one (.ptr 6 0)), (8, aB v538), (9, .one (.ptr 9 0)), (10, aI i710), (11, aI v714), (12, aI i766), (20, aD (.slice .bool) a1), (21, aI (List.length a1 : Int)), (22, aI i535), (26, aD (.arr 4 tI) x536), (27, aI i710), (31, aI i766)]) (L' := [(6, .one (.arr 4 tI) x536), (9, .one (.arr 4 tI) x767)]) (obs := []) (by kernel_rfl) (by kernel_rfl) (by kernel_rfl) allP0 ?_
                    refine seqQ_norm ?_
                    refine W_seq (by kernel_rfl) ?_
                    refine W_run 5 [] [0, 6, 8, 9, 10, 11, 13, 20, 21, 22, 26, 27, 31] [6, 9] (fr' := [(0, aI a0), (6, .one (.ptr 6 0)), (8, aB v538), (9, .one (.ptr 9 0)), (10, aI i710), (11, aI v714), (13, aI (w64 ((w64 ((2 : Int) * i710)) + i766))), (20, aD (.slice .bool) a1), (21, aI (List.length a1 : Int)), (22, aI i535), (26, aD (.arr 4 tI) x536), (27, aI i710), (31, aI i766)]) (L' := [(6, .one (.arr 4 tI) x536), (9, .one (.arr 4 tI) x767)]) (obs := []) (by kernel_rfl) (by kernel_rfl) (by kernel_rfl) allP0 ?_
                    refine seqQ_norm ?_
                    refine W_seq (by kernel_rfl) ?_
                    obtain ⟨_, h784, h⟩ := bind_of h
                    replace h784 := ck_some h784
                    obtain ⟨r785, h786, h⟩ := bind_of h
                    refine W_draw2 7 [] [(5, [none], aI r785)] [0, 6, 8, 9, 10, 11, 13, 20, 21, 22, 26, 27, 31, 44] [6, 9] (fr' := [(0, aI a0), (6, .one (.ptr 6 0)), (8, aB v538), (9, .one (.ptr 9 0)), (10, aI i710), (11, aI v714), (13, aI (w64 ((w64 ((2 : Int) * i710)) + i766))), (20, aD (.slice .bool) a1), (21, aI (List.length a1 : Int)), (22, aI i535), (26, aD (.arr 4 tI) x536), (27, aI i710), (31, aI i766), (44, aB ((bAnd .i64 (bShr .i64 a0 (w64 ((w64 ((2 : Int) * i710)) + i766))) (1 : Int)) == r785))]) (L' := [(6, .one (.arr 4 tI) x536), (9, .one (.arr 4 tI) x767)]) (out := [(38, aI a0), (39, aI (w64 ((w64 ((2 : Int) * i710)) + i766))), (40, aI (bShr .i64 a0 (w64 ((w64 ((2 : Int) * i710)) + i766)))), (41, aI (bAnd .i64 (bShr .i64 a0 (w64 ((w64 ((2 : Int) * i710)) + i766))) (1 : Int))), (42, aB v538), (43, aI r785), (44, aB ((bAnd .i64 (bShr .i64 a0 (w64 ((w64 ((2 : Int) * i710)) + i766))) (1 : Int)) == r785))]) (obs := [(0 ≤ w64 ((w64 ((2 : Int) * i710)) + i766)), True]) (obs2 := []) (calls := [(49, [aB v538], aI r785)]) (by kernel_rfl) (by kernel_rfl) (by kernel_rfl) (by kernel_rfl) (allP2 h784 (allP1 trivial)) (allC1 (by kernel_rfl) (cell_bit_ok h786) (by kernel_rfl) allC0) (by kernel_rfl) allP0 ?_
                    refine seqQ_norm ?_
                    refine W_cond (o := .tmp 44) (b := (bAnd .i64 (bShr .i64 a0 (w64 ((w64 ((2 : Int) * i710)) + i766))) (1 : Int)) == r785) (by kernel_rfl) (by kernel_rfl) (fun h787 => ?_) (fun h787 => ?_)
                    · replace h := ofT h787 h
                      obtain ⟨_, h788, h⟩ := bind_of h
                      replace h788 := ck_some h788
                      obtain ⟨v789, h790, h⟩ := bind_of h
                      obtain rfl := Option.some.inj h
                      refine W_run 8 [(7, .val (.dat tI v789))] [0, 6, 8, 9, 10, 11, 20, 21, 22, 26, 27, 31] [6, 9] (fr' := [(0, aI a0), (6, .one (.ptr 6 0)), (8, aB v538), (9, .one (.ptr 9 0)), (10, aI i710), (11, aI v714), (20, aD (.slice .bool) a1), (21, aI (List.length a1 : Int)), (22, aI i535), (26, aD (.arr 4 tI) x536), (27, aI i710), (31, aI i766)]) (L' := [(6, .one (.arr 4 tI) x536), (9, .one (.arr 4 tI) (List.set x767 (Int.toNat (bAnd .i64 (w64 ((w64 ((2 : Int) * i710)) + i766)) (3 : Int))) (w64 (v789 + v714))))]) (obs := [InR (bAnd .i64 (w64 ((w64 ((2 : Int) * i710)) + i766)) (3 : Int)) 4, Idx x767 (bAnd .i64 (w64 ((w64 ((2 : Int) * i710)) + i766)) (3 : Int)) v789, InR (bAnd .i64 (w64 ((w64 ((2 : Int) * i710)) + i766)) (3 : Int)) 4, InR (bAnd .i64 (w64 ((w64 ((2 : Int) * i710)) + i766)) (3 : Int)) (List.length x767)]) (by kernel_rfl) (by kernel_rfl) (by kernel_rfl) (allP2 h788 (allP2 (Idx.of h790) (allP2 h788 (allP1 (InR.of h790))))) ?_
                      refine blockQ_norm ?_
                      exact exQ_mk (by kernel_rfl) (by kernel_rfl)
                    · replace h := ofF h787 h
                      obtain rfl := Option.some.inj h
                      refine W_skip [0, 6, 8, 9, 10, 11, 20, 21, 22, 26, 27, 31] [6, 9] (fr' := [(0, aI a0), (6, .one (.ptr 6 0)), (8, aB v538), (9, .one (.ptr 9 0)), (10, aI i710), (11, aI v714), (20, aD (.slice .bool) a1), (21, aI (List.length a1 : Int)), (22, aI i535), (26, aD (.arr 4 tI) x536), (27, aI i710), (31, aI i766)]) (L' := [(6, .one (.arr 4 tI) x536), (9, .one (.arr 4 tI) x767)]) (by kernel_rfl) (by kernel_rfl) ?_
                      refine blockQ_norm ?_
                      exact exQ_mk (by kernel_rfl) (by kernel_rfl)
                  · intro e fr L hJ
                    obtain ⟨rfl, rfl, rfl⟩ := hJ
                    refine LT_keep [0, 6, 8, 9, 10, 11, 20, 21, 22, 26, 27, 31] [6, 9] (fr' := [(0, aI a0), (6, .one (.ptr 6 0)), (8, aB v538), (9, .one (.ptr 9 0)), (10, aI i710), (11, aI v714), (20, aD (.slice .bool) a1), (21, aI (List.length a1 : Int)), (22, aI i535), (26, aD (.arr 4 tI) x536), (27, aI i710), (31, aI i766)]) (L' := [(6, .one (.arr 4 tI) x536), (9, .one (.arr 4 tI) v791)]) (by kernel_rfl) ?_
                    refine seqQ_norm ?_
                    obtain rfl := Option.some.inj h
                    refine W_run 2 [] [0, 6, 8, 9, 10, 11, 20, 21, 22, 26, 27, 31] [6, 9] (fr' := [(0, aI a0), (6, .one (.ptr 6 0)), (8, aB v538), (9, .one (.ptr 9 0)), (10, aI i710), (11, aI v714), (20, aD (.slice .bool) a1), (21, aI (List.length a1 : Int)), (22, aI i535), (26, aD (.arr 4 tI) x536), (27, aI i710), (31, aI (w64 (i766 + (1 : Int))))]) (L' := [(6, .one (.arr 4 tI) x536), (9, .one (.arr 4 tI) v791)]) (obs := []) (by kernel_rfl) (by kernel_rfl) (by kernel_rfl) allP0 ?_
                    exact round_next' (by kernel_rfl) (by kernel_rfl)
                · obtain rfl := stepI_false h769 h
                  refine W_exit (id := 4) [0, 6, 8, 9, 20, 21, 22, 26, 27] [6, 9] (fr' := [(0, aI a0), (6, .one (.ptr 6 0)), (8, aB v538), (9, .one (.ptr 9 0)), (20, aD (.slice .bool) a1), (21, aI (List.length a1 : Int)), (22, aI i535), (26, aD (.arr 4 tI) x536), (27, aI i710)]) (L' := [(6, .one (.arr 4 tI) x536), (9, .one (.arr 4 tI) x767)]) (by kernel_rfl) (by kernel_rfl) ?_
                  refine seqQ_exit ?_
                  refine round_exit ?_
                  exact exQ_mk (by kernel_rfl) (by kernel_rfl)
              · intro e fr L hJ
                obtain ⟨rfl, rfl, rfl⟩ := hJ
                refine LT_keep [0, 6, 8, 9, 20, 21, 22, 26, 27] [6, 9] (fr' := [(0, aI a0), (6, .one (.ptr 6 0)), (8, aB v538), (9, .one (.ptr 9 0)), (20, aD (.slice .bool) a1), (21, aI (List.length a1 : Int)), (22, aI i535), (26, aD (.arr 4 tI) x536), (27, aI i710)]) (L' := [(6, .one (.arr 4 tI) x536), (9, .one (.arr 4 tI) v794)]) (by kernel_rfl) ?_
                refine blockQ_hit ?_
                refine blockQ_norm ?_
                refine seqQ_norm ?_
                obtain rfl := Option.some.inj h
                refine W_run 2 [] [0, 6, 8, 9, 20, 21, 22, 26, 27] [6, 9] (fr' := [(0, aI a0), (6, .one (.ptr 6 0)), (8, aB v538), (9, .one (.ptr 9 0)), (20, aD (.slice .bool) a1), (21, aI (List.length a1 : Int)), (22, aI i535), (26, aD (.arr 4 tI) x536), (27, aI (w64 (i710 + (1 : Int))))]) (L' := [(6, .one (.arr 4 tI) x536), (9, .one (.arr 4 tI) v794)]) (obs := []) (by kernel_rfl) (by kernel_rfl) (by kernel_rfl) allP0 ?_
                exact round_next' (by kernel_rfl) (by kernel_rfl)
            · obtain rfl := stepI_false h713 h
              refine W_exit (id := 2) [0, 6, 9, 20, 21, 22] [6, 9] (fr' := [(0, aI a0), (6, .one (.ptr 6 0)), (9, .one (.ptr 9 0)), (20, aD (.slice .bool) a1), (21, aI (List.length a1 : Int)), (22, aI i535)]) (L' := [(6, .one (.arr 4 tI) x536), (9, .one (.arr 4 tI) x711)]) (by kernel_rfl) (by kernel_rfl) ?_
              refine seqQ_exit ?_
              refine round_exit ?_
              exact exQ_mk (by kernel_rfl) (by kernel_rfl)
          · intro e fr L hJ
            obtain ⟨rfl, rfl, rfl⟩ := hJ
            refine LT_keep [0, 6, 9, 20, 21, 22] [6, 9] (fr' := [(0, aI a0), (6, .one (.ptr 6 0)), (9, .one (.ptr 9 0)), (20, aD (.slice .bool) a1), (21, aI (List.length a1 : Int)), (22, aI i535)]) (L' := [(6, .one (.arr 4 tI) x536), (9, .one (.arr 4 tI) v799)]) (by kernel_rfl) ?_
            refine blockQ_hit ?_
            refine seqQ_norm ?_
            refine W_run 2 [] [0, 6, 20, 21, 22] [6] (fr' := [(0, aI a0), (6, .one (.ptr 6 0)), (20, aD (.slice .bool) a1), (21, aI (List.length a1 : Int)), (22, aI i535)]) (L' := [(6, .one (.arr 4 tI) v799)]) (obs := [True]) (by kernel_rfl) (by kernel_rfl) (by kernel_rfl) (allP1 trivial) ?_
            refine blockQ_norm ?_
            refine seqQ_norm ?_
            obtain rfl := Option.some.inj h
            refine W_run 2 [] [0, 6, 20, 21, 22] [6] (fr' := [(0, aI a0), (6, .one (.ptr 6 0)), (20, aD (.slice .bool) a1), (21, aI (List.length a1 : Int)), (22, aI (w64 (i535 + (1 : Int))))]) (L' := [(6, .one (.arr 4 tI) v799)]) (obs := []) (by kernel_rfl) (by kernel_rfl) (by kernel_rfl) allP0 ?_
            exact round_next' (by kernel_rfl) (by kernel_rfl)
        · obtain rfl := stepL_false h540 h
          refine W_exit (id := 0) [6] [6] (fr' := [(6, .one (.ptr 6 0))]) (L' := [(6, .one (.arr 4 tI) x536)]) (by kernel_rfl) (by kernel_rfl) ?_
          refine seqQ_exit ?_
          refine round_exit ?_
          exact exQ_mk (by kernel_rfl) (by kernel_rfl)
      · intro e fr L hJ
        obtain ⟨rfl, rfl, rfl⟩ := hJ
        refine LT_keep [6] [6] (fr' := [(6, .one (.ptr 6 0))]) (L' := [(6, .one (.arr 4 tI) v804)]) (by kernel_rfl) ?_
        refine blockQ_hit ?_
        refine seqQ_norm ?_
        refine W_seq (by kernel_rfl) ?_
        obtain ⟨v809, h810, h⟩ := bind_of h
        obtain ⟨v811, h812, h⟩ := bind_of h
        obtain ⟨v813, h814, h⟩ := bind_of h
        obtain ⟨v815, h816, h⟩ := bind_of h
        refine W_run 13 [(3, .val (.dat tI v809)), (7, .val (.dat tI v811)), (13, .val (.dat tI v813)), (19, .val (.dat tI v815))] [4, 5] [] (fr' := [(4, aI (w64 ((w64 ((w64 (v809 + v811)) + v813)) + v815))), (5, aI (0 : Int))]) (L' := []) (obs := [InR (0 : Int) 4, Idx v804 (0 : Int) v809, InR (1 : Int) 4, Idx v804 (1 : Int) v811, InR (2 : Int) 4, Idx v804 (2 : Int) v813, InR (3 : Int) 4, Idx v804 (3 : Int) v815]) (by kernel_rfl) (by kernel_rfl) (by kernel_rfl) (allP2 (by unfold InR; decide) (allP2 (Idx.of h810) (allP2 (by unfold InR; decide) (allP2 (Idx.of h812) (allP2 (by unfold InR; decide) (allP2 (Idx.of h814) (allP2 (by unfold InR; decide) (allP1 (Idx.of h816))))))))) ?_
        refine seqQ_norm ?_
        obtain rfl := Option.some.inj h
        refine W_ret [4, 5] [] (fr' := [(4, aI (w64 ((w64 ((w64 (v809 + v811)) + v813)) + v815))), (5, aI (0 : Int))]) (L' := []) (by kernel_rfl) (by kernel_rfl) ?_
        exact retQ_mk (by kernel_rfl) (by kernel_rfl) (by kernel_rfl)

def ref_Within (a0 : Int) (a1 : Int) (a2 : Int) : Option Bool :=
some ((decide (a0 ≤ a1)) && (decide (a1 ≤ a2)))
theorem ref_Within_ok {a0 : Int} {a1 : Int} {a2 : Int} {r : Bool} (h : ref_Within a0 a1 a2 = some r) : FnC Try.prog 37 [aI a0, aI a1, aI a2] [] (aB r) [] := by
  refine fnC_of_W (B := bodyOf Try.f37) (n := 15) Try.func37 (by kernel_rfl) (by kernel_rfl) (by kernel_rfl) (by kernel_rfl) (by kernel_rfl) ?_
  intro K
  refine W_seq (by kernel_rfl) ?_
  refine W_run 1 [] [0, 1, 2] [] (fr' := [(0, aI a0), (1, aI a1), (2, aI a2)]) (L' := []) (obs := []) (by kernel_rfl) (by kernel_rfl) (by kernel_rfl) allP0 ?_
  refine seqQ_norm ?_
  refine W_seq (by kernel_rfl) ?_
  refine W_run 9 [] [6] [] (fr' := [(6, aB ((decide (a0 ≤ a1)) && (decide (a1 ≤ a2))))]) (L' := []) (obs := []) (by kernel_rfl) (by kernel_rfl) (by kernel_rfl) allP0 ?_
  refine seqQ_norm ?_
  obtain rfl := Option.some.inj h
  refine W_ret [6] [] (fr' := [(6, aB ((decide (a0 ≤ a1)) && (decide (a1 ≤ a2))))]) (L' := []) (by kernel_rfl) (by kernel_rfl) ?_
  exact retQ_mk (by kernel_rfl) (by kernel_rfl) (by kernel_rfl)

def law_ruleCode (a0 : Int) : Option Int :=
(ref_Within (0 : Int) a0 (255 : Int)).bind fun r1 =>
bif !r1 then
(some (4 : Int))
else
(some (0 : Int))
theorem law_ruleCode_ok {a0 : Int} {r : Int} (h : law_ruleCode a0 = some r) : FnC Try.prog 16 [aI a0] [] (aI r) [] := by
  refine fnC_of_W (B := bodyOf Try.f16) (n := 6) Try.func16 (by kernel_rfl) (by kernel_rfl) (by kernel_rfl) (by kernel_rfl) (by kernel_rfl) ?_
  intro K
  refine W_seq (by kernel_rfl) ?_
  refine W_run 1 [] [0] [] (fr' := [(0, aI a0)]) (L' := []) (obs := []) (by kernel_rfl) (by kernel_rfl) (by kernel_rfl) allP0 ?_
  refine seqQ_norm ?_
  refine W_seq (by kernel_rfl) ?_
  refine W_seq (by kernel_rfl) ?_
  refine W_region (by kernel_rfl) ?_
  refine WO_run (j := 1) (k := 1) (orcs := []) (kF := [3]) (kL := []) (fr' := [(3, aI a0)]) (L' := []) (obs := []) rfl (by kernel_rfl) allP0 ?_
  obtain ⟨r1, h2, h⟩ := bind_of h
  refine WO_call0 (us := [none, none, none]) (d := 4) (p := True) (j := 2) rfl ⟨by kernel_rfl, by kernel_rfl, by kernel_rfl⟩ trivial (ref_Within_ok h2) (by kernel_rfl) ?_
  refine WO_run (j := 3) (k := 1) (orcs := []) (kF := [5]) (kL := []) (fr' := [(5, aB (!r1))]) (L' := []) (obs := []) rfl (by kernel_rfl) allP0 ?_
  refine WO_fin [5] [] (fr' := [(5, aB (!r1))]) (L' := []) (by kernel_rfl) (by kernel_rfl) ?_
  refine seqQ_norm ?_
  refine W_cond (o := .tmp 5) (b := !r1) (by kernel_rfl) (by kernel_rfl) (fun h3 => ?_) (fun h3 => ?_)
  · replace h := ofT h3 h
    refine W_seq (by kernel_rfl) ?_
    refine W_run 1 [] [2] [] (fr' := [(2, aI (4 : Int))]) (L' := []) (obs := []) (by kernel_rfl) (by kernel_rfl) (by kernel_rfl) allP0 ?_
    refine seqQ_norm ?_
    obtain rfl := Option.some.inj h
    refine W_ret [2] [] (fr' := [(2, aI (4 : Int))]) (L' := []) (by kernel_rfl) (by kernel_rfl) ?_
    refine seqQ_ret ?_
    exact retQ_mk (by kernel_rfl) (by kernel_rfl) (by kernel_rfl)
  · replace h := ofF h3 h
    refine W_skip [] [] (fr' := []) (L' := []) (by kernel_rfl) (by kernel_rfl) ?_
    refine seqQ_norm ?_
    refine W_seq (by kernel_rfl) ?_
    refine W_run 1 [] [2] [] (fr' := [(2, aI (0 : Int))]) (L' := []) (obs := []) (by kernel_rfl) (by kernel_rfl) (by kernel_rfl) allP0 ?_
    refine seqQ_norm ?_
    obtain rfl := Option.some.inj h
    refine W_ret [2] [] (fr' := [(2, aI (0 : Int))]) (L' := []) (by kernel_rfl) (by kernel_rfl) ?_
    exact retQ_mk (by kernel_rfl) (by kernel_rfl) (by kernel_rfl)

def ref_Bit (a0 : Int) (a1 : Int) : Option Bool :=
bif (decide (a1 ≥ (0 : Int))) && (decide (a1 < (63 : Int))) then
((ck (0 ≤ IntKind.wrap .u64 (a1))).bind fun _ =>
some ((bAnd .i64 a0 (bShl .i64 (1 : Int) (IntKind.wrap .u64 (a1)))) != (0 : Int)))
else
(some false)
theorem ref_Bit_ok {a0 : Int} {a1 : Int} {r : Bool} (h : ref_Bit a0 a1 = some r) : FnC Try.prog 51 [aI a0, aI a1] [] (aB r) [] := by
  refine fnC_of_W (B := bodyOf Try.f51) (n := 19) Try.func51 (by kernel_rfl) (by kernel_rfl) (by kernel_rfl) (by kernel_rfl) (by kernel_rfl) ?_
  intro K
  refine W_seq (by kernel_rfl) ?_
  refine W_run 1 [] [0, 1] [] (fr' := [(0, aI a0), (1, aI a1)]) (L' := []) (obs := []) (by kernel_rfl) (by kernel_rfl) (by kernel_rfl) allP0 ?_
  refine seqQ_norm ?_
  refine W_seq (by kernel_rfl) ?_
  refine W_region (by kernel_rfl) ?_
  refine WO_run (j := 7) (k := 7) (orcs := []) (kF := [0, 1, 11]) (kL := []) (fr' := [(0, aI a0), (1, aI a1), (11, aB ((decide (a1 ≥ (0 : Int))) && (decide (a1 < (63 : Int)))))]) (L' := []) (obs := []) rfl (by kernel_rfl) allP0 ?_
  rcases Bool.eq_false_or_eq_true ((decide (a1 ≥ (0 : Int))) && (decide (a1 < (63 : Int)))) with h1 | h1
  · replace h := ofT h1 h
    obtain ⟨_, h2, h⟩ := bind_of h
    replace h2 := ck_some h2
    refine WO_run (j := 15) (k := 8) (orcs := [(14, .known true), (16, .known true), (18, .known true), (20, .known true), (22, .known true), (24, .known true), (27, .val (.dat .bool true))]) (kF := [4]) (kL := []) (fr' := [(4, aB ((bAnd .i64 a0 (bShl .i64 (1 : Int) (IntKind.wrap .u64 (a1)))) != (0 : Int)))]) (L' := []) (obs := [(((decide (a1 ≥ (0 : Int))) && (decide (a1 < (63 : Int)))) = true), (((decide (a1 ≥ (0 : Int))) && (decide (a1 < (63 : Int)))) = true), (((decide (a1 ≥ (0 : Int))) && (decide (a1 < (63 : Int)))) = true), (((decide (a1 ≥ (0 : Int))) && (decide (a1 < (63 : Int)))) = true), (0 ≤ IntKind.wrap .u64 (a1)), (((decide (a1 ≥ (0 : Int))) && (decide (a1 < (63 : Int)))) = true), (((decide (a1 ≥ (0 : Int))) && (decide (a1 < (63 : Int)))) = true), (((decide (a1 ≥ (0 : Int))) && (decide (a1 < (63 : Int)))) = true)]) rfl (by kernel_rfl) (allP2 h1 (allP2 h1 (allP2 h1 (allP2 h1 (allP2 h2 (allP2 h1 (allP2 h1 (allP1 h1)))))))) ?_
    refine WO_fin [4] [] (fr' := [(4, aB ((bAnd .i64 a0 (bShl .i64 (1 : Int) (IntKind.wrap .u64 (a1)))) != (0 : Int)))]) (L' := []) (by kernel_rfl) (by kernel_rfl) ?_
    refine seqQ_norm ?_
    obtain rfl := Option.some.inj h
    refine W_ret [4] [] (fr' := [(4, aB ((bAnd .i64 a0 (bShl .i64 (1 : Int) (IntKind.wrap .u64 (a1)))) != (0 : Int)))]) (L' := []) (by kernel_rfl) (by kernel_rfl) ?_
    exact retQ_mk (by kernel_rfl) (by kernel_rfl) (by kernel_rfl)
  · replace h := ofF h1 h
    refine WO_run (j := 15) (k := 8) (orcs := [(14, .known false), (16, .known false), (18, .known false), (20, .known false), (22, .known false), (24, .known false), (27, .val (.dat .bool false))]) (kF := [4]) (kL := []) (fr' := [(4, aB false)]) (L' := []) (obs := [(((decide (a1 ≥ (0 : Int))) && (decide (a1 < (63 : Int)))) = false), (((decide (a1 ≥ (0 : Int))) && (decide (a1 < (63 : Int)))) = false), (((decide (a1 ≥ (0 : Int))) && (decide (a1 < (63 : Int)))) = false), (((decide (a1 ≥ (0 : Int))) && (decide (a1 < (63 : Int)))) = false), (((decide (a1 ≥ (0 : Int))) && (decide (a1 < (63 : Int)))) = false), (((decide (a1 ≥ (0 : Int))) && (decide (a1 < (63 : Int)))) = false), (((decide (a1 ≥ (0 : Int))) && (decide (a1 < (63 : Int)))) = false)]) rfl (by kernel_rfl) (allP2 h1 (allP2 h1 (allP2 h1 (allP2 h1 (allP2 h1 (allP2 h1 (allP1 h1))))))) ?_
    refine WO_fin [4] [] (fr' := [(4, aB false)]) (L' := []) (by kernel_rfl) (by kernel_rfl) ?_
    refine seqQ_norm ?_
    obtain rfl := Option.some.inj h
    refine W_ret [4] [] (fr' := [(4, aB false)]) (L' := []) (by kernel_rfl) (by kernel_rfl) ?_
    exact retQ_mk (by kernel_rfl) (by kernel_rfl) (by kernel_rfl)

@[reducible] def ref_Truth_s1 (a0 : Int) (v : Int) : Fr × LL := ([(0, aI a0), (9, aI v)], [])
@[reducible] def ref_Truth_s2 (a0 : Int) (a3 : Bool) (v : Int) : Fr × LL := ([(0, aI a0), (3, aB a3), (9, aI v)], [])
@[reducible] def ref_Truth_s3 (a0 : Int) (a2 : Bool) (a3 : Bool) (v : Int) : Fr × LL := ([(0, aI a0), (2, aB a2), (3, aB a3), (9, aI v)], [])
def ref_Truth (a0 : Int) (a1 : Bool) (a2 : Bool) (a3 : Bool) : Option Bool :=
(bif a1 then
(some (4 : Int))
else
(some (0 : Int))).bind fun v4 =>
(bif a2 then
(some (w64 (v4 + (2 : Int))))
else
(some v4)).bind fun v9 =>
(bif a3 then
(some (w64 (v9 + (1 : Int))))
else
(some v9)).bind fun v14 =>
(ref_Bit a0 v14).bind fun r16 =>
some r16
theorem ref_Truth_ok {a0 : Int} {a1 : Bool} {a2 : Bool} {a3 : Bool} {r : Bool} (h : ref_Truth a0 a1 a2 a3 = some r) : FnC Try.prog 50 [aI a0, aB a1, aB a2, aB a3] [] (aB r) [] := by
  refine fnC_of_W (B := bodyOf Try.f50) (n := 22) Try.func50 (by kernel_rfl) (by kernel_rfl) (by kernel_rfl) (by kernel_rfl) (by kernel_rfl) ?_
  intro K
  refine W_seq (by kernel_rfl) ?_
  refine W_run 1 [] [0, 1, 2, 3] [] (fr' := [(0, aI a0), (1, aB a1), (2, aB a2), (3, aB a3)]) (L' := []) (obs := []) (by kernel_rfl) (by kernel_rfl) (by kernel_rfl) allP0 ?_
  refine seqQ_norm ?_
  refine W_seq (by kernel_rfl) ?_
  refine W_run 1 [] [0, 1, 2, 3, 9] [] (fr' := [(0, aI a0), (1, aB a1), (2, aB a2), (3, aB a3), (9, aI (0 : Int))]) (L' := []) (obs := []) (by kernel_rfl) (by kernel_rfl) (by kernel_rfl) allP0 ?_
  refine seqQ_norm ?_
  refine W_seq (by kernel_rfl) ?_
  obtain ⟨v4, h5, h⟩ := bind_of h
  refine W_cutK (Q' := (exQ .normal (ref_Truth_s3 a0 a2 a3)) v4) ?_ ?_
  · replace h := h5
    refine W_seq (by kernel_rfl) ?_
    refine W_run 1 [] [0, 2, 3, 9, 10] [] (fr' := [(0, aI a0), (2, aB a2), (3, aB a3), (9, aI (0 : Int)), (10, aB a1)]) (L' := []) (obs := []) (by kernel_rfl) (by kernel_rfl) (by kernel_rfl) allP0 ?_
    refine seqQ_norm ?_
    refine W_cond (o := .tmp 10) (b := a1) (by kernel_rfl) (by kernel_rfl) (fun h3 => ?_) (fun h3 => ?_)
    · replace h := ofT h3 h
      obtain rfl := Option.some.inj h
      refine W_run 3 [] [0, 2, 3, 9] [] (fr' := [(0, aI a0), (2, aB a2), (3, aB a3), (9, aI (4 : Int))]) (L' := []) (obs := []) (by kernel_rfl) (by kernel_rfl) (by kernel_rfl) allP0 ?_
      exact exQ_mk (by kernel_rfl) (by kernel_rfl)
    · replace h := ofF h3 h
      obtain rfl := Option.some.inj h
      refine W_skip [0, 2, 3, 9] [] (fr' := [(0, aI a0), (2, aB a2), (3, aB a3), (9, aI (0 : Int))]) (L' := []) (by kernel_rfl) (by kernel_rfl) ?_
      exact exQ_mk (by kernel_rfl) (by kernel_rfl)
  · intro e fr L hJ
    obtain ⟨rfl, rfl, rfl⟩ := hJ
    refine LT_keep [0, 2, 3, 9] [] (fr' := [(0, aI a0), (2, aB a2), (3, aB a3), (9, aI v4)]) (L' := []) (by kernel_rfl) ?_
    refine seqQ_norm ?_
    refine W_seq (by kernel_rfl) ?_
    obtain ⟨v9, h10, h⟩ := bind_of h
    refine W_cutK (Q' := (exQ .normal (ref_Truth_s2 a0 a3)) v9) ?_ ?_
    · replace h := h10
      refine W_seq (by kernel_rfl) ?_
      refine W_run 1 [] [0, 3, 9, 13] [] (fr' := [(0, aI a0), (3, aB a3), (9, aI v4), (13, aB a2)]) (L' := []) (obs := []) (by kernel_rfl) (by kernel_rfl) (by kernel_rfl) allP0 ?_
      refine seqQ_norm ?_
      refine W_cond (o := .tmp 13) (b := a2) (by kernel_rfl) (by kernel_rfl) (fun h8 => ?_) (fun h8 => ?_)
      · replace h := ofT h8 h
        obtain rfl := Option.some.inj h
        refine W_run 3 [] [0, 3, 9] [] (fr' := [(0, aI a0), (3, aB a3), (9, aI (w64 (v4 + (2 : Int))))]) (L' := []) (obs := []) (by kernel_rfl) (by kernel_rfl) (by kernel_rfl) allP0 ?_
        exact exQ_mk (by kernel_rfl) (by kernel_rfl)
      · replace h := ofF h8 h
        obtain rfl := Option.some.inj h
        refine W_skip [0, 3, 9] [] (fr' := [(0, aI a0), (3, aB a3), (9, aI v4)]) (L' := []) (by kernel_rfl) (by kernel_rfl) ?_
        exact exQ_mk (by kernel_rfl) (by kernel_rfl)
    · intro e fr L hJ
      obtain ⟨rfl, rfl, rfl⟩ := hJ
      refine LT_keep [0, 3, 9] [] (fr' := [(0, aI a0), (3, aB a3), (9, aI v9)]) (L' := []) (by kernel_rfl) ?_
      refine seqQ_norm ?_
      refine W_seq (by kernel_rfl) ?_
      obtain ⟨v14, h15, h⟩ := bind_of h
      refine W_cutK (Q' := (exQ .normal (ref_Truth_s1 a0)) v14) ?_ ?_
      · replace h := h15
        refine W_seq (by kernel_rfl) ?_
        refine W_run 1 [] [0, 9, 16] [] (fr' := [(0, aI a0), (9, aI v9), (16, aB a3)]) (L' := []) (obs := []) (by kernel_rfl) (by kernel_rfl) (by kernel_rfl) allP0 ?_
        refine seqQ_norm ?_
        refine W_cond (o := .tmp 16) (b := a3) (by kernel_rfl) (by kernel_rfl) (fun h13 => ?_) (fun h13 => ?_)
        · replace h := ofT h13 h
          obtain rfl := Option.some.inj h
          refine W_run 3 [] [0, 9] [] (fr' := [(0, aI a0), (9, aI (w64 (v9 + (1 : Int))))]) (L' := []) (obs := []) (by kernel_rfl) (by kernel_rfl) (by kernel_rfl) allP0 ?_
          exact exQ_mk (by kernel_rfl) (by kernel_rfl)
        · replace h := ofF h13 h
          obtain rfl := Option.some.inj h
          refine W_skip [0, 9] [] (fr' := [(0, aI a0), (9, aI v9)]) (L' := []) (by kernel_rfl) (by kernel_rfl) ?_
          exact exQ_mk (by kernel_rfl) (by kernel_rfl)
      · intro e fr L hJ
        obtain ⟨rfl, rfl, rfl⟩ := hJ
        refine LT_keep [0, 9] [] (fr' := [(0, aI a0), (9, aI v14)]) (L' := []) (by kernel_rfl) ?_
        refine seqQ_norm ?_
        refine W_seq (by kernel_rfl) ?_
        refine W_region (by kernel_rfl) ?_
        refine WO_run (j := 2) (k := 2) (orcs := []) (kF := [19, 20]) (kL := []) (fr' := [(19, aI a0), (20, aI v14)]) (L' := []) (obs := []) rfl (by kernel_rfl) allP0 ?_
        obtain ⟨r16, h17, h⟩ := bind_of h
        refine WO_call0 (us := [none, none]) (d := 21) (p := True) (j := 3) rfl ⟨by kernel_rfl, by kernel_rfl, by kernel_rfl⟩ trivial (ref_Bit_ok h17) (by kernel_rfl) ?_
        refine WO_run (j := 4) (k := 1) (orcs := []) (kF := [8]) (kL := []) (fr' := [(8, aB r16)]) (L' := []) (obs := []) rfl (by kernel_rfl) allP0 ?_
        refine WO_fin [8] [] (fr' := [(8, aB r16)]) (L' := []) (by kernel_rfl) (by kernel_rfl) ?_
        refine seqQ_norm ?_
        obtain rfl := Option.some.inj h
        refine W_ret [8] [] (fr' := [(8, aB r16)]) (L' := []) (by kernel_rfl) (by kernel_rfl) ?_
        exact retQ_mk (by kernel_rfl) (by kernel_rfl) (by kernel_rfl)

def ref_Aheads_b27 (a0 : Int) (x147 : (Int × Int)) (i414 : Int) (v417 : Bool) (x415 : Bool) : Option (Flow Bool Bool) :=
bif x415 then
((ref_Bit x147.2 i414).bind fun r421 =>
(ref_Bit x147.2 (w64 (i414 + (1 : Int)))).bind fun r423 =>
(ref_Bit x147.2 (w64 (i414 + (2 : Int)))).bind fun r425 =>
(ref_Truth a0 r421 r423 r425).bind fun r427 =>
some (.next (r427 == v417)))
else
(some (.next false))
@[reducible] def ref_Aheads_s28 (a0 : Int) (a1 : (List Bool)) (x147 : (Int × Int)) (v : Int × Bool) : Fr × LL := ([(0, aI a0), (1, aD (.slice .bool) a1), (5, aI (List.length a1 : Int)), (6, aI x147.1), (7, aI x147.2), (8, aB v.2), (9, aI v.1)], [])
@[reducible] def ref_Aheads_s29 (a0 : Int) (a1 : (List Bool)) (x147 : (Int × Int)) (v : Bool) : Fr × LL := ([(0, aI a0), (1, aD (.slice .bool) a1), (5, aI (List.length a1 : Int)), (6, aI x147.1), (7, aI x147.2), (8, aB v)], [])
@[reducible] def ref_Aheads_s30 (a0 : Int) (a1 : (List Bool)) (x147 : (Int × Int)) (v : Int) : Fr × LL := ([(0, aI a0), (1, aD (.slice .bool) a1), (5, aI (List.length a1 : Int)), (6, aI v), (7, aI x147.2)], [])
def ref_Aheads_b31 (a0 : Int) (a1 : (List Bool)) (x147 : (Int × Int)) : Option (Flow (Int × Int) Int) :=
(ck (0 ≤ IntKind.wrap .u64 (w64 ((List.length a1 : Int) + (2 : Int))))).bind fun _ =>
bif decide (x147.2 < (bShl .i64 (1 : Int) (IntKind.wrap .u64 (w64 ((List.length a1 : Int) + (2 : Int)))))) then
(((forL (ref_Aheads_b27 a0 x147) (fun x415 => x415) a1 0 true).bind fun v430 =>
bif v430 then
(some (w64 (x147.1 + (1 : Int))))
else
(some x147.1)).bind fun v436 =>
some (.next (v436, w64 (x147.2 + (1 : Int)))))
else
(some (.done x147.1))
@[reducible] def ref_Aheads_s32 (a0 : Int) (a1 : (List Bool)) (v : (Int × Int)) : Fr × LL := ([(0, aI a0), (1, aD (.slice .bool) a1), (5, aI (List.length a1 : Int)), (6, aI v.1), (7, aI v.2)], [])
@[reducible] def ref_Aheads_s33 (v : Int) : Fr × LL := ([(6, aI v)], [])
def ref_Aheads (fuel : Nat) (a0 : Int) (a1 : (List Bool)) : Option Int :=
(iter (ref_Aheads_b31 a0 a1) fuel ((0 : Int), (0 : Int))).bind fun v438 =>
some v438
theorem ref_Aheads_ok {fuel : Nat} {a0 : Int} {a1 : (List Bool)} {r : Int} (h : ref_Aheads fuel a0 a1 = some r) : FnC Try.prog 17 [aI a0, aD (.slice .bool) a1] [] (aI r) [] := by
  refine fnC_of_W (B := bodyOf Try.f17) (n := 50) Try.func17 (by kernel_rfl) (by kernel_rfl) (by kernel_rfl) (by kernel_rfl) (by kernel_rfl) ?_
  intro K
  refine W_seq (by kernel_rfl) ?_
  refine W_run 1 [] [0, 1] [] (fr' := [(0, aI a0), (1, aD (.slice .bool) a1)]) (L' := []) (obs := []) (by kernel_rfl) (by kernel_rfl) (by kernel_rfl) allP0 ?_
  refine seqQ_norm ?_
  refine W_seq (by kernel_rfl) ?_
  refine W_run 3 [] [0, 1, 5] [] (fr' := [(0, aI a0), (1, aD (.slice .bool) a1), (5, aI (List.length a1 : Int))]) (L' := []) (obs := []) (by kernel_rfl) (by kernel_rfl) (by kernel_rfl) allP0 ?_
  refine seqQ_norm ?_
  refine W_seq (by kernel_rfl) ?_
  refine W_run 1 [] [0, 1, 5, 6] [] (fr' := [(0, aI a0), (1, aD (.slice .bool) a1), (5, aI (List.length a1 : Int)), (6, aI (0 : Int))]) (L' := []) (obs := []) (by kernel_rfl) (by kernel_rfl) (by kernel_rfl) allP0 ?_
  refine seqQ_norm ?_
  refine W_seq (by kernel_rfl) ?_
  refine W_seq (by kernel_rfl) ?_
  refine W_run 1 [] [0, 1, 5, 6, 7] [] (fr' := [(0, aI a0), (1, aD (.slice .bool) a1), (5, aI (List.length a1 : Int)), (6, aI (0 : Int)), (7, aI (0 : Int))]) (L' := []) (obs := []) (by kernel_rfl) (by kernel_rfl) (by kernel_rfl) allP0 ?_
  refine seqQ_norm ?_
  refine W_block (id := 0) (by kernel_rfl) ?_
  obtain ⟨v438, h439, h⟩ := bind_of h
  refine W_weaken [0, 1, 5, 6, 7] [] (fr' := ((ref_Aheads_s32 a0 a1) ((0 : Int), (0 : Int))).1) (L' := ((ref_Aheads_s32 a0 a1) ((0 : Int), (0 : Int))).2) (by kernel_rfl) ?_
  refine W_cutK (W_loop (S := (ref_Aheads_s32 a0 a1)) (J := (exQ (.exit 0) ref_Aheads_s33)) (by kernel_rfl) ?_ fuel _ v438 h439) ?_
  · rintro x147 s h
    refine W_seq (by kernel_rfl) ?_
    refine W_seq (by kernel_rfl) ?_
    obtain ⟨_, h293, h⟩ := bind_of h
    replace h293 := ck_some h293
    refine W_run 6 [] [0, 1, 5, 6, 7, 17] [] (fr' := [(0, aI a0), (1, aD (.slice .bool) a1), (5, aI (List.length a1 : Int)), (6, aI x147.1), (7, aI x147.2), (17, aB (decide (x147.2 < (bShl .i64 (1 : Int) (IntKind.wrap .u64 (w64 ((List.length a1 : Int) + (2 : Int))))))))]) (L' := []) (obs := [(0 ≤ IntKind.wrap .u64 (w64 ((List.length a1 : Int) + (2 : Int))))]) (by kernel_rfl) (by kernel_rfl) (by kernel_rfl) (allP1 h293) ?_
    refine seqQ_norm ?_
    refine W_cond (o := .tmp 17) (b := decide (x147.2 < (bShl .i64 (1 : Int) (IntKind.wrap .u64 (w64 ((List.length a1 : Int) + (2 : Int))))))) (by kernel_rfl) (by kernel_rfl) (fun h294 => ?_) (fun h294 => ?_)
    · replace h := ofT h294 h
      refine W_skip [0, 1, 5, 6, 7] [] (fr' := [(0, aI a0), (1, aD (.slice .bool) a1), (5, aI (List.length a1 : Int)), (6, aI x147.1), (7, aI x147.2)]) (L' := []) (by kernel_rfl) (by kernel_rfl) ?_
      refine seqQ_norm ?_
      refine W_seq (by kernel_rfl) ?_
      obtain ⟨v436, h437, h⟩ := bind_of h
      refine W_cutK (Q' := (exQ .normal (ref_Aheads_s30 a0 a1 x147)) v436) ?_ ?_
      · replace h := h437
        refine W_block (id := 1) (by kernel_rfl) ?_
        refine W_seq (by kernel_rfl) ?_
        refine W_run 1 [] [0, 1, 5, 6, 7, 8] [] (fr' := [(0, aI a0), (1, aD (.slice .bool) a1), (5, aI (List.length a1 : Int)), (6, aI x147.1), (7, aI x147.2), (8, aB true)]) (L' := []) (obs := []) (by kernel_rfl) (by kernel_rfl) (by kernel_rfl) allP0 ?_
        refine seqQ_norm ?_
        refine W_seq (by kernel_rfl) ?_
        refine W_seq (by kernel_rfl) ?_
        refine W_run 1 [] [0, 1, 5, 6, 7, 8, 9] [] (fr' := [(0, aI a0), (1, aD (.slice .bool) a1), (5, aI (List.length a1 : Int)), (6, aI x147.1), (7, aI x147.2), (8, aB true), (9, aI (0 : Int))]) (L' := []) (obs := []) (by kernel_rfl) (by kernel_rfl) (by kernel_rfl) allP0 ?_
        refine seqQ_norm ?_
        refine W_block (id := 2) (by kernel_rfl) ?_
        obtain ⟨v430, h431, h⟩ := bind_of h
        refine W_len (t := 1) (u := .bool) (xs := a1) (by kernel_rfl) (fun h434 => ?_)
        obtain ⟨h432, h433⟩ := forL_iter h434 h431
        refine W_weaken [0, 1, 5, 6, 7, 8, 9] [] (fr' := ((ref_Aheads_s28 a0 a1 x147) ((0 : Int), true)).1) (L' := ((ref_Aheads_s28 a0 a1 x147) ((0 : Int), true)).2) (by kernel_rfl) ?_
        refine W_cutK (W_loop (S := (ref_Aheads_s28 a0 a1 x147)) (J := (exQ (.exit 2) (ref_Aheads_s29 a0 a1 x147))) (by kernel_rfl) ?_ h432 _ v430 h433) ?_
        · rintro ⟨i414, x415⟩ s h
          refine W_seq (by kernel_rfl) ?_
          refine W_seq (by kernel_rfl) ?_
          refine W_run 3 [] [0, 1, 5, 6, 7, 8, 9, 22] [] (fr' := [(0, aI a0), (1, aD (.slice .bool) a1), (5, aI (List.length a1 : Int)), (6, aI x147.1), (7, aI x147.2), (8, aB x415), (9, aI i414), (22, aB (decide (i414 < (List.length a1 : Int))))]) (L' := []) (obs := []) (by kernel_rfl) (by kernel_rfl) (by kernel_rfl) allP0 ?_
          refine seqQ_norm ?_
          refine W_cond (o := .tmp 22) (b := decide (i414 < (List.length a1 : Int))) (by kernel_rfl) (by kernel_rfl) (fun h419 => ?_) (fun h419 => ?_)
          · replace h := stepL_true h419 h
            obtain ⟨v417, _, h418, h, rfl⟩ := h
            refine W_skip [0, 1, 5, 6, 7, 8, 9] [] (fr' := [(0, aI a0), (1, aD (.slice .bool) a1), (5, aI (List.length a1 : Int)), (6, aI x147.1), (7, aI x147.2), (8, aB x415), (9, aI i414)]) (L' := []) (by kernel_rfl) (by kernel_rfl) ?_
            refine seqQ_norm ?_
            refine W_seq (by kernel_rfl) ?_
            refine W_block (id := 3) (by kernel_rfl) ?_
            rcases Bool.eq_false_or_eq_true (x415) with h420 | h420
            · replace h := ofT h420 h
              obtain ⟨r421, h422, h⟩ := bind_of h
              obtain ⟨r423, h424, h⟩ := bind_of h
              obtain ⟨r425, h426, h⟩ := bind_of h
              obtain ⟨r427, h428, h⟩ := bind_of h
              refine W_draw2 21 [(4, .known true), (6, .known true), (8, .known true), (12, .known true), (14, .known true), (16, .known true), (20, .known true), (22, .known true), (24, .known true), (30, .known true), (32, .known true), (34, .known true), (35, .val (.dat .bool v417)), (36, .known true), (38, .known true), (41, .val (.dat .bool true))] [(5, [none, none], aB r421), (9, [none, none], aB r423), (13, [none, none], aB r425), (14, [none, none, none, none], aB r427)] [0, 1, 5, 6, 7, 8, 9] [] (fr' := [(0, aI a0), (1, aD (.slice .bool) a1), (5, aI (List.length a1 : Int)), (6, aI x147.1), (7, aI x147.2), (8, aB (r427 == v417)), (9, aI i414)]) (L' := []) (out := [(25, aB x415), (26, aB x415), (27, aI a0), (28, aI x147.2), (29, aI i414), (30, aB r421), (31, aI x147.2), (32, aI i414), (33, aI (w64 (i414 + (1 : Int)))), (34, aB r423), (35, aI x147.2), (36, aI i414), (37, aI (w64 (i414 + (2 : Int)))), (38, aB r425), (39, aB r427), (40, aD (.slice .bool) a1), (41, aI i414), (42, .one (.dptr .bool v417)), (43, aB v417), (44, aB (r427 == v417)), (45, aB (r427 == v417))]) (obs := [(x415 = true), (x415 = true), (x415 = true), (x415 = true), (x415 = true), (x415 = true), (x415 = true), (x415 = true), (x415 = true), (x415 = true), (x415 = true), (x415 = true), (x415 = true), (x415 = true), (x415 = true), (x415 = true), Idx a1 i414 v417, (x415 = true), (x415 = true), (x415 = true)]) (obs2 := []) (calls := [(51, [aI x147.2, aI i414], aB r421), (51, [aI x147.2, aI (w64 (i414 + (1 : Int)))], aB r423), (51, [aI x147.2, aI (w64 (i414 + (2 : Int)))], aB r425), (50, [aI a0, aB r421, aB r423, aB r425], aB r427)]) (by kernel_rfl) (by kernel_rfl) (by kernel_rfl) (by kernel_rfl) (allP2 h420 (allP2 h420 (allP2 h420 (allP2 h420 (allP2 h420 (allP2 h420 (allP2 h420 (allP2 h420 (allP2 h420 (allP2 h420 (allP2 h420 (allP2 h420 (allP2 h420 (allP2 h420 (allP2 h420 (allP2 h420 (allP2 (Idx.of h418) (allP2 h420 (allP2 h420 (allP1 h420)))))))))))))))))))) (allC1 (by kernel_rfl) (ref_Bit_ok h422) (by kernel_rfl) (allC1 (by kernel_rfl) (ref_Bit_ok h424) (by kernel_rfl) (allC1 (by kernel_rfl) (ref_Bit_ok h426) (by kernel_rfl) (allC1 (by kernel_rfl) (ref_Truth_ok h428) (by kernel_rfl) allC0)))) (by kernel_rfl) allP0 ?_
              refine blockQ_norm ?_
              refine seqQ_norm ?_
              obtain rfl := Option.some.inj h
              refine W_run 3 [] [0, 1, 5, 6, 7, 8, 9] [] (fr' := [(0, aI a0), (1, aD (.slice .bool) a1), (5, aI (List.length a1 : Int)), (6, aI x147.1), (7, aI x147.2), (8, aB (r427 == v417)), (9, aI (w64 (i414 + (1 : Int))))]) (L' := []) (obs := []) (by kernel_rfl) (by kernel_rfl) (by kernel_rfl) allP0 ?_
              exact round_next' (by kernel_rfl) (by kernel_rfl)
            · replace h := ofF h420 h
              refine W_draw2 21 [(4, .known false), (6, .known false), (8, .known false), (10, .known false), (12, .known false), (14, .known false), (16, .known false), (18, .known false), (20, .known false), (22, .known false), (24, .known false), (26, .known false), (28, .known false), (30, .known false), (32, .known false), (34, .known false), (36, .known false), (38, .known false), (41, .val (.dat .bool false))] [] [0, 1, 5, 6, 7, 8, 9] [] (fr' := [(0, aI a0), (1, aD (.slice .bool) a1), (5, aI (List.length a1 : Int)), (6, aI x147.1), (7, aI x147.2), (8, aB false), (9, aI i414)]) (L' := []) (out := [(25, aB x415), (26, aB x415), (27, .tup []), (28, .tup []), (29, .tup []), (30, .tup []), (31, .tup []), (32, .tup []), (33, .tup []), (34, .tup []), (35, .tup []), (36, .tup []), (37, .tup []), (38, .tup []), (39, .tup []), (40, .tup []), (41, .tup []), (42, .tup []), (43, .tup []), (44, .tup []), (45, aB false)]) (obs := [(x415 = false), (x415 = false), (x415 = false), (x415 = false), (x415 = false), (x415 = false), (x415 = false), (x415 = false), (x415 = false), (x415 = false), (x415 = false), (x415 = false), (x415 = false), (x415 = false), (x415 = false), (x415 = false), (x415 = false), (x415 = false), (x415 = false)]) (obs2 := []) (calls := []) (by kernel_rfl) (by kernel_rfl) (by kernel_rfl) (by kernel_rfl) (allP2 h420 (allP2 h420 (allP2 h420 (allP2 h420 (allP2 h420 (allP2 h420 (allP2 h420 (allP2 h420 (allP2 h420 (allP2 h420 (allP2 h420 (allP2 h420 (allP2 h420 (allP2 h420 (allP2 h420 (allP2 h420 (allP2 h420 (allP2 h420 (allP1 h420))))))))))))))))))) allC0 (by kernel_rfl) allP0 ?_
              refine blockQ_norm ?_
              refine seqQ_norm ?_
              obtain rfl := Option.some.inj h
              refine W_run 3 [] [0, 1, 5, 6, 7, 8, 9] [] (fr' := [(0, aI a0), (1, aD (.slice .bool) a1), (5, aI (List.length a1 : Int)), (6, aI x147.1), (7, aI x147.2), (8, aB false), (9, aI (w64 (i414 + (1 : Int))))]) (L' := []) (obs := []) (by kernel_rfl) (by kernel_rfl) (by kernel_rfl) allP0 ?_
              exact round_next' (by kernel_rfl) (by kernel_rfl)
          · obtain rfl := stepL_false h419 h
            refine W_exit (id := 2) [0, 1, 5, 6, 7, 8] [] (fr' := [(0, aI a0), (1, aD (.slice .bool) a1), (5, aI (List.length a1 : Int)), (6, aI x147.1), (7, aI x147.2), (8, aB x415)]) (L' := []) (by kernel_rfl) (by kernel_rfl) ?_
            refine seqQ_exit ?_
            refine round_exit ?_
            exact exQ_mk (by kernel_rfl) (by kernel_rfl)
        · intro e fr L hJ
          obtain ⟨rfl, rfl, rfl⟩ := hJ
          refine LT_keep [0, 1, 5, 6, 7, 8] [] (fr' := [(0, aI a0), (1, aD (.slice .bool) a1), (5, aI (List.length a1 : Int)), (6, aI x147.1), (7, aI x147.2), (8, aB v430)]) (L' := []) (by kernel_rfl) ?_
          refine blockQ_hit ?_
          refine seqQ_norm ?_
          refine W_seq (by kernel_rfl) ?_
          refine W_run 1 [] [0, 1, 5, 6, 7, 46] [] (fr' := [(0, aI a0), (1, aD (.slice .bool) a1), (5, aI (List.length a1 : Int)), (6, aI x147.1), (7, aI x147.2), (46, aB v430)]) (L' := []) (obs := []) (by kernel_rfl) (by kernel_rfl) (by kernel_rfl) allP0 ?_
          refine seqQ_norm ?_
          refine W_cond (o := .tmp 46) (b := v430) (by kernel_rfl) (by kernel_rfl) (fun h435 => ?_) (fun h435 => ?_)
          · replace h := ofT h435 h
            obtain rfl := Option.some.inj h
            refine W_run 3 [] [0, 1, 5, 6, 7] [] (fr' := [(0, aI a0), (1, aD (.slice .bool) a1), (5, aI (List.length a1 : Int)), (6, aI (w64 (x147.1 + (1 : Int)))), (7, aI x147.2)]) (L' := []) (obs := []) (by kernel_rfl) (by kernel_rfl) (by kernel_rfl) allP0 ?_
            refine blockQ_norm ?_
            exact exQ_mk (by kernel_rfl) (by kernel_rfl)
          · replace h := ofF h435 h
            obtain rfl := Option.some.inj h
            refine W_skip [0, 1, 5, 6, 7] [] (fr' := [(0, aI a0), (1, aD (.slice .bool) a1), (5, aI (List.length a1 : Int)), (6, aI x147.1), (7, aI x147.2)]) (L' := []) (by kernel_rfl) (by kernel_rfl) ?_
            refine blockQ_norm ?_
            exact exQ_mk (by kernel_rfl) (by kernel_rfl)
      · intro e fr L hJ
        obtain ⟨rfl, rfl, rfl⟩ := hJ
        refine LT_keep [0, 1, 5, 6, 7] [] (fr' := [(0, aI a0), (1, aD (.slice .bool) a1), (5, aI (List.length a1 : Int)), (6, aI v436), (7, aI x147.2)]) (L' := []) (by kernel_rfl) ?_
        refine seqQ_norm ?_
        obtain rfl := Option.some.inj h
        refine W_run 3 [] [0, 1, 5, 6, 7] [] (fr' := [(0, aI a0), (1, aD (.slice .bool) a1), (5, aI (List.length a1 : Int)), (6, aI v436), (7, aI (w64 (x147.2 + (1 : Int))))]) (L' := []) (obs := []) (by kernel_rfl) (by kernel_rfl) (by kernel_rfl) allP0 ?_
        exact round_next' (by kernel_rfl) (by kernel_rfl)
    · replace h := ofF h294 h
      obtain rfl := Option.some.inj h
      refine W_exit (id := 0) [6] [] (fr' := [(6, aI x147.1)]) (L' := []) (by kernel_rfl) (by kernel_rfl) ?_
      refine seqQ_exit ?_
      refine round_exit ?_
      exact exQ_mk (by kernel_rfl) (by kernel_rfl)
  · intro e fr L hJ
    obtain ⟨rfl, rfl, rfl⟩ := hJ
    refine LT_keep [6] [] (fr' := [(6, aI v438)]) (L' := []) (by kernel_rfl) ?_
    refine blockQ_hit ?_
    refine seqQ_norm ?_
    refine W_seq (by kernel_rfl) ?_
    refine W_run 2 [] [4] [] (fr' := [(4, aI v438)]) (L' := []) (obs := []) (by kernel_rfl) (by kernel_rfl) (by kernel_rfl) allP0 ?_
    refine seqQ_norm ?_
    obtain rfl := Option.some.inj h
    refine W_ret [4] [] (fr' := [(4, aI v438)]) (L' := []) (by kernel_rfl) (by kernel_rfl) ?_
    exact retQ_mk (by kernel_rfl) (by kernel_rfl) (by kernel_rfl)

@[reducible] def law_CellManies_s1 (v : Bool) : Fr × LL := ([(4, aB v)], [])
@[reducible] def law_CellManies_s2 (a0 : Int) (a1 : (List Bool)) (r1 : (Int × Int)) (v : Int) : Fr × LL := ([(0, aI a0), (1, aD (.slice .bool) a1), (5, aI r1.1), (6, aI r1.2), (7, aI v)], [])
def law_CellManies (fuel : Nat) (a0 : Int) (a1 : (List Bool)) : Option Bool :=
(cell_Many a0 a1).bind fun r1 =>
(law_ruleCode a0).bind fun r3 =>
(bif (r3 == (0 : Int)) && (decide ((List.length a1 : Int) > (12 : Int))) then
(some (1 : Int))
else
(some r3)).bind fun v8 =>
bif v8 != (0 : Int) then
(some ((r1.2 == v8) && (r1.1 == (0 : Int))))
else
((bif r1.2 == (0 : Int) then
((ref_Aheads fuel a0 a1).bind fun r18 =>
some (r1.1 == r18))
else
(some false)).bind fun v20 =>
some v20)
theorem law_CellManies_ok {fuel : Nat} {a0 : Int} {a1 : (List Bool)} {r : Bool} (h : law_CellManies fuel a0 a1 = some r) : FnC Try.prog 3 [aI a0, aD (.slice .bool) a1] [] (aB r) [] := by
  refine fnC_of_W (B := bodyOf Try.f3) (n := 41) Try.func3 (by kernel_rfl) (by kernel_rfl) (by kernel_rfl) (by kernel_rfl) (by kernel_rfl) ?_
  intro K
  refine W_seq (by kernel_rfl) ?_
  refine W_run 1 [] [0, 1] [] (fr' := [(0, aI a0), (1, aD (.slice .bool) a1)]) (L' := []) (obs := []) (by kernel_rfl) (by kernel_rfl) (by kernel_rfl) allP0 ?_
  refine seqQ_norm ?_
  refine W_seq (by kernel_rfl) ?_
  refine W_region (by kernel_rfl) ?_
  refine WO_run (j := 2) (k := 2) (orcs := []) (kF := [0, 1, 9, 10]) (kL := []) (fr' := [(0, aI a0), (1, aD (.slice .bool) a1), (9, aI a0), (10, aD (.slice .bool) a1)]) (L' := []) (obs := []) rfl (by kernel_rfl) allP0 ?_
  obtain ⟨r1, h2, h⟩ := bind_of h
  refine WO_call0 (us := [none, none]) (d := 11) (p := True) (j := 3) rfl ⟨by kernel_rfl, by kernel_rfl, by kernel_rfl⟩ trivial (cell_Many_ok h2) (by kernel_rfl) ?_
  refine WO_run (j := 8) (k := 5) (orcs := []) (kF := [0, 1, 5, 6]) (kL := []) (fr' := [(0, aI a0), (1, aD (.slice .bool) a1), (5, aI r1.1), (6, aI r1.2)]) (L' := []) (obs := []) rfl (by kernel_rfl) allP0 ?_
  refine WO_fin [0, 1, 5, 6] [] (fr' := [(0, aI a0), (1, aD (.slice .bool) a1), (5, aI r1.1), (6, aI r1.2)]) (L' := []) (by kernel_rfl) (by kernel_rfl) ?_
  refine seqQ_norm ?_
  refine W_seq (by kernel_rfl) ?_
  refine W_region (by kernel_rfl) ?_
  refine WO_run (j := 1) (k := 1) (orcs := []) (kF := [0, 1, 5, 6, 14]) (kL := []) (fr' := [(0, aI a0), (1, aD (.slice .bool) a1), (5, aI r1.1), (6, aI r1.2), (14, aI a0)]) (L' := []) (obs := []) rfl (by kernel_rfl) allP0 ?_
  obtain ⟨r3, h4, h⟩ := bind_of h
  refine WO_call0 (us := [none]) (d := 15) (p := True) (j := 2) rfl ⟨by kernel_rfl, by kernel_rfl, by kernel_rfl⟩ trivial (law_ruleCode_ok h4) (by kernel_rfl) ?_
  refine WO_run (j := 3) (k := 1) (orcs := []) (kF := [0, 1, 5, 6, 7]) (kL := []) (fr' := [(0, aI a0), (1, aD (.slice .bool) a1), (5, aI r1.1), (6, aI r1.2), (7, aI r3)]) (L' := []) (obs := []) rfl (by kernel_rfl) allP0 ?_
  refine WO_fin [0, 1, 5, 6, 7] [] (fr' := [(0, aI a0), (1, aD (.slice .bool) a1), (5, aI r1.1), (6, aI r1.2), (7, aI r3)]) (L' := []) (by kernel_rfl) (by kernel_rfl) ?_
  refine seqQ_norm ?_
  refine W_seq (by kernel_rfl) ?_
  obtain ⟨v8, h9, h⟩ := bind_of h
  refine W_cutK (Q' := (exQ .normal (law_CellManies_s2 a0 a1 r1)) v8) ?_ ?_
  · replace h := h9
    refine W_seq (by kernel_rfl) ?_
    refine W_run 7 [] [0, 1, 5, 6, 7, 22] [] (fr' := [(0, aI a0), (1, aD (.slice .bool) a1), (5, aI r1.1), (6, aI r1.2), (7, aI r3), (22, aB ((r3 == (0 : Int)) && (decide ((List.length a1 : Int) > (12 : Int)))))]) (L' := []) (obs := []) (by kernel_rfl) (by kernel_rfl) (by kernel_rfl) allP0 ?_
    refine seqQ_norm ?_
    refine W_cond (o := .tmp 22) (b := (r3 == (0 : Int)) && (decide ((List.length a1 : Int) > (12 : Int)))) (by kernel_rfl) (by kernel_rfl) (fun h7 => ?_) (fun h7 => ?_)
    · replace h := ofT h7 h
      obtain rfl := Option.some.inj h
      refine W_run 1 [] [0, 1, 5, 6, 7] [] (fr' := [(0, aI a0), (1, aD (.slice .bool) a1), (5, aI r1.1), (6, aI r1.2), (7, aI (1 : Int))]) (L' := []) (obs := []) (by kernel_rfl) (by kernel_rfl) (by kernel_rfl) allP0 ?_
      exact exQ_mk (by kernel_rfl) (by kernel_rfl)
    · replace h := ofF h7 h
      obtain rfl := Option.some.inj h
      refine W_skip [0, 1, 5, 6, 7] [] (fr' := [(0, aI a0), (1, aD (.slice .bool) a1), (5, aI r1.1), (6, aI r1.2), (7, aI r3)]) (L' := []) (by kernel_rfl) (by kernel_rfl) ?_
      exact exQ_mk (by kernel_rfl) (by kernel_rfl)
  · intro e fr L hJ
    obtain ⟨rfl, rfl, rfl⟩ := hJ
    refine LT_keep [0, 1, 5, 6, 7] [] (fr' := [(0, aI a0), (1, aD (.slice .bool) a1), (5, aI r1.1), (6, aI r1.2), (7, aI v8)]) (L' := []) (by kernel_rfl) ?_
    refine seqQ_norm ?_
    refine W_seq (by kernel_rfl) ?_
    refine W_seq (by kernel_rfl) ?_
    refine W_run 2 [] [0, 1, 5, 6, 7, 24] [] (fr' := [(0, aI a0), (1, aD (.slice .bool) a1), (5, aI r1.1), (6, aI r1.2), (7, aI v8), (24, aB (v8 != (0 : Int)))]) (L' := []) (obs := []) (by kernel_rfl) (by kernel_rfl) (by kernel_rfl) allP0 ?_
    refine seqQ_norm ?_
    refine W_cond (o := .tmp 24) (b := v8 != (0 : Int)) (by kernel_rfl) (by kernel_rfl) (fun h10 => ?_) (fun h10 => ?_)
    · replace h := ofT h10 h
      refine W_seq (by kernel_rfl) ?_
      refine W_run 8 [] [4] [] (fr' := [(4, aB ((r1.2 == v8) && (r1.1 == (0 : Int))))]) (L' := []) (obs := []) (by kernel_rfl) (by kernel_rfl) (by kernel_rfl) allP0 ?_
      refine seqQ_norm ?_
      obtain rfl := Option.some.inj h
      refine W_ret [4] [] (fr' := [(4, aB ((r1.2 == v8) && (r1.1 == (0 : Int))))]) (L' := []) (by kernel_rfl) (by kernel_rfl) ?_
      refine seqQ_ret ?_
      exact retQ_mk (by kernel_rfl) (by kernel_rfl) (by kernel_rfl)
    · replace h := ofF h10 h
      refine W_skip [0, 1, 5, 6] [] (fr' := [(0, aI a0), (1, aD (.slice .bool) a1), (5, aI r1.1), (6, aI r1.2)]) (L' := []) (by kernel_rfl) (by kernel_rfl) ?_
      refine seqQ_norm ?_
      refine W_seq (by kernel_rfl) ?_
      obtain ⟨v20, h21, h⟩ := bind_of h
      refine W_cutK (Q' := (exQ .normal law_CellManies_s1) v20) ?_ ?_
      · replace h := h21
        refine W_region (by kernel_rfl) ?_
        refine WO_run (j := 3) (k := 3) (orcs := []) (kF := [0, 1, 5, 34]) (kL := []) (fr' := [(0, aI a0), (1, aD (.slice .bool) a1), (5, aI r1.1), (34, aB (r1.2 == (0 : Int)))]) (L' := []) (obs := []) rfl (by kernel_rfl) allP0 ?_
        rcases Bool.eq_false_or_eq_true (r1.2 == (0 : Int)) with h17 | h17
        · replace h := ofT h17 h
          refine WO_run (j := 6) (k := 3) (orcs := [(6, .known true), (8, .known true), (10, .known true)]) (kF := [34, 35, 36, 37]) (kL := []) (fr' := [(34, aB (r1.2 == (0 : Int))), (35, aI r1.1), (36, aI a0), (37, aD (.slice .bool) a1)]) (L' := []) (obs := [((r1.2 == (0 : Int)) = true), ((r1.2 == (0 : Int)) = true), ((r1.2 == (0 : Int)) = true)]) rfl (by kernel_rfl) (allP2 h17 (allP2 h17 (allP1 h17))) ?_
          obtain ⟨r18, h19, h⟩ := bind_of h
          refine WO_call0 (us := [none, none]) (d := 38) (p := ((r1.2 == (0 : Int)) = true)) (j := 7) rfl ⟨by kernel_rfl, by kernel_rfl, by kernel_rfl⟩ h17 (ref_Aheads_ok h19) (by kernel_rfl) ?_
          refine WO_run (j := 10) (k := 3) (orcs := [(14, .known true), (17, .val (.dat .bool true))]) (kF := [4]) (kL := []) (fr' := [(4, aB (r1.1 == r18))]) (L' := []) (obs := [((r1.2 == (0 : Int)) = true), ((r1.2 == (0 : Int)) = true)]) rfl (by kernel_rfl) (allP2 h17 (allP1 h17)) ?_
          obtain rfl := Option.some.inj h
          refine WO_fin [4] [] (fr' := [(4, aB (r1.1 == r18))]) (L' := []) (by kernel_rfl) (by kernel_rfl) ?_
          exact exQ_mk (by kernel_rfl) (by kernel_rfl)
        · replace h := ofF h17 h
          refine WO_run (j := 10) (k := 7) (orcs := [(6, .known false), (8, .known false), (10, .known false), (12, .known false), (14, .known false), (17, .val (.dat .bool false))]) (kF := [4]) (kL := []) (fr' := [(4, aB false)]) (L' := []) (obs := [((r1.2 == (0 : Int)) = false), ((r1.2 == (0 : Int)) = false), ((r1.2 == (0 : Int)) = false), ((r1.2 == (0 : Int)) = false), ((r1.2 == (0 : Int)) = false), ((r1.2 == (0 : Int)) = false)]) rfl (by kernel_rfl) (allP2 h17 (allP2 h17 (allP2 h17 (allP2 h17 (allP2 h17 (allP1 h17)))))) ?_
          obtain rfl := Option.some.inj h
          refine WO_fin [4] [] (fr' := [(4, aB false)]) (L' := []) (by kernel_rfl) (by kernel_rfl) ?_
          exact exQ_mk (by kernel_rfl) (by kernel_rfl)
      · intro e fr L hJ
        obtain ⟨rfl, rfl, rfl⟩ := hJ
        refine LT_keep [4] [] (fr' := [(4, aB v20)]) (L' := []) (by kernel_rfl) ?_
        refine seqQ_norm ?_
        obtain rfl := Option.some.inj h
        refine W_ret [4] [] (fr' := [(4, aB v20)]) (L' := []) (by kernel_rfl) (by kernel_rfl) ?_
        exact retQ_mk (by kernel_rfl) (by kernel_rfl) (by kernel_rfl)
end Go.Proofs.Ytpkbglckacoccaa.cellManies
