/- What the functions that CodeRuns calls compute, as models, and that they compute it: written by a program of mine. -/
import Derived.Test.YtbjfglckfknheaaProg
import Derived.Test.YtbjfglckfknheaaSl5
set_option linter.all false
set_option maxRecDepth 100000
namespace Go.Proofs.Ytbjfglckfknheaa.codeRuns
open Go Go.Sl
noncomputable def slices_Chunk_Lintint (a0 : (List Int)) (a1 : Int) : Option ((List Int) × Int) :=
bif decide (a1 < (1 : Int)) then
(none)
else
(some (a0, a1))
theorem slices_Chunk_Lintint_ok {a0 : (List Int)} {a1 : Int} {r : ((List Int) × Int)} (h : slices_Chunk_Lintint a0 a1 = some r) : FnC Try.prog 37 [aD (.slice tI) a0, aI a1] [] (.one (.fn 52 [(2, 0), (3, 0)])) [(2, .cells [.dat (.slice tI) r.1]), (3, .cells [.dat tI r.2])] := by
  refine fnC_of_W (B := bodyOf Try.f37) (n := 9) Try.func37 (by kernel_rfl) (by kernel_rfl) (by kernel_rfl) (by kernel_rfl) (by kernel_rfl) ?_
  intro K
  refine W_seq (by kernel_rfl) ?_
  refine W_run 3 [] [2, 3] [2, 3] (fr' := [(2, .one (.ptr 2 0)), (3, .one (.ptr 3 0))]) (L' := [(2, .cells [.dat (.slice tI) a0]), (3, .cells [.dat tI a1])]) (obs := []) (by kernel_rfl) (by kernel_rfl) (by kernel_rfl) allP0 ?_
  refine seqQ_norm ?_
  refine W_seq (by kernel_rfl) ?_
  refine W_seq (by kernel_rfl) ?_
  refine W_run 2 [] [2, 3, 6] [2, 3] (fr' := [(2, .one (.ptr 2 0)), (3, .one (.ptr 3 0)), (6, aB (decide (a1 < (1 : Int))))]) (L' := [(2, .cells [.dat (.slice tI) a0]), (3, .cells [.dat tI a1])]) (obs := []) (by kernel_rfl) (by kernel_rfl) (by kernel_rfl) allP0 ?_
  refine seqQ_norm ?_
  refine W_cond (o := .tmp 6) (b := decide (a1 < (1 : Int))) (by kernel_rfl) (by kernel_rfl) (fun h4 => ?_) (fun h4 => ?_)
  · replace h := ofT h4 h
    cases h
  · replace h := ofF h4 h
    refine W_skip [2, 3] [2, 3] (fr' := [(2, .one (.ptr 2 0)), (3, .one (.ptr 3 0))]) (L' := [(2, .cells [.dat (.slice tI) a0]), (3, .cells [.dat tI a1])]) (by kernel_rfl) (by kernel_rfl) ?_
    refine seqQ_norm ?_
    refine W_seq (by kernel_rfl) ?_
    refine W_run 2 [] [4] [2, 3] (fr' := [(4, .one (.fn 52 [(2, 0), (3, 0)]))]) (L' := [(2, .cells [.dat (.slice tI) a0]), (3, .cells [.dat tI a1])]) (obs := []) (by kernel_rfl) (by kernel_rfl) (by kernel_rfl) allP0 ?_
    refine seqQ_norm ?_
    obtain rfl := Option.some.inj h
    refine W_ret [4] [2, 3] (fr' := [(4, .one (.fn 52 [(2, 0), (3, 0)]))]) (L' := [(2, .cells [.dat (.slice tI) a0]), (3, .cells [.dat tI a1])]) (by kernel_rfl) (by kernel_rfl) ?_
    exact retQ_mk (by kernel_rfl) (by kernel_rfl) (by kernel_rfl)

@[reducible] noncomputable def slices_Chunk_Lintint_1_for_code_Orders_SX (v : (Int × (List (Int × (Int × (Int × Int)))))) : LL := [(1002, .cells [.nilS]), (1003, .cells [.dat tI v.1]), (1004, .cells [.slc 2005]), (2005, .seq (.pair tI (.pair tI (.pair tI tI))) v.2)]
@[reducible] noncomputable def slices_Chunk_Lintint_1_for_code_Orders_S (_y : (List Int)) (v : (Int × (List (Int × (Int × (Int × Int)))))) : LL := [(1002, .cells [.nilS]), (1003, .cells [.dat tI v.1]), (1004, .cells [.slc 2005]), (2005, .seq (.pair tI (.pair tI (.pair tI tI))) v.2)]
noncomputable def slices_Chunk_Lintint_1_for_code_Orders_b1 (c0 : (List Int)) (c1 : Int) (rf_y : (List Int) → (Int × (List (Int × (Int × (Int × Int))))) → Option (Flow (Int × (List (Int × (Int × (Int × Int))))) (Int × (List (Int × (Int × (Int × Int))))))) (x11 : (Int × Int × (List (Int × (Int × (Int × Int)))))) : Option (Flow (Int × Int × (List (Int × (Int × (Int × Int))))) (Esc (Int × (List (Int × (Int × (Int × Int))))) (Int × (List (Int × (Int × (Int × Int))))))) :=
bif decide (x11.1 < (List.length c0 : Int)) then
((ck (0 ≤ x11.1 ∧ x11.1 ≤ (List.length c0 : Int) ∧ (List.length c0 : Int) ≤ (List.length c0 : Int))).bind fun _ =>
(ck (0 ≤ x11.1 ∧ x11.1 ≤ w64 (x11.1 + (imin c1 (List.length (sub c0 x11.1 (List.length c0 : Int)) : Int))) ∧ w64 (x11.1 + (imin c1 (List.length (sub c0 x11.1 (List.length c0 : Int)) : Int))) ≤ (List.length c0 : Int) ∧ w64 (x11.1 + (imin c1 (List.length (sub c0 x11.1 (List.length c0 : Int)) : Int))) = w64 (x11.1 + (imin c1 (List.length (sub c0 x11.1 (List.length c0 : Int)) : Int))))).bind fun _ =>
(rf_y (sub c0 x11.1 (w64 (x11.1 + (imin c1 (List.length (sub c0 x11.1 (List.length c0 : Int)) : Int))))) (x11.2.1, x11.2.2)).bind fun r24 =>
match r24 with
| .next v26 =>
(some (.next (w64 (x11.1 + c1), v26.1, v26.2)))
| .done v27 =>
(some (.done (.ret (v27.1, v27.2)))))
else
(some (.done (.brk (x11.2.1, x11.2.2))))
@[reducible] noncomputable def slices_Chunk_Lintint_1_for_code_Orders_s2 (rl : Nat) (rfn : Nat) (rtm : Array Value) (rdd : Nat) (c0 : (List Int)) (c1 : Int) (v : (Int × Int × (List (Int × (Int × (Int × Int)))))) : Fr × LL := ([(0, .one (.yl rl)), (1, .one (.ptr 1000 0)), (2, .one (.ptr 1001 0)), (4, aI v.1)], [(1000, .cells [.dat (.slice tI) c0]), (1001, .cells [.dat tI c1]), (1002, .cells [.nilS]), (1003, .cells [.dat tI v.2.1]), (1004, .cells [.slc 2005]), (1999, .raw rl (.loop (recOf rfn rtm 15 (nav (bodyOf Try.f12) [0, 0, 1, 0, 1, 1, 1]) (nav (bodyOf Try.f12) [1, 0, 1, 0, 1, 1, 1]) rdd))), (2005, .seq (.pair tI (.pair tI (.pair tI tI))) v.2.2)])
@[reducible] noncomputable def slices_Chunk_Lintint_1_for_code_Orders_s3 (rl : Nat) (rfn : Nat) (rtm : Array Value) (rdd : Nat) (c0 : (List Int)) (c1 : Int) (v : (Int × (List (Int × (Int × (Int × Int)))))) : Fr × LL := ([], [(1000, .cells [.dat (.slice tI) c0]), (1001, .cells [.dat tI c1]), (1002, .cells [.nilS]), (1003, .cells [.dat tI v.1]), (1004, .cells [.slc 2005]), (2005, .seq (.pair tI (.pair tI (.pair tI tI))) v.2), (1999, .raw rl (.loop (endRec .ret (recOf rfn rtm 15 (nav (bodyOf Try.f12) [0, 0, 1, 0, 1, 1, 1]) (nav (bodyOf Try.f12) [1, 0, 1, 0, 1, 1, 1]) rdd))))])
@[reducible] noncomputable def slices_Chunk_Lintint_1_for_code_Orders_s4 (rl : Nat) (rfn : Nat) (rtm : Array Value) (rdd : Nat) (c0 : (List Int)) (c1 : Int) (v : (Int × (List (Int × (Int × (Int × Int)))))) : Fr × LL := ([], [(1000, .cells [.dat (.slice tI) c0]), (1001, .cells [.dat tI c1]), (1002, .cells [.nilS]), (1003, .cells [.dat tI v.1]), (1004, .cells [.slc 2005]), (1999, .raw rl (.loop (recOf rfn rtm 15 (nav (bodyOf Try.f12) [0, 0, 1, 0, 1, 1, 1]) (nav (bodyOf Try.f12) [1, 0, 1, 0, 1, 1, 1]) rdd))), (2005, .seq (.pair tI (.pair tI (.pair tI tI))) v.2)])
noncomputable def slices_Chunk_Lintint_1_for_code_Orders (rf_y : (List Int) → (Int × (List (Int × (Int × (Int × Int))))) → Option (Flow (Int × (List (Int × (Int × (Int × Int))))) (Int × (List (Int × (Int × (Int × Int))))))) (fuel : Nat) (c0 : (List Int)) (c1 : Int) (x0 : (Int × (List (Int × (Int × (Int × Int)))))) : Option (Flow (Int × (List (Int × (Int × (Int × Int))))) (Int × (List (Int × (Int × (Int × Int)))))) :=
(iter (slices_Chunk_Lintint_1_for_code_Orders_b1 c0 c1 rf_y) fuel ((0 : Int), x0.1, x0.2)).bind fun v30 =>
match v30 with
| .ret v34 =>
(some (.done (v34.1, v34.2)))
| .brk v35 =>
(some (.next (v35.1, v35.2)))
theorem slices_Chunk_Lintint_1_for_code_Orders_ok {rf_y : (List Int) → (Int × (List (Int × (Int × (Int × Int))))) → Option (Flow (Int × (List (Int × (Int × (Int × Int))))) (Int × (List (Int × (Int × (Int × Int))))))} (ih_y : ∀ {l : Nat} {y : (List Int)} {x : (Int × (List (Int × (Int × (Int × Int)))))} {s : Flow (Int × (List (Int × (Int × (Int × Int))))) (Int × (List (Int × (Int × (Int × Int)))))}, rf_y y x = some s → BodyC Try.prog 49 (nav (bodyOf Try.f12) [1, 0, 1, 0, 1, 1, 1]) l (putF (putF [(4, .one (.ptr 1002 0)), (5, .one (.ptr 1003 0)), (6, .one (.ptr 1004 0))] 15 (.one (.cdat tI y))) 7 (.one (.cdat tI y))) (slices_Chunk_Lintint_1_for_code_Orders_S y x) (fpost (slices_Chunk_Lintint_1_for_code_Orders_S y) .ret s)) {fuel : Nat} {c0 : (List Int)} {c1 : Int} {x0 : (Int × (List (Int × (Int × (Int × Int)))))} {r : Flow (Int × (List (Int × (Int × (Int × Int))))) (Int × (List (Int × (Int × (Int × Int)))))} (h : slices_Chunk_Lintint_1_for_code_Orders rf_y fuel c0 c1 x0 = some r) {rl rfn rdd : Nat} {rtm : Array Value} (htm : rtm.size = 49) : FnI Try.prog 52 [.one (.yl rl), .one (.ptr 1000 0), .one (.ptr 1001 0)] (([(1000, .cells [.dat (.slice tI) c0]), (1001, .cells [.dat tI c1])] ++ slices_Chunk_Lintint_1_for_code_Orders_SX x0) ++ [(1999, .raw rl (.loop (recOf rfn rtm 15 (nav (bodyOf Try.f12) [0, 0, 1, 0, 1, 1, 1]) (nav (bodyOf Try.f12) [1, 0, 1, 0, 1, 1, 1]) rdd)))]) (.tup []) (([(1000, .cells [.dat (.slice tI) c0]), (1001, .cells [.dat tI c1])] ++ slices_Chunk_Lintint_1_for_code_Orders_SX (fval r)) ++ [(1999, .raw rl (.loop (endRec (fex .ret r) (recOf rfn rtm 15 (nav (bodyOf Try.f12) [0, 0, 1, 0, 1, 1, 1]) (nav (bodyOf Try.f12) [1, 0, 1, 0, 1, 1, 1]) rdd))))]) 49 [(4, .one (.ptr 1002 0)), (5, .one (.ptr 1003 0)), (6, .one (.ptr 1004 0))] rtm := by
  refine fnI_of_W [] (B := bodyOf Try.f52) (n := 31) Try.func52 (by kernel_rfl) (by kernel_rfl) (by kernel_rfl) (by kernel_rfl) (by kernel_rfl) (by kernel_rfl) (by kernel_rfl) ?_
  intro K hF
  refine W_seq (by kernel_rfl) ?_
  refine W_run 1 [] [0, 1, 2, 4] [1000, 1001, 1002, 1003, 1004, 1999, 2005] (fr' := [(0, .one (.yl rl)), (1, .one (.ptr 1000 0)), (2, .one (.ptr 1001 0)), (4, aI (0 : Int))]) (L' := [(1000, .cells [.dat (.slice tI) c0]), (1001, .cells [.dat tI c1]), (1002, .cells [.nilS]), (1003, .cells [.dat tI x0.1]), (1004, .cells [.slc 2005]), (1999, .raw rl (.loop (recOf rfn rtm 15 (nav (bodyOf Try.f12) [0, 0, 1, 0, 1, 1, 1]) (nav (bodyOf Try.f12) [1, 0, 1, 0, 1, 1, 1]) rdd))), (2005, .seq (.pair tI (.pair tI (.pair tI tI))) x0.2)]) (obs := []) (by kernel_rfl) (by kernel_rfl) (by kernel_rfl) allP0 ?_
  refine seqQ_norm ?_
  refine W_block (id := 0) (by kernel_rfl) ?_
  obtain ⟨v30, h31, h⟩ := bind_of h
  refine W_weaken [0, 1, 2, 4] [1000, 1001, 1002, 1003, 1004, 1999, 2005] (fr' := ((slices_Chunk_Lintint_1_for_code_Orders_s2 rl rfn rtm rdd c0 c1) ((0 : Int), x0.1, x0.2)).1) (L' := ((slices_Chunk_Lintint_1_for_code_Orders_s2 rl rfn rtm rdd c0 c1) ((0 : Int), x0.1, x0.2)).2) (by kernel_rfl) ?_
  refine W_cutK (W_loop (S := (slices_Chunk_Lintint_1_for_code_Orders_s2 rl rfn rtm rdd c0 c1)) (J := (escQ (exQ .ret (slices_Chunk_Lintint_1_for_code_Orders_s3 rl rfn rtm rdd c0 c1)) (exQ (.exit 0) (slices_Chunk_Lintint_1_for_code_Orders_s4 rl rfn rtm rdd c0 c1)))) (by kernel_rfl) ?_ fuel _ v30 h31) ?_
  · rintro x11 s h
    refine W_seq (by kernel_rfl) ?_
    refine W_seq (by kernel_rfl) ?_
    refine W_run 4 [] [0, 1, 2, 4, 9] [1000, 1001, 1002, 1003, 1004, 1999, 2005] (fr' := [(0, .one (.yl rl)), (1, .one (.ptr 1000 0)), (2, .one (.ptr 1001 0)), (4, aI x11.1), (9, aB (decide (x11.1 < (List.length c0 : Int))))]) (L' := [(1000, .cells [.dat (.slice tI) c0]), (1001, .cells [.dat tI c1]), (1002, .cells [.nilS]), (1003, .cells [.dat tI x11.2.1]), (1004, .cells [.slc 2005]), (1999, .raw rl (.loop (recOf rfn rtm 15 (nav (bodyOf Try.f12) [0, 0, 1, 0, 1, 1, 1]) (nav (bodyOf Try.f12) [1, 0, 1, 0, 1, 1, 1]) rdd))), (2005, .seq (.pair tI (.pair tI (.pair tI tI))) x11.2.2)]) (obs := []) (by kernel_rfl) (by kernel_rfl) (by kernel_rfl) allP0 ?_
    refine seqQ_norm ?_
    refine W_cond (o := .tmp 9) (b := decide (x11.1 < (List.length c0 : Int))) (by kernel_rfl) (by kernel_rfl) (fun h21 => ?_) (fun h21 => ?_)
    · replace h := ofT h21 h
      refine W_skip [0, 1, 2, 4] [1000, 1001, 1002, 1003, 1004, 1999, 2005] (fr' := [(0, .one (.yl rl)), (1, .one (.ptr 1000 0)), (2, .one (.ptr 1001 0)), (4, aI x11.1)]) (L' := [(1000, .cells [.dat (.slice tI) c0]), (1001, .cells [.dat tI c1]), (1002, .cells [.nilS]), (1003, .cells [.dat tI x11.2.1]), (1004, .cells [.slc 2005]), (1999, .raw rl (.loop (recOf rfn rtm 15 (nav (bodyOf Try.f12) [0, 0, 1, 0, 1, 1, 1]) (nav (bodyOf Try.f12) [1, 0, 1, 0, 1, 1, 1]) rdd))), (2005, .seq (.pair tI (.pair tI (.pair tI tI))) x11.2.2)]) (by kernel_rfl) (by kernel_rfl) ?_
      refine seqQ_norm ?_
      refine W_seq (by kernel_rfl) ?_
      refine W_block (id := 1) (by kernel_rfl) ?_
      refine W_seq (by kernel_rfl) ?_
      obtain ⟨_, h22, h⟩ := bind_of h
      replace h22 := ck_some h22
      refine W_draw2 6 [] [] [0, 1, 2, 4, 5] [1000, 1001, 1002, 1003, 1004, 1999, 2005] (fr' := [(0, .one (.yl rl)), (1, .one (.ptr 1000 0)), (2, .one (.ptr 1001 0)), (4, aI x11.1), (5, aI (imin c1 (List.length (sub c0 x11.1 (List.length c0 : Int)) : Int)))]) (L' := [(1000, .cells [.dat (.slice tI) c0]), (1001, .cells [.dat tI c1]), (1002, .cells [.nilS]), (1003, .cells [.dat tI x11.2.1]), (1004, .cells [.slc 2005]), (1999, .raw rl (.loop (recOf rfn rtm 15 (nav (bodyOf Try.f12) [0, 0, 1, 0, 1, 1, 1]) (nav (bodyOf Try.f12) [1, 0, 1, 0, 1, 1, 1]) rdd))), (2005, .seq (.pair tI (.pair tI (.pair tI tI))) x11.2.2)]) (out := [(13, aI c1), (14, aD (.slice tI) c0), (15, aI x11.1), (16, aD (.slice tI) (sub c0 x11.1 (List.length c0 : Int))), (17, aI (List.length (sub c0 x11.1 (List.length c0 : Int)) : Int)), (18, aI (imin c1 (List.length (sub c0 x11.1 (List.length c0 : Int)) : Int)))]) (obs := [Cuts x11.1 (List.length c0 : Int) (List.length c0)]) (obs2 := []) (calls := []) (by kernel_rfl) (by kernel_rfl) (by kernel_rfl) (by kernel_rfl) (allP1 h22) allC0 (by kernel_rfl) allP0 ?_
      refine seqQ_norm ?_
      refine W_seq (by kernel_rfl) ?_
      obtain ⟨_, h23, h⟩ := bind_of h
      replace h23 := ck_some h23
      obtain ⟨r24, h25, h⟩ := bind_of h
      rcases r24 with v26 | v27
      · refine W_yieldN [] 10 [] [0, 1, 2, 4, 19, 28] [1000, 1001, 1002, 1003, 1004, 1999, 2005] (obs := [Cuts x11.1 (w64 (x11.1 + (imin c1 (List.length (sub c0 x11.1 (List.length c0 : Int)) : Int)))) (List.length c0) ∧ w64 (x11.1 + (imin c1 (List.length (sub c0 x11.1 (List.length c0 : Int)) : Int))) = w64 (x11.1 + (imin c1 (List.length (sub c0 x11.1 (List.length c0 : Int)) : Int)))]) (fr1 := [(0, .one (.yl rl)), (1, .one (.ptr 1000 0)), (2, .one (.ptr 1001 0)), (4, aI x11.1), (19, .one (.yl rl)), (28, .one (.cdat tI (sub c0 x11.1 (w64 (x11.1 + (imin c1 (List.length (sub c0 x11.1 (List.length c0 : Int)) : Int)))))))]) (L1 := [(1000, .cells [.dat (.slice tI) c0]), (1001, .cells [.dat tI c1]), (1002, .cells [.nilS]), (1003, .cells [.dat tI x11.2.1]), (1004, .cells [.slc 2005]), (1999, .raw rl (.loop (recOf rfn rtm 15 (nav (bodyOf Try.f12) [0, 0, 1, 0, 1, 1, 1]) (nav (bodyOf Try.f12) [1, 0, 1, 0, 1, 1, 1]) rdd))), (2005, .seq (.pair tI (.pair tI (.pair tI tI))) x11.2.2)]) (d := 29) (l := rl) (nR := 1999) (n1 := 49) (q := 15) (d1 := 7) (y := .cdat tI (sub c0 x11.1 (w64 (x11.1 + (imin c1 (List.length (sub c0 x11.1 (List.length c0 : Int)) : Int)))))) (rec := recOf rfn rtm 15 (nav (bodyOf Try.f12) [0, 0, 1, 0, 1, 1, 1]) (nav (bodyOf Try.f12) [1, 0, 1, 0, 1, 1, 1]) rdd) (fr0 := [(4, .one (.ptr 1002 0)), (5, .one (.ptr 1003 0)), (6, .one (.ptr 1004 0))]) (Lin := slices_Chunk_Lintint_1_for_code_Orders_S (sub c0 x11.1 (w64 (x11.1 + (imin c1 (List.length (sub c0 x11.1 (List.length c0 : Int)) : Int))))) (x11.2.1, x11.2.2)) (Lo := slices_Chunk_Lintint_1_for_code_Orders_S (sub c0 x11.1 (w64 (x11.1 + (imin c1 (List.length (sub c0 x11.1 (List.length c0 : Int)) : Int))))) v26) (by kernel_rfl) rfl (by kernel_rfl) (allP1 ⟨⟨h23.1, h23.2.1, h23.2.2.1⟩, h23.2.2.2⟩) (by kernel_rfl) (by kernel_rfl) (by kernel_rfl) (recOk_of htm (by kernel_rfl) (by kernel_rfl) (by kernel_rfl)) hF (ih_y h25) (by kernel_rfl) (by kernel_rfl) (by kernel_rfl) (by kernel_rfl) ?_
        refine WO_run (j := 12) (k := 1) (orcs := []) (kF := [0, 1, 2, 4, 30]) (kL := [1000, 1001, 1002, 1003, 1004, 1999, 2005]) (fr' := [(0, .one (.yl rl)), (1, .one (.ptr 1000 0)), (2, .one (.ptr 1001 0)), (4, aI x11.1), (30, aB false)]) (L' := [(1000, .cells [.dat (.slice tI) c0]), (1001, .cells [.dat tI c1]), (1002, .cells [.nilS]), (1003, .cells [.dat tI v26.1]), (1004, .cells [.slc 2005]), (1999, .raw rl (.loop (recOf rfn rtm 15 (nav (bodyOf Try.f12) [0, 0, 1, 0, 1, 1, 1]) (nav (bodyOf Try.f12) [1, 0, 1, 0, 1, 1, 1]) rdd))), (2005, .seq (.pair tI (.pair tI (.pair tI tI))) v26.2)]) (obs := []) rfl (by kernel_rfl) allP0 ?_
        refine WO_fin [0, 1, 2, 4, 30] [1000, 1001, 1002, 1003, 1004, 1999, 2005] (fr' := [(0, .one (.yl rl)), (1, .one (.ptr 1000 0)), (2, .one (.ptr 1001 0)), (4, aI x11.1), (30, aB false)]) (L' := [(1000, .cells [.dat (.slice tI) c0]), (1001, .cells [.dat tI c1]), (1002, .cells [.nilS]), (1003, .cells [.dat tI v26.1]), (1004, .cells [.slc 2005]), (1999, .raw rl (.loop (recOf rfn rtm 15 (nav (bodyOf Try.f12) [0, 0, 1, 0, 1, 1, 1]) (nav (bodyOf Try.f12) [1, 0, 1, 0, 1, 1, 1]) rdd))), (2005, .seq (.pair tI (.pair tI (.pair tI tI))) v26.2)]) (by kernel_rfl) (by kernel_rfl) ?_
        refine seqQ_norm ?_
        refine W_cond (o := .tmp 30) (b := false) (by kernel_rfl) (by kernel_rfl) (fun h28 => by have := (rfl : false = false).symm.trans h28; cases this) (fun h28 => ?_)
        refine W_skip [0, 1, 2, 4] [1000, 1001, 1002, 1003, 1004, 1999, 2005] (fr' := [(0, .one (.yl rl)), (1, .one (.ptr 1000 0)), (2, .one (.ptr 1001 0)), (4, aI x11.1)]) (L' := [(1000, .cells [.dat (.slice tI) c0]), (1001, .cells [.dat tI c1]), (1002, .cells [.nilS]), (1003, .cells [.dat tI v26.1]), (1004, .cells [.slc 2005]), (1999, .raw rl (.loop (recOf rfn rtm 15 (nav (bodyOf Try.f12) [0, 0, 1, 0, 1, 1, 1]) (nav (bodyOf Try.f12) [1, 0, 1, 0, 1, 1, 1]) rdd))), (2005, .seq (.pair tI (.pair tI (.pair tI tI))) v26.2)]) (by kernel_rfl) (by kernel_rfl) ?_
        refine blockQ_norm ?_
        refine seqQ_norm ?_
        obtain rfl := Option.some.inj h
        refine W_run 4 [] [0, 1, 2, 4] [1000, 1001, 1002, 1003, 1004, 1999, 2005] (fr' := [(0, .one (.yl rl)), (1, .one (.ptr 1000 0)), (2, .one (.ptr 1001 0)), (4, aI (w64 (x11.1 + c1)))]) (L' := [(1000, .cells [.dat (.slice tI) c0]), (1001, .cells [.dat tI c1]), (1002, .cells [.nilS]), (1003, .cells [.dat tI v26.1]), (1004, .cells [.slc 2005]), (1999, .raw rl (.loop (recOf rfn rtm 15 (nav (bodyOf Try.f12) [0, 0, 1, 0, 1, 1, 1]) (nav (bodyOf Try.f12) [1, 0, 1, 0, 1, 1, 1]) rdd))), (2005, .seq (.pair tI (.pair tI (.pair tI tI))) v26.2)]) (obs := []) (by kernel_rfl) (by kernel_rfl) (by kernel_rfl) allP0 ?_
        exact round_next' (by kernel_rfl) (by kernel_rfl)
      · refine W_yieldD [] 10 [] [0, 1, 2, 4, 19, 28] [1000, 1001, 1002, 1003, 1004, 1999, 2005] (obs := [Cuts x11.1 (w64 (x11.1 + (imin c1 (List.length (sub c0 x11.1 (List.length c0 : Int)) : Int)))) (List.length c0) ∧ w64 (x11.1 + (imin c1 (List.length (sub c0 x11.1 (List.length c0 : Int)) : Int))) = w64 (x11.1 + (imin c1 (List.length (sub c0 x11.1 (List.length c0 : Int)) : Int)))]) (fr1 := [(0, .one (.yl rl)), (1, .one (.ptr 1000 0)), (2, .one (.ptr 1001 0)), (4, aI x11.1), (19, .one (.yl rl)), (28, .one (.cdat tI (sub c0 x11.1 (w64 (x11.1 + (imin c1 (List.length (sub c0 x11.1 (List.length c0 : Int)) : Int)))))))]) (L1 := [(1000, .cells [.dat (.slice tI) c0]), (1001, .cells [.dat tI c1]), (1002, .cells [.nilS]), (1003, .cells [.dat tI x11.2.1]), (1004, .cells [.slc 2005]), (1999, .raw rl (.loop (recOf rfn rtm 15 (nav (bodyOf Try.f12) [0, 0, 1, 0, 1, 1, 1]) (nav (bodyOf Try.f12) [1, 0, 1, 0, 1, 1, 1]) rdd))), (2005, .seq (.pair tI (.pair tI (.pair tI tI))) x11.2.2)]) (d := 29) (l := rl) (nR := 1999) (n1 := 49) (q := 15) (d1 := 7) (y := .cdat tI (sub c0 x11.1 (w64 (x11.1 + (imin c1 (List.length (sub c0 x11.1 (List.length c0 : Int)) : Int)))))) (rec := recOf rfn rtm 15 (nav (bodyOf Try.f12) [0, 0, 1, 0, 1, 1, 1]) (nav (bodyOf Try.f12) [1, 0, 1, 0, 1, 1, 1]) rdd) (fr0 := [(4, .one (.ptr 1002 0)), (5, .one (.ptr 1003 0)), (6, .one (.ptr 1004 0))]) (Lin := slices_Chunk_Lintint_1_for_code_Orders_S (sub c0 x11.1 (w64 (x11.1 + (imin c1 (List.length (sub c0 x11.1 (List.length c0 : Int)) : Int))))) (x11.2.1, x11.2.2)) (Lo := slices_Chunk_Lintint_1_for_code_Orders_S (sub c0 x11.1 (w64 (x11.1 + (imin c1 (List.length (sub c0 x11.1 (List.length c0 : Int)) : Int))))) v27) .ret rfl (by kernel_rfl) rfl (by kernel_rfl) (allP1 ⟨⟨h23.1, h23.2.1, h23.2.2.1⟩, h23.2.2.2⟩) (by kernel_rfl) (by kernel_rfl) (by kernel_rfl) (recOk_of htm (by kernel_rfl) (by kernel_rfl) (by kernel_rfl)) hF (ih_y h25) (by kernel_rfl) (by kernel_rfl) (by kernel_rfl) (by kernel_rfl) ?_
        refine WO_run (j := 12) (k := 1) (orcs := []) (kF := [0, 1, 2, 4, 30]) (kL := [1000, 1001, 1002, 1003, 1004, 1999, 2005]) (fr' := [(0, .one (.yl rl)), (1, .one (.ptr 1000 0)), (2, .one (.ptr 1001 0)), (4, aI x11.1), (30, aB true)]) (L' := [(1000, .cells [.dat (.slice tI) c0]), (1001, .cells [.dat tI c1]), (1002, .cells [.nilS]), (1003, .cells [.dat tI v27.1]), (1004, .cells [.slc 2005]), (1999, .raw rl (.loop (endRec .ret (recOf rfn rtm 15 (nav (bodyOf Try.f12) [0, 0, 1, 0, 1, 1, 1]) (nav (bodyOf Try.f12) [1, 0, 1, 0, 1, 1, 1]) rdd)))), (2005, .seq (.pair tI (.pair tI (.pair tI tI))) v27.2)]) (obs := []) rfl (by kernel_rfl) allP0 ?_
        refine WO_fin [0, 1, 2, 4, 30] [1000, 1001, 1002, 1003, 1004, 1999, 2005] (fr' := [(0, .one (.yl rl)), (1, .one (.ptr 1000 0)), (2, .one (.ptr 1001 0)), (4, aI x11.1), (30, aB true)]) (L' := [(1000, .cells [.dat (.slice tI) c0]), (1001, .cells [.dat tI c1]), (1002, .cells [.nilS]), (1003, .cells [.dat tI v27.1]), (1004, .cells [.slc 2005]), (1999, .raw rl (.loop (endRec .ret (recOf rfn rtm 15 (nav (bodyOf Try.f12) [0, 0, 1, 0, 1, 1, 1]) (nav (bodyOf Try.f12) [1, 0, 1, 0, 1, 1, 1]) rdd)))), (2005, .seq (.pair tI (.pair tI (.pair tI tI))) v27.2)]) (by kernel_rfl) (by kernel_rfl) ?_
        refine seqQ_norm ?_
        refine W_cond (o := .tmp 30) (b := true) (by kernel_rfl) (by kernel_rfl) (fun h29 => ?_) (fun h29 => by have := (rfl : true = true).symm.trans h29; cases this)
        obtain rfl := Option.some.inj h
        refine W_ret [] [1000, 1001, 1002, 1003, 1004, 2005, 1999] (fr' := []) (L' := [(1000, .cells [.dat (.slice tI) c0]), (1001, .cells [.dat tI c1]), (1002, .cells [.nilS]), (1003, .cells [.dat tI v27.1]), (1004, .cells [.slc 2005]), (2005, .seq (.pair tI (.pair tI (.pair tI tI))) v27.2), (1999, .raw rl (.loop (endRec .ret (recOf rfn rtm 15 (nav (bodyOf Try.f12) [0, 0, 1, 0, 1, 1, 1]) (nav (bodyOf Try.f12) [1, 0, 1, 0, 1, 1, 1]) rdd))))]) (by kernel_rfl) (by kernel_rfl) ?_
        refine blockQ_ret ?_
        refine seqQ_ret ?_
        refine round_ret ?_
        refine escQ_ret ?_
        exact exQ_mk (by kernel_rfl) (by kernel_rfl)
    · replace h := ofF h21 h
      obtain rfl := Option.some.inj h
      refine W_exit (id := 0) [] [1000, 1001, 1002, 1003, 1004, 1999, 2005] (fr' := []) (L' := [(1000, .cells [.dat (.slice tI) c0]), (1001, .cells [.dat tI c1]), (1002, .cells [.nilS]), (1003, .cells [.dat tI x11.2.1]), (1004, .cells [.slc 2005]), (1999, .raw rl (.loop (recOf rfn rtm 15 (nav (bodyOf Try.f12) [0, 0, 1, 0, 1, 1, 1]) (nav (bodyOf Try.f12) [1, 0, 1, 0, 1, 1, 1]) rdd))), (2005, .seq (.pair tI (.pair tI (.pair tI tI))) x11.2.2)]) (by kernel_rfl) (by kernel_rfl) ?_
      refine seqQ_exit ?_
      refine round_exit ?_
      refine escQ_brk ?_
      exact exQ_mk (by kernel_rfl) (by kernel_rfl)
  · intro e fr L hJ
    rcases v30 with v34 | v35
    · obtain ⟨rfl, rfl, rfl⟩ := hJ
      obtain rfl := Option.some.inj h
      refine LT_keep [] [1000, 1001, 1002, 1003, 1004, 2005, 1999] (fr' := []) (L' := [(1000, .cells [.dat (.slice tI) c0]), (1001, .cells [.dat tI c1]), (1002, .cells [.nilS]), (1003, .cells [.dat tI v34.1]), (1004, .cells [.slc 2005]), (2005, .seq (.pair tI (.pair tI (.pair tI tI))) v34.2), (1999, .raw rl (.loop (endRec .ret (recOf rfn rtm 15 (nav (bodyOf Try.f12) [0, 0, 1, 0, 1, 1, 1]) (nav (bodyOf Try.f12) [1, 0, 1, 0, 1, 1, 1]) rdd))))]) (by kernel_rfl) ?_
      refine blockQ_ret ?_
      exact retQ_mk (by kernel_rfl) (by kernel_rfl) (by kernel_rfl)
    · obtain ⟨rfl, rfl, rfl⟩ := hJ
      obtain rfl := Option.some.inj h
      refine LT_keep [] [1000, 1001, 1002, 1003, 1004, 2005, 1999] (fr' := []) (L' := [(1000, .cells [.dat (.slice tI) c0]), (1001, .cells [.dat tI c1]), (1002, .cells [.nilS]), (1003, .cells [.dat tI v35.1]), (1004, .cells [.slc 2005]), (2005, .seq (.pair tI (.pair tI (.pair tI tI))) v35.2), (1999, .raw rl (.loop (recOf rfn rtm 15 (nav (bodyOf Try.f12) [0, 0, 1, 0, 1, 1, 1]) (nav (bodyOf Try.f12) [1, 0, 1, 0, 1, 1, 1]) rdd)))]) (by kernel_rfl) ?_
      refine blockQ_hit ?_
      exact ⟨.inr rfl, by kernel_rfl, by kernel_rfl, by kernel_rfl⟩

noncomputable def count_Check_1 (a0 : Int) (c0 : (List (Int × (Int × (Int × Int))))) : Option Bool :=
some ((decide (a0 ≥ (0 : Int))) && (decide (a0 ≤ (List.length c0 : Int))))
theorem count_Check_1_ok {a0 : Int} {c0 : (List (Int × (Int × (Int × Int))))} {r : Bool} (h : count_Check_1 a0 c0 = some r) : FnC Try.prog 53 [aI a0, .one (.ptr 1000 0)] [(1000, .cells [.slc 1001]), (1001, .seq (.pair tI (.pair tI (.pair tI tI))) c0)] (aB r) [(1000, .cells [.slc 1001]), (1001, .seq (.pair tI (.pair tI (.pair tI tI))) c0)] := by
  refine fnC_of_W (B := bodyOf Try.f53) (n := 12) Try.func53 (by kernel_rfl) (by kernel_rfl) (by kernel_rfl) (by kernel_rfl) (by kernel_rfl) ?_
  intro K
  refine W_seq (by kernel_rfl) ?_
  refine W_run 1 [] [0, 1] [1000, 1001] (fr' := [(0, aI a0), (1, .one (.ptr 1000 0))]) (L' := [(1000, .cells [.slc 1001]), (1001, .seq (.pair tI (.pair tI (.pair tI tI))) c0)]) (obs := []) (by kernel_rfl) (by kernel_rfl) (by kernel_rfl) allP0 ?_
  refine seqQ_norm ?_
  refine W_seq (by kernel_rfl) ?_
  refine W_run 9 [] [3] [1000, 1001] (fr' := [(3, aB ((decide (a0 ≥ (0 : Int))) && (decide (a0 ≤ (List.length c0 : Int)))))]) (L' := [(1000, .cells [.slc 1001]), (1001, .seq (.pair tI (.pair tI (.pair tI tI))) c0)]) (obs := []) (by kernel_rfl) (by kernel_rfl) (by kernel_rfl) allP0 ?_
  refine seqQ_norm ?_
  obtain rfl := Option.some.inj h
  refine W_ret [3] [1000, 1001] (fr' := [(3, aB ((decide (a0 ≥ (0 : Int))) && (decide (a0 ≤ (List.length c0 : Int)))))]) (L' := [(1000, .cells [.slc 1001]), (1001, .seq (.pair tI (.pair tI (.pair tI tI))) c0)]) (by kernel_rfl) (by kernel_rfl) ?_
  exact retQ_mk (by kernel_rfl) (by kernel_rfl) (by kernel_rfl)

noncomputable def count_Check_g9 (c0 : (List (Int × (Int × (Int × Int))))) (v79 : (Int × (Int × (Int × Int)))) : Option Bool :=
(count_Check_1 v79.2.2.1 c0).bind fun r106 =>
bif !r106 then
(some true)
else
(bif v79.1 == (2 : Int) then
((count_Check_1 v79.2.2.2 c0).bind fun r110 =>
some (!r110))
else
(some false))
@[reducible] noncomputable def count_Check_s10 (a0 : Int) (c0 : (List (Int × (Int × (Int × Int))))) (i76 : Int) (v : Bool) : Fr × LL := ([(0, aI a0), (5, .one (.fn 53 [(3, 0)])), (25, .one (.slc 1000)), (26, aI (List.length c0 : Int)), (27, aI i76), (50, aB v)], [(3, .cells [.slc 1000]), (1000, .seq (.pair tI (.pair tI (.pair tI tI))) c0)])
@[reducible] noncomputable def count_Check_s11 (a0 : Int) (c0 : (List (Int × (Int × (Int × Int))))) (i76 : Int) (v79 : (Int × (Int × (Int × Int)))) (v : Bool) : Fr × LL := ([(0, aI a0), (5, .one (.fn 53 [(3, 0)])), (7, .one (.ptr 7 0)), (25, .one (.slc 1000)), (26, aI (List.length c0 : Int)), (27, aI i76), (40, aB v)], [(3, .cells [.slc 1000]), (7, .one (.pair tI (.pair tI (.pair tI tI))) v79), (1000, .seq (.pair tI (.pair tI (.pair tI tI))) c0)])
@[reducible] noncomputable def count_Check_s12 (a0 : Int) (c0 : (List (Int × (Int × (Int × Int))))) (i76 : Int) (v79 : (Int × (Int × (Int × Int)))) (v : Bool) : Fr × LL := ([(0, aI a0), (5, .one (.fn 53 [(3, 0)])), (7, .one (.ptr 7 0)), (25, .one (.slc 1000)), (26, aI (List.length c0 : Int)), (27, aI i76), (31, aB v)], [(3, .cells [.slc 1000]), (7, .one (.pair tI (.pair tI (.pair tI tI))) v79), (1000, .seq (.pair tI (.pair tI (.pair tI tI))) c0)])
noncomputable def count_Check_b13 (a0 : Int) (c0 : (List (Int × (Int × (Int × Int))))) (i76 : Int) (v79 : (Int × (Int × (Int × Int)))) (x77 : Unit) : Option (Flow Unit (Esc Int Unit)) :=
(bif v79.1 != (1 : Int) then
(some (v79.1 != (2 : Int)))
else
(some false)).bind fun v85 =>
bif v85 then
(some (.done (.ret (6 : Int))))
else
((bif decide (v79.2.1 < (0 : Int)) then
(some true)
else
(some (decide (v79.2.1 ≥ a0)))).bind fun v91 =>
bif v91 then
(some (.done (.ret (2 : Int))))
else
((count_Check_g9 c0 v79).bind fun v112 =>
bif v112 then
(some (.done (.ret (3 : Int))))
else
(some (.next ()))))
@[reducible] noncomputable def count_Check_s14 (a0 : Int) (c0 : (List (Int × (Int × (Int × Int))))) (v : Int × Unit) : Fr × LL := ([(0, aI a0), (5, .one (.fn 53 [(3, 0)])), (25, .one (.slc 1000)), (26, aI (List.length c0 : Int)), (27, aI v.1)], [(3, .cells [.slc 1000]), (1000, .seq (.pair tI (.pair tI (.pair tI tI))) c0)])
@[reducible] noncomputable def count_Check_s15 (c0 : (List (Int × (Int × (Int × Int))))) (v : Int) : Fr × LL := ([(4, aI v)], [(1000, .seq (.pair tI (.pair tI (.pair tI tI))) c0)])
@[reducible] noncomputable def count_Check_s16 (c0 : (List (Int × (Int × (Int × Int))))) (v : Unit) : Fr × LL := ([], [(1000, .seq (.pair tI (.pair tI (.pair tI tI))) c0)])
noncomputable def count_Check (a0 : Int) (c0 : (List (Int × (Int × (Int × Int))))) : Option Int :=
bif (((decide (a0 < (1 : Int))) || (decide (a0 > (4 : Int)))) || (decide ((List.length c0 : Int) < (1 : Int)))) || (decide ((List.length c0 : Int) > (12 : Int))) then
(some (1 : Int))
else
((forL (count_Check_b13 a0 c0) (fun x77 => (.brk ())) c0 0 ()).bind fun v116 =>
match v116 with
| .ret v121 =>
(some v121)
| .brk v122 =>
(some (0 : Int)))
theorem count_Check_ok {a0 : Int} {c0 : (List (Int × (Int × (Int × Int))))} {r : Int} (h : count_Check a0 c0 = some r) : FnC Try.prog 38 [aI a0, .one (.slc 1000)] [(1000, .seq (.pair tI (.pair tI (.pair tI tI))) c0)] (aI r) [(1000, .seq (.pair tI (.pair tI (.pair tI tI))) c0)] := by
  refine fnC_of_W (B := bodyOf Try.f38) (n := 69) Try.func38 (by kernel_rfl) (by kernel_rfl) (by kernel_rfl) (by kernel_rfl) (by kernel_rfl) ?_
  intro K
  refine W_seq (by kernel_rfl) ?_
  refine W_run 2 [] [0, 3] [3, 1000] (fr' := [(0, aI a0), (3, .one (.ptr 3 0))]) (L' := [(3, .cells [.slc 1000]), (1000, .seq (.pair tI (.pair tI (.pair tI tI))) c0)]) (obs := []) (by kernel_rfl) (by kernel_rfl) (by kernel_rfl) allP0 ?_
  refine seqQ_norm ?_
  refine W_seq (by kernel_rfl) ?_
  refine W_seq (by kernel_rfl) ?_
  refine W_run 16 [] [0, 3, 23] [3, 1000] (fr' := [(0, aI a0), (3, .one (.ptr 3 0)), (23, aB ((((decide (a0 < (1 : Int))) || (decide (a0 > (4 : Int)))) || (decide ((List.length c0 : Int) < (1 : Int)))) || (decide ((List.length c0 : Int) > (12 : Int)))))]) (L' := [(3, .cells [.slc 1000]), (1000, .seq (.pair tI (.pair tI (.pair tI tI))) c0)]) (obs := []) (by kernel_rfl) (by kernel_rfl) (by kernel_rfl) allP0 ?_
  refine seqQ_norm ?_
  refine W_cond (o := .tmp 23) (b := (((decide (a0 < (1 : Int))) || (decide (a0 > (4 : Int)))) || (decide ((List.length c0 : Int) < (1 : Int)))) || (decide ((List.length c0 : Int) > (12 : Int)))) (by kernel_rfl) (by kernel_rfl) (fun h1 => ?_) (fun h1 => ?_)
  · replace h := ofT h1 h
    refine W_seq (by kernel_rfl) ?_
    refine W_run 1 [] [4] [1000] (fr' := [(4, aI (1 : Int))]) (L' := [(1000, .seq (.pair tI (.pair tI (.pair tI tI))) c0)]) (obs := []) (by kernel_rfl) (by kernel_rfl) (by kernel_rfl) allP0 ?_
    refine seqQ_norm ?_
    obtain rfl := Option.some.inj h
    refine W_ret [4] [1000] (fr' := [(4, aI (1 : Int))]) (L' := [(1000, .seq (.pair tI (.pair tI (.pair tI tI))) c0)]) (by kernel_rfl) (by kernel_rfl) ?_
    refine seqQ_ret ?_
    exact retQ_mk (by kernel_rfl) (by kernel_rfl) (by kernel_rfl)
  · replace h := ofF h1 h
    refine W_skip [0, 3] [3, 1000] (fr' := [(0, aI a0), (3, .one (.ptr 3 0))]) (L' := [(3, .cells [.slc 1000]), (1000, .seq (.pair tI (.pair tI (.pair tI tI))) c0)]) (by kernel_rfl) (by kernel_rfl) ?_
    refine seqQ_norm ?_
    refine W_seq (by kernel_rfl) ?_
    refine W_run 2 [] [0, 3, 5] [3, 1000] (fr' := [(0, aI a0), (3, .one (.ptr 3 0)), (5, .one (.fn 53 [(3, 0)]))]) (L' := [(3, .cells [.slc 1000]), (1000, .seq (.pair tI (.pair tI (.pair tI tI))) c0)]) (obs := []) (by kernel_rfl) (by kernel_rfl) (by kernel_rfl) allP0 ?_
    refine seqQ_norm ?_
    refine W_seq (by kernel_rfl) ?_
    refine W_seq (by kernel_rfl) ?_
    refine W_run 3 [] [0, 5, 25, 26, 27] [3, 1000] (fr' := [(0, aI a0), (5, .one (.fn 53 [(3, 0)])), (25, .one (.slc 1000)), (26, aI (List.length c0 : Int)), (27, aI (0 : Int))]) (L' := [(3, .cells [.slc 1000]), (1000, .seq (.pair tI (.pair tI (.pair tI tI))) c0)]) (obs := []) (by kernel_rfl) (by kernel_rfl) (by kernel_rfl) allP0 ?_
    refine seqQ_norm ?_
    refine W_block (id := 0) (by kernel_rfl) ?_
    obtain ⟨v116, h117, h⟩ := bind_of h
    refine W_lenS (s := 1000) (u := (.pair tI (.pair tI (.pair tI tI)))) (xs := c0) (by kernel_rfl) (fun h120 => ?_)
    obtain ⟨h118, h119⟩ := forL_iter h120 h117
    refine W_weaken [0, 5, 25, 26, 27] [3, 1000] (fr' := ((count_Check_s14 a0 c0) ((0 : Int), ())).1) (L' := ((count_Check_s14 a0 c0) ((0 : Int), ())).2) (by kernel_rfl) ?_
    refine W_cutK (W_loop (S := (count_Check_s14 a0 c0)) (J := (escQ (exQ .ret (count_Check_s15 c0)) (exQ (.exit 0) (count_Check_s16 c0)))) (by kernel_rfl) ?_ h118 _ v116 h119) ?_
    · rintro ⟨i76, x77⟩ s h
      refine W_seq (by kernel_rfl) ?_
      refine W_run 1 [] [0, 5, 25, 26, 27, 28] [3, 1000] (fr' := [(0, aI a0), (5, .one (.fn 53 [(3, 0)])), (25, .one (.slc 1000)), (26, aI (List.length c0 : Int)), (27, aI i76), (28, aB (decide (i76 < (List.length c0 : Int))))]) (L' := [(3, .cells [.slc 1000]), (1000, .seq (.pair tI (.pair tI (.pair tI tI))) c0)]) (obs := []) (by kernel_rfl) (by kernel_rfl) (by kernel_rfl) allP0 ?_
      refine seqQ_norm ?_
      refine W_seq (by kernel_rfl) ?_
      refine W_cond (o := .tmp 28) (b := decide (i76 < (List.length c0 : Int))) (by kernel_rfl) (by kernel_rfl) (fun h81 => ?_) (fun h81 => ?_)
      · replace h := stepL_true h81 h
        obtain ⟨v79, _, h80, h, rfl⟩ := h
        refine W_skip [0, 5, 25, 26, 27] [3, 1000] (fr' := [(0, aI a0), (5, .one (.fn 53 [(3, 0)])), (25, .one (.slc 1000)), (26, aI (List.length c0 : Int)), (27, aI i76)]) (L' := [(3, .cells [.slc 1000]), (1000, .seq (.pair tI (.pair tI (.pair tI tI))) c0)]) (by kernel_rfl) (by kernel_rfl) ?_
        refine seqQ_norm ?_
        refine W_seq (by kernel_rfl) ?_
        refine W_block (id := 1) (by kernel_rfl) ?_
        refine W_seq (by kernel_rfl) ?_
        refine W_run 4 [(3, .val (.dat (.pair tI (.pair tI (.pair tI tI))) v79)), (5, .typed)] [0, 5, 7, 25, 26, 27] [3, 7, 1000] (fr' := [(0, aI a0), (5, .one (.fn 53 [(3, 0)])), (7, .one (.ptr 7 0)), (25, .one (.slc 1000)), (26, aI (List.length c0 : Int)), (27, aI i76)]) (L' := [(3, .cells [.slc 1000]), (7, .one (.pair tI (.pair tI (.pair tI tI))) v79), (1000, .seq (.pair tI (.pair tI (.pair tI tI))) c0)]) (obs := [InR i76 (List.length c0), Idx c0 i76 v79, True]) (by kernel_rfl) (by kernel_rfl) (by kernel_rfl) (allP2 (InR.of h80) (allP2 (Idx.of h80) (allP1 trivial))) ?_
        refine seqQ_norm ?_
        refine W_block (id := 2) (by kernel_rfl) ?_
        refine W_seq (by kernel_rfl) ?_
        obtain ⟨v85, h86, h⟩ := bind_of h
        refine W_cutK (Q' := (exQ .normal (count_Check_s12 a0 c0 i76 v79)) v85) ?_ ?_
        · replace h := h86
          refine W_region (by kernel_rfl) ?_
          refine WO_run (j := 4) (k := 4) (orcs := []) (kF := [0, 5, 7, 25, 26, 27, 35]) (kL := [3, 7, 1000]) (fr' := [(0, aI a0), (5, .one (.fn 53 [(3, 0)])), (7, .one (.ptr 7 0)), (25, .one (.slc 1000)), (26, aI (List.length c0 : Int)), (27, aI i76), (35, aB (v79.1 != (1 : Int)))]) (L' := [(3, .cells [.slc 1000]), (7, .one (.pair tI (.pair tI (.pair tI tI))) v79), (1000, .seq (.pair tI (.pair tI (.pair tI tI))) c0)]) (obs := []) rfl (by kernel_rfl) allP0 ?_
          rcases Bool.eq_false_or_eq_true (v79.1 != (1 : Int)) with h84 | h84
          · replace h := ofT h84 h
            refine WO_run (j := 9) (k := 5) (orcs := [(8, .known true), (10, .known true), (12, .known true), (15, .val (.dat .bool true))]) (kF := [0, 5, 7, 25, 26, 27, 31]) (kL := [3, 7, 1000]) (fr' := [(0, aI a0), (5, .one (.fn 53 [(3, 0)])), (7, .one (.ptr 7 0)), (25, .one (.slc 1000)), (26, aI (List.length c0 : Int)), (27, aI i76), (31, aB (v79.1 != (2 : Int)))]) (L' := [(3, .cells [.slc 1000]), (7, .one (.pair tI (.pair tI (.pair tI tI))) v79), (1000, .seq (.pair tI (.pair tI (.pair tI tI))) c0)]) (obs := [((v79.1 != (1 : Int)) = true), ((v79.1 != (1 : Int)) = true), ((v79.1 != (1 : Int)) = true), ((v79.1 != (1 : Int)) = true)]) rfl (by kernel_rfl) (allP2 h84 (allP2 h84 (allP2 h84 (allP1 h84)))) ?_
            obtain rfl := Option.some.inj h
            refine WO_fin [0, 5, 7, 25, 26, 27, 31] [3, 7, 1000] (fr' := [(0, aI a0), (5, .one (.fn 53 [(3, 0)])), (7, .one (.ptr 7 0)), (25, .one (.slc 1000)), (26, aI (List.length c0 : Int)), (27, aI i76), (31, aB (v79.1 != (2 : Int)))]) (L' := [(3, .cells [.slc 1000]), (7, .one (.pair tI (.pair tI (.pair tI tI))) v79), (1000, .seq (.pair tI (.pair tI (.pair tI tI))) c0)]) (by kernel_rfl) (by kernel_rfl) ?_
            exact exQ_mk (by kernel_rfl) (by kernel_rfl)
          · replace h := ofF h84 h
            refine WO_run (j := 9) (k := 5) (orcs := [(8, .known false), (10, .known false), (12, .known false), (15, .val (.dat .bool false))]) (kF := [0, 5, 7, 25, 26, 27, 31]) (kL := [3, 7, 1000]) (fr' := [(0, aI a0), (5, .one (.fn 53 [(3, 0)])), (7, .one (.ptr 7 0)), (25, .one (.slc 1000)), (26, aI (List.length c0 : Int)), (27, aI i76), (31, aB false)]) (L' := [(3, .cells [.slc 1000]), (7, .one (.pair tI (.pair tI (.pair tI tI))) v79), (1000, .seq (.pair tI (.pair tI (.pair tI tI))) c0)]) (obs := [((v79.1 != (1 : Int)) = false), ((v79.1 != (1 : Int)) = false), ((v79.1 != (1 : Int)) = false), ((v79.1 != (1 : Int)) = false)]) rfl (by kernel_rfl) (allP2 h84 (allP2 h84 (allP2 h84 (allP1 h84)))) ?_
            obtain rfl := Option.some.inj h
            refine WO_fin [0, 5, 7, 25, 26, 27, 31] [3, 7, 1000] (fr' := [(0, aI a0), (5, .one (.fn 53 [(3, 0)])), (7, .one (.ptr 7 0)), (25, .one (.slc 1000)), (26, aI (List.length c0 : Int)), (27, aI i76), (31, aB false)]) (L' := [(3, .cells [.slc 1000]), (7, .one (.pair tI (.pair tI (.pair tI tI))) v79), (1000, .seq (.pair tI (.pair tI (.pair tI tI))) c0)]) (by kernel_rfl) (by kernel_rfl) ?_
            exact exQ_mk (by kernel_rfl) (by kernel_rfl)
        · intro e fr L hJ
          obtain ⟨rfl, rfl, rfl⟩ := hJ
          refine LT_keep [0, 5, 7, 25, 26, 27, 31] [3, 7, 1000] (fr' := [(0, aI a0), (5, .one (.fn 53 [(3, 0)])), (7, .one (.ptr 7 0)), (25, .one (.slc 1000)), (26, aI (List.length c0 : Int)), (27, aI i76), (31, aB v85)]) (L' := [(3, .cells [.slc 1000]), (7, .one (.pair tI (.pair tI (.pair tI tI))) v79), (1000, .seq (.pair tI (.pair tI (.pair tI tI))) c0)]) (by kernel_rfl) ?_
          refine seqQ_norm ?_
          refine W_cond (o := .tmp 31) (b := v85) (by kernel_rfl) (by kernel_rfl) (fun h87 => ?_) (fun h87 => ?_)
          · replace h := ofT h87 h
            refine W_seq (by kernel_rfl) ?_
            refine W_run 1 [] [4] [1000] (fr' := [(4, aI (6 : Int))]) (L' := [(1000, .seq (.pair tI (.pair tI (.pair tI tI))) c0)]) (obs := []) (by kernel_rfl) (by kernel_rfl) (by kernel_rfl) allP0 ?_
            refine seqQ_norm ?_
            obtain rfl := Option.some.inj h
            refine W_ret [4] [1000] (fr' := [(4, aI (6 : Int))]) (L' := [(1000, .seq (.pair tI (.pair tI (.pair tI tI))) c0)]) (by kernel_rfl) (by kernel_rfl) ?_
            refine blockQ_ret ?_
            refine blockQ_ret ?_
            refine seqQ_ret ?_
            refine round_ret ?_
            refine escQ_ret ?_
            exact exQ_mk (by kernel_rfl) (by kernel_rfl)
          · replace h := ofF h87 h
            refine W_seq (by kernel_rfl) ?_
            obtain ⟨v91, h92, h⟩ := bind_of h
            refine W_cutK (Q' := (exQ .normal (count_Check_s11 a0 c0 i76 v79)) v91) ?_ ?_
            · replace h := h92
              refine W_region (by kernel_rfl) ?_
              refine WO_run (j := 4) (k := 4) (orcs := []) (kF := [0, 5, 7, 25, 26, 27, 44]) (kL := [3, 7, 1000]) (fr' := [(0, aI a0), (5, .one (.fn 53 [(3, 0)])), (7, .one (.ptr 7 0)), (25, .one (.slc 1000)), (26, aI (List.length c0 : Int)), (27, aI i76), (44, aB (decide (v79.2.1 < (0 : Int))))]) (L' := [(3, .cells [.slc 1000]), (7, .one (.pair tI (.pair tI (.pair tI tI))) v79), (1000, .seq (.pair tI (.pair tI (.pair tI tI))) c0)]) (obs := []) rfl (by kernel_rfl) allP0 ?_
              rcases Bool.eq_false_or_eq_true (decide (v79.2.1 < (0 : Int))) with h90 | h90
              · replace h := ofT h90 h
                refine WO_run (j := 10) (k := 6) (orcs := [(8, .known true), (10, .known true), (12, .known true), (14, .known true), (17, .val (.dat .bool true))]) (kF := [0, 5, 7, 25, 26, 27, 40]) (kL := [3, 7, 1000]) (fr' := [(0, aI a0), (5, .one (.fn 53 [(3, 0)])), (7, .one (.ptr 7 0)), (25, .one (.slc 1000)), (26, aI (List.length c0 : Int)), (27, aI i76), (40, aB true)]) (L' := [(3, .cells [.slc 1000]), (7, .one (.pair tI (.pair tI (.pair tI tI))) v79), (1000, .seq (.pair tI (.pair tI (.pair tI tI))) c0)]) (obs := [((decide (v79.2.1 < (0 : Int))) = true), ((decide (v79.2.1 < (0 : Int))) = true), ((decide (v79.2.1 < (0 : Int))) = true), ((decide (v79.2.1 < (0 : Int))) = true), ((decide (v79.2.1 < (0 : Int))) = true)]) rfl (by kernel_rfl) (allP2 h90 (allP2 h90 (allP2 h90 (allP2 h90 (allP1 h90))))) ?_
                obtain rfl := Option.some.inj h
                refine WO_fin [0, 5, 7, 25, 26, 27, 40] [3, 7, 1000] (fr' := [(0, aI a0), (5, .one (.fn 53 [(3, 0)])), (7, .one (.ptr 7 0)), (25, .one (.slc 1000)), (26, aI (List.length c0 : Int)), (27, aI i76), (40, aB true)]) (L' := [(3, .cells [.slc 1000]), (7, .one (.pair tI (.pair tI (.pair tI tI))) v79), (1000, .seq (.pair tI (.pair tI (.pair tI tI))) c0)]) (by kernel_rfl) (by kernel_rfl) ?_
                exact exQ_mk (by kernel_rfl) (by kernel_rfl)
              · replace h := ofF h90 h
                refine WO_run (j := 10) (k := 6) (orcs := [(8, .known false), (10, .known false), (12, .known false), (14, .known false), (17, .val (.dat .bool false))]) (kF := [0, 5, 7, 25, 26, 27, 40]) (kL := [3, 7, 1000]) (fr' := [(0, aI a0), (5, .one (.fn 53 [(3, 0)])), (7, .one (.ptr 7 0)), (25, .one (.slc 1000)), (26, aI (List.length c0 : Int)), (27, aI i76), (40, aB (decide (v79.2.1 ≥ a0)))]) (L' := [(3, .cells [.slc 1000]), (7, .one (.pair tI (.pair tI (.pair tI tI))) v79), (1000, .seq (.pair tI (.pair tI (.pair tI tI))) c0)]) (obs := [((decide (v79.2.1 < (0 : Int))) = false), ((decide (v79.2.1 < (0 : Int))) = false), ((decide (v79.2.1 < (0 : Int))) = false), ((decide (v79.2.1 < (0 : Int))) = false), ((decide (v79.2.1 < (0 : Int))) = false)]) rfl (by kernel_rfl) (allP2 h90 (allP2 h90 (allP2 h90 (allP2 h90 (allP1 h90))))) ?_
                obtain rfl := Option.some.inj h
                refine WO_fin [0, 5, 7, 25, 26, 27, 40] [3, 7, 1000] (fr' := [(0, aI a0), (5, .one (.fn 53 [(3, 0)])), (7, .one (.ptr 7 0)), (25, .one (.slc 1000)), (26, aI (List.length c0 : Int)), (27, aI i76), (40, aB (decide (v79.2.1 ≥ a0)))]) (L' := [(3, .cells [.slc 1000]), (7, .one (.pair tI (.pair tI (.pair tI tI))) v79), (1000, .seq (.pair tI (.pair tI (.pair tI tI))) c0)]) (by kernel_rfl) (by kernel_rfl) ?_
                exact exQ_mk (by kernel_rfl) (by kernel_rfl)
            · intro e fr L hJ
              obtain ⟨rfl, rfl, rfl⟩ := hJ
              refine LT_keep [0, 5, 7, 25, 26, 27, 40] [3, 7, 1000] (fr' := [(0, aI a0), (5, .one (.fn 53 [(3, 0)])), (7, .one (.ptr 7 0)), (25, .one (.slc 1000)), (26, aI (List.length c0 : Int)), (27, aI i76), (40, aB v91)]) (L' := [(3, .cells [.slc 1000]), (7, .one (.pair tI (.pair tI (.pair tI tI))) v79), (1000, .seq (.pair tI (.pair tI (.pair tI tI))) c0)]) (by kernel_rfl) ?_
              refine seqQ_norm ?_
              refine W_cond (o := .tmp 40) (b := v91) (by kernel_rfl) (by kernel_rfl) (fun h93 => ?_) (fun h93 => ?_)
              · replace h := ofT h93 h
                refine W_seq (by kernel_rfl) ?_
                refine W_run 1 [] [4] [1000] (fr' := [(4, aI (2 : Int))]) (L' := [(1000, .seq (.pair tI (.pair tI (.pair tI tI))) c0)]) (obs := []) (by kernel_rfl) (by kernel_rfl) (by kernel_rfl) allP0 ?_
                refine seqQ_norm ?_
                obtain rfl := Option.some.inj h
                refine W_ret [4] [1000] (fr' := [(4, aI (2 : Int))]) (L' := [(1000, .seq (.pair tI (.pair tI (.pair tI tI))) c0)]) (by kernel_rfl) (by kernel_rfl) ?_
                refine blockQ_ret ?_
                refine blockQ_ret ?_
                refine seqQ_ret ?_
                refine round_ret ?_
                refine escQ_ret ?_
                exact exQ_mk (by kernel_rfl) (by kernel_rfl)
              · replace h := ofF h93 h
                refine W_seq (by kernel_rfl) ?_
                obtain ⟨v112, h113, h⟩ := bind_of h
                refine W_cutK (Q' := (exQ .normal (count_Check_s10 a0 c0 i76)) v112) ?_ ?_
                · replace h := h113
                  refine W_region (by kernel_rfl) ?_
                  refine WO_run (j := 3) (k := 3) (orcs := []) (kF := [0, 5, 7, 25, 26, 27, 51, 53]) (kL := [3, 7, 1000]) (fr' := [(0, aI a0), (5, .one (.fn 53 [(3, 0)])), (7, .one (.ptr 7 0)), (25, .one (.slc 1000)), (26, aI (List.length c0 : Int)), (27, aI i76), (51, .one (.fn 53 [(3, 0)])), (53, aI v79.2.2.1)]) (L' := [(3, .cells [.slc 1000]), (7, .one (.pair tI (.pair tI (.pair tI tI))) v79), (1000, .seq (.pair tI (.pair tI (.pair tI tI))) c0)]) (obs := []) rfl (by kernel_rfl) allP0 ?_
                  obtain ⟨r106, h107, h⟩ := bind_of h
                  refine WO_lend [(1000, 3), (1001, 1000)] (us := [none, none]) (d := 54) (p := True) (j := 4) rfl ⟨by kernel_rfl, by kernel_rfl, by kernel_rfl⟩ trivial (count_Check_1_ok h107) (by kernel_rfl) (by kernel_rfl) ?_
                  refine WO_run (j := 6) (k := 2) (orcs := []) (kF := [0, 5, 7, 25, 26, 27, 56]) (kL := [3, 7, 1000]) (fr' := [(0, aI a0), (5, .one (.fn 53 [(3, 0)])), (7, .one (.ptr 7 0)), (25, .one (.slc 1000)), (26, aI (List.length c0 : Int)), (27, aI i76), (56, aB (!r106))]) (L' := [(3, .cells [.slc 1000]), (7, .one (.pair tI (.pair tI (.pair tI tI))) v79), (1000, .seq (.pair tI (.pair tI (.pair tI tI))) c0)]) (obs := []) rfl (by kernel_rfl) allP0 ?_
                  rcases Bool.eq_false_or_eq_true (!r106) with h108 | h108
                  · replace h := ofT h108 h
                    refine WO_run (j := 18) (k := 12) (orcs := [(12, .known true), (14, .known true), (16, .known true), (18, .known true), (20, .known true), (22, .known true), (24, .known true), (26, .known true), (28, .known true), (30, .known true), (33, .val (.dat .bool true))]) (kF := [0, 5, 25, 26, 27, 50]) (kL := [3, 7, 1000]) (fr' := [(0, aI a0), (5, .one (.fn 53 [(3, 0)])), (25, .one (.slc 1000)), (26, aI (List.length c0 : Int)), (27, aI i76), (50, aB true)]) (L' := [(3, .cells [.slc 1000]), (7, .one (.pair tI (.pair tI (.pair tI tI))) v79), (1000, .seq (.pair tI (.pair tI (.pair tI tI))) c0)]) (obs := [((!r106) = true), ((!r106) = true), ((!r106) = true), ((!r106) = true), ((!r106) = true), ((!r106) = true)]) rfl (by kernel_rfl) (allP2 h108 (allP2 h108 (allP2 h108 (allP2 h108 (allP2 h108 (allP1 h108)))))) ?_
                    obtain rfl := Option.some.inj h
                    refine WO_fin [0, 5, 25, 26, 27, 50] [3, 1000] (fr' := [(0, aI a0), (5, .one (.fn 53 [(3, 0)])), (25, .one (.slc 1000)), (26, aI (List.length c0 : Int)), (27, aI i76), (50, aB true)]) (L' := [(3, .cells [.slc 1000]), (1000, .seq (.pair tI (.pair tI (.pair tI tI))) c0)]) (by kernel_rfl) (by kernel_rfl) ?_
                    exact exQ_mk (by kernel_rfl) (by kernel_rfl)
                  · replace h := ofF h108 h
                    refine WO_run (j := 10) (k := 4) (orcs := [(12, .known false), (14, .known false), (16, .known false), (18, .known false)]) (kF := [0, 5, 7, 25, 26, 27, 56, 60]) (kL := [3, 7, 1000]) (fr' := [(0, aI a0), (5, .one (.fn 53 [(3, 0)])), (7, .one (.ptr 7 0)), (25, .one (.slc 1000)), (26, aI (List.length c0 : Int)), (27, aI i76), (56, aB (!r106)), (60, aB (v79.1 == (2 : Int)))]) (L' := [(3, .cells [.slc 1000]), (7, .one (.pair tI (.pair tI (.pair tI tI))) v79), (1000, .seq (.pair tI (.pair tI (.pair tI tI))) c0)]) (obs := [((!r106) = false), ((!r106) = false), ((!r106) = false), ((!r106) = false)]) rfl (by kernel_rfl) (allP2 h108 (allP2 h108 (allP2 h108 (allP1 h108)))) ?_
                    rcases Bool.eq_false_or_eq_true (v79.1 == (2 : Int)) with h109 | h109
                    · replace h := ofT h109 h
                      refine WO_run (j := 13) (k := 3) (orcs := [(20, .known true), (22, .known true), (24, .known true)]) (kF := [0, 5, 25, 26, 27, 56, 60, 61, 63]) (kL := [3, 7, 1000]) (fr' := [(0, aI a0), (5, .one (.fn 53 [(3, 0)])), (25, .one (.slc 1000)), (26, aI (List.length c0 : Int)), (27, aI i76), (56, aB (!r106)), (60, aB (v79.1 == (2 : Int))), (61, .one (.fn 53 [(3, 0)])), (63, aI v79.2.2.2)]) (L' := [(3, .cells [.slc 1000]), (7, .one (.pair tI (.pair tI (.pair tI tI))) v79), (1000, .seq (.pair tI (.pair tI (.pair tI tI))) c0)]) (obs := [((v79.1 == (2 : Int)) = true), ((v79.1 == (2 : Int)) = true), ((v79.1 == (2 : Int)) = true)]) rfl (by kernel_rfl) (allP2 h109 (allP2 h109 (allP1 h109))) ?_
                      obtain ⟨r110, h111, h⟩ := bind_of h
                      refine WO_lend [(1000, 3), (1001, 1000)] (us := [none, none]) (d := 64) (p := ((v79.1 == (2 : Int)) = true)) (j := 14) rfl ⟨by kernel_rfl, by kernel_rfl, by kernel_rfl⟩ h109 (count_Check_1_ok h111) (by kernel_rfl) (by kernel_rfl) ?_
                      refine WO_run (j := 18) (k := 4) (orcs := [(28, .known true), (30, .known false), (31, .val (.dat .bool true)), (33, .val (.dat .bool false))]) (kF := [0, 5, 25, 26, 27, 50]) (kL := [3, 7, 1000]) (fr' := [(0, aI a0), (5, .one (.fn 53 [(3, 0)])), (25, .one (.slc 1000)), (26, aI (List.length c0 : Int)), (27, aI i76), (50, aB (!r110))]) (L' := [(3, .cells [.slc 1000]), (7, .one (.pair tI (.pair tI (.pair tI tI))) v79), (1000, .seq (.pair tI (.pair tI (.pair tI tI))) c0)]) (obs := [((v79.1 == (2 : Int)) = true), ((!r106) = false), ((v79.1 == (2 : Int)) = true), ((!r106) = false)]) rfl (by kernel_rfl) (allP2 h109 (allP2 h108 (allP2 h109 (allP1 h108)))) ?_
                      obtain rfl := Option.some.inj h
                      refine WO_fin [0, 5, 25, 26, 27, 50] [3, 1000] (fr' := [(0, aI a0), (5, .one (.fn 53 [(3, 0)])), (25, .one (.slc 1000)), (26, aI (List.length c0 : Int)), (27, aI i76), (50, aB (!r110))]) (L' := [(3, .cells [.slc 1000]), (1000, .seq (.pair tI (.pair tI (.pair tI tI))) c0)]) (by kernel_rfl) (by kernel_rfl) ?_
                      exact exQ_mk (by kernel_rfl) (by kernel_rfl)
                    · replace h := ofF h109 h
                      refine WO_run (j := 18) (k := 8) (orcs := [(20, .known false), (22, .known false), (24, .known false), (26, .known false), (28, .known false), (30, .known false), (31, .val (.dat .bool false)), (33, .val (.dat .bool false))]) (kF := [0, 5, 25, 26, 27, 50]) (kL := [3, 7, 1000]) (fr' := [(0, aI a0), (5, .one (.fn 53 [(3, 0)])), (25, .one (.slc 1000)), (26, aI (List.length c0 : Int)), (27, aI i76), (50, aB false)]) (L' := [(3, .cells [.slc 1000]), (7, .one (.pair tI (.pair tI (.pair tI tI))) v79), (1000, .seq (.pair tI (.pair tI (.pair tI tI))) c0)]) (obs := [((v79.1 == (2 : Int)) = false), ((v79.1 == (2 : Int)) = false), ((v79.1 == (2 : Int)) = false), ((v79.1 == (2 : Int)) = false), ((v79.1 == (2 : Int)) = false), ((!r106) = false), ((v79.1 == (2 : Int)) = false), ((!r106) = false)]) rfl (by kernel_rfl) (allP2 h109 (allP2 h109 (allP2 h109 (allP2 h109 (allP2 h109 (allP2 h108 (allP2 h109 (allP1 h108)))))))) ?_
                      obtain rfl := Option.some.inj h
                      refine WO_fin [0, 5, 25, 26, 27, 50] [3, 1000] (fr' := [(0, aI a0), (5, .one (.fn 53 [(3, 0)])), (25, .one (.slc 1000)), (26, aI (List.length c0 : Int)), (27, aI i76), (50, aB false)]) (L' := [(3, .cells [.slc 1000]), (1000, .seq (.pair tI (.pair tI (.pair tI tI))) c0)]) (by kernel_rfl) (by kernel_rfl) ?_
                      exact exQ_mk (by kernel_rfl) (by kernel_rfl)
                · intro e fr L hJ
                  obtain ⟨rfl, rfl, rfl⟩ := hJ
                  refine LT_keep [0, 5, 25, 26, 27, 50] [3, 1000] (fr' := [(0, aI a0), (5, .one (.fn 53 [(3, 0)])), (25, .one (.slc 1000)), (26, aI (List.length c0 : Int)), (27, aI i76), (50, aB v112)]) (L' := [(3, .cells [.slc 1000]), (1000, .seq (.pair tI (.pair tI (.pair tI tI))) c0)]) (by kernel_rfl) ?_
                  refine seqQ_norm ?_
                  refine W_cond (o := .tmp 50) (b := v112) (by kernel_rfl) (by kernel_rfl) (fun h114 => ?_) (fun h114 => ?_)
                  · replace h := ofT h114 h
                    refine W_seq (by kernel_rfl) ?_
                    refine W_run 1 [] [4] [1000] (fr' := [(4, aI (3 : Int))]) (L' := [(1000, .seq (.pair tI (.pair tI (.pair tI tI))) c0)]) (obs := []) (by kernel_rfl) (by kernel_rfl) (by kernel_rfl) allP0 ?_
                    refine seqQ_norm ?_
                    obtain rfl := Option.some.inj h
                    refine W_ret [4] [1000] (fr' := [(4, aI (3 : Int))]) (L' := [(1000, .seq (.pair tI (.pair tI (.pair tI tI))) c0)]) (by kernel_rfl) (by kernel_rfl) ?_
                    refine blockQ_ret ?_
                    refine blockQ_ret ?_
                    refine seqQ_ret ?_
                    refine round_ret ?_
                    refine escQ_ret ?_
                    exact exQ_mk (by kernel_rfl) (by kernel_rfl)
                  · replace h := ofF h114 h
                    refine W_skip [0, 5, 25, 26, 27] [3, 1000] (fr' := [(0, aI a0), (5, .one (.fn 53 [(3, 0)])), (25, .one (.slc 1000)), (26, aI (List.length c0 : Int)), (27, aI i76)]) (L' := [(3, .cells [.slc 1000]), (1000, .seq (.pair tI (.pair tI (.pair tI tI))) c0)]) (by kernel_rfl) (by kernel_rfl) ?_
                    refine blockQ_norm ?_
                    refine blockQ_norm ?_
                    refine seqQ_norm ?_
                    obtain rfl := Option.some.inj h
                    refine W_run 2 [] [0, 5, 25, 26, 27] [3, 1000] (fr' := [(0, aI a0), (5, .one (.fn 53 [(3, 0)])), (25, .one (.slc 1000)), (26, aI (List.length c0 : Int)), (27, aI (w64 (i76 + (1 : Int))))]) (L' := [(3, .cells [.slc 1000]), (1000, .seq (.pair tI (.pair tI (.pair tI tI))) c0)]) (obs := []) (by kernel_rfl) (by kernel_rfl) (by kernel_rfl) allP0 ?_
                    exact round_next' (by kernel_rfl) (by kernel_rfl)
      · obtain rfl := stepL_false h81 h
        refine W_exit (id := 0) [] [1000] (fr' := []) (L' := [(1000, .seq (.pair tI (.pair tI (.pair tI tI))) c0)]) (by kernel_rfl) (by kernel_rfl) ?_
        refine seqQ_exit ?_
        refine round_exit ?_
        refine escQ_brk ?_
        exact exQ_mk (by kernel_rfl) (by kernel_rfl)
    · intro e fr L hJ
      rcases v116 with v121 | v122
      · obtain ⟨rfl, rfl, rfl⟩ := hJ
        obtain rfl := Option.some.inj h
        refine LT_keep [4] [1000] (fr' := [(4, aI v121)]) (L' := [(1000, .seq (.pair tI (.pair tI (.pair tI tI))) c0)]) (by kernel_rfl) ?_
        refine blockQ_ret ?_
        refine seqQ_ret ?_
        exact retQ_mk (by kernel_rfl) (by kernel_rfl) (by kernel_rfl)
      · obtain ⟨rfl, rfl, rfl⟩ := hJ
        refine LT_keep [] [1000] (fr' := []) (L' := [(1000, .seq (.pair tI (.pair tI (.pair tI tI))) c0)]) (by kernel_rfl) ?_
        refine blockQ_hit ?_
        refine seqQ_norm ?_
        refine W_seq (by kernel_rfl) ?_
        refine W_run 1 [] [4] [1000] (fr' := [(4, aI (0 : Int))]) (L' := [(1000, .seq (.pair tI (.pair tI (.pair tI tI))) c0)]) (obs := []) (by kernel_rfl) (by kernel_rfl) (by kernel_rfl) allP0 ?_
        refine seqQ_norm ?_
        obtain rfl := Option.some.inj h
        refine W_ret [4] [1000] (fr' := [(4, aI (0 : Int))]) (L' := [(1000, .seq (.pair tI (.pair tI (.pair tI tI))) c0)]) (by kernel_rfl) (by kernel_rfl) ?_
        exact retQ_mk (by kernel_rfl) (by kernel_rfl) (by kernel_rfl)

@[reducible] noncomputable def code_Orders_s4 (x149 : (Int × (List (Int × (Int × (Int × Int)))))) (y150 : (List Int)) (v : Bool) : Fr × LL := ([(4, .one (.ptr 1002 0)), (5, .one (.ptr 1003 0)), (6, .one (.ptr 1004 0)), (7, aD (.slice tI) y150), (25, aB v)], [(1002, .cells [.nilS]), (1003, .cells [.dat tI x149.1]), (1004, .cells [.slc 2005]), (2005, .seq (.pair tI (.pair tI (.pair tI tI))) x149.2)])
noncomputable def code_Orders_r5 (y150 : (List Int)) (x149 : (Int × (List (Int × (Int × (Int × Int)))))) : Option (Flow (Int × (List (Int × (Int × (Int × Int))))) (Int × (List (Int × (Int × (Int × Int)))))) :=
((idx y150 (0 : Int)).bind fun v161 =>
bif v161 == (1 : Int) then
((idx y150 (3 : Int)).bind fun v164 =>
some (v164 != (0 : Int)))
else
(some false)).bind fun v166 =>
bif v166 then
(some (.done ((3 : Int), x149.2)))
else
((idx y150 (0 : Int)).bind fun v177 =>
(idx y150 (1 : Int)).bind fun v179 =>
(idx y150 (2 : Int)).bind fun v181 =>
(idx y150 (3 : Int)).bind fun v183 =>
(ck ((List.length x149.2 : Int) + 1 ≤ 4294967296)).bind fun _ =>
some (.next (x149.1, x149.2 ++ [(v177, v179, v181, v183)])))
theorem code_Orders_r5_ok {l : Nat} {y150 : (List Int)} {x149 : (Int × (List (Int × (Int × (Int × Int)))))} {s : Flow (Int × (List (Int × (Int × (Int × Int))))) (Int × (List (Int × (Int × (Int × Int)))))} (h : code_Orders_r5 y150 x149 = some s) : BodyC Try.prog 49 (nav (bodyOf Try.f12) [1, 0, 1, 0, 1, 1, 1]) l (putF (putF [(4, .one (.ptr 1002 0)), (5, .one (.ptr 1003 0)), (6, .one (.ptr 1004 0))] 15 (.one (.cdat tI y150))) 7 (.one (.cdat tI y150))) (slices_Chunk_Lintint_1_for_code_Orders_S y150 x149) (fpost (slices_Chunk_Lintint_1_for_code_Orders_S y150) .ret s) := by
  refine bodyC_of_W (by kernel_rfl) (fun K => ?_)
  refine W_weaken [4, 5, 6, 15, 7] [1002, 1003, 1004, 2005] (fr' := [(4, .one (.ptr 1002 0)), (5, .one (.ptr 1003 0)), (6, .one (.ptr 1004 0)), (15, .one (.cdat tI y150)), (7, .one (.cdat tI y150))]) (L' := [(1002, .cells [.nilS]), (1003, .cells [.dat tI x149.1]), (1004, .cells [.slc 2005]), (2005, .seq (.pair tI (.pair tI (.pair tI tI))) x149.2)]) (by kernel_rfl) ?_
  refine W_cnv 15 (.slice tI) (by kernel_rfl) ?_
  refine W_cnv 7 (.slice tI) (by kernel_rfl) ?_
  refine W_block (id := 1) (by kernel_rfl) ?_
  refine W_seq (by kernel_rfl) ?_
  refine W_seq (by kernel_rfl) ?_
  obtain ⟨v166, h167, h⟩ := bind_of h
  refine W_cutK (Q' := (exQ .normal (code_Orders_s4 x149 y150)) v166) ?_ ?_
  · replace h := h167
    obtain ⟨v161, h162, h⟩ := bind_of h
    refine W_region (by kernel_rfl) ?_
    refine WO_run (j := 5) (k := 5) (orcs := [(3, .val (.dat tI v161))]) (kF := [4, 5, 6, 7, 20]) (kL := [1002, 1003, 1004, 2005]) (fr' := [(4, .one (.ptr 1002 0)), (5, .one (.ptr 1003 0)), (6, .one (.ptr 1004 0)), (7, aD (.slice tI) y150), (20, aB (v161 == (1 : Int)))]) (L' := [(1002, .cells [.nilS]), (1003, .cells [.dat tI x149.1]), (1004, .cells [.slc 2005]), (2005, .seq (.pair tI (.pair tI (.pair tI tI))) x149.2)]) (obs := [Idx y150 (0 : Int) v161]) rfl (by kernel_rfl) (allP1 (Idx.of h162)) ?_
    rcases Bool.eq_false_or_eq_true (v161 == (1 : Int)) with h163 | h163
    · replace h := ofT h163 h
      obtain ⟨v164, h165, h⟩ := bind_of h
      refine WO_run (j := 10) (k := 5) (orcs := [(10, .known true), (12, .known true), (13, .val (.dat tI v164)), (14, .known true), (16, .known true), (19, .val (.dat .bool true))]) (kF := [4, 5, 6, 7, 25]) (kL := [1002, 1003, 1004, 2005]) (fr' := [(4, .one (.ptr 1002 0)), (5, .one (.ptr 1003 0)), (6, .one (.ptr 1004 0)), (7, aD (.slice tI) y150), (25, aB (v164 != (0 : Int)))]) (L' := [(1002, .cells [.nilS]), (1003, .cells [.dat tI x149.1]), (1004, .cells [.slc 2005]), (2005, .seq (.pair tI (.pair tI (.pair tI tI))) x149.2)]) (obs := [((v161 == (1 : Int)) = true), ((v161 == (1 : Int)) = true), Idx y150 (3 : Int) v164, ((v161 == (1 : Int)) = true), ((v161 == (1 : Int)) = true), ((v161 == (1 : Int)) = true)]) rfl (by kernel_rfl) (allP2 h163 (allP2 h163 (allP2 (Idx.of h165) (allP2 h163 (allP2 h163 (allP1 h163)))))) ?_
      obtain rfl := Option.some.inj h
      refine WO_fin [4, 5, 6, 7, 25] [1002, 1003, 1004, 2005] (fr' := [(4, .one (.ptr 1002 0)), (5, .one (.ptr 1003 0)), (6, .one (.ptr 1004 0)), (7, aD (.slice tI) y150), (25, aB (v164 != (0 : Int)))]) (L' := [(1002, .cells [.nilS]), (1003, .cells [.dat tI x149.1]), (1004, .cells [.slc 2005]), (2005, .seq (.pair tI (.pair tI (.pair tI tI))) x149.2)]) (by kernel_rfl) (by kernel_rfl) ?_
      exact exQ_mk (by kernel_rfl) (by kernel_rfl)
    · replace h := ofF h163 h
      refine WO_run (j := 10) (k := 5) (orcs := [(10, .known false), (12, .known false), (14, .known false), (16, .known false), (19, .val (.dat .bool false))]) (kF := [4, 5, 6, 7, 25]) (kL := [1002, 1003, 1004, 2005]) (fr' := [(4, .one (.ptr 1002 0)), (5, .one (.ptr 1003 0)), (6, .one (.ptr 1004 0)), (7, aD (.slice tI) y150), (25, aB false)]) (L' := [(1002, .cells [.nilS]), (1003, .cells [.dat tI x149.1]), (1004, .cells [.slc 2005]), (2005, .seq (.pair tI (.pair tI (.pair tI tI))) x149.2)]) (obs := [((v161 == (1 : Int)) = false), ((v161 == (1 : Int)) = false), ((v161 == (1 : Int)) = false), ((v161 == (1 : Int)) = false), ((v161 == (1 : Int)) = false)]) rfl (by kernel_rfl) (allP2 h163 (allP2 h163 (allP2 h163 (allP2 h163 (allP1 h163))))) ?_
      obtain rfl := Option.some.inj h
      refine WO_fin [4, 5, 6, 7, 25] [1002, 1003, 1004, 2005] (fr' := [(4, .one (.ptr 1002 0)), (5, .one (.ptr 1003 0)), (6, .one (.ptr 1004 0)), (7, aD (.slice tI) y150), (25, aB false)]) (L' := [(1002, .cells [.nilS]), (1003, .cells [.dat tI x149.1]), (1004, .cells [.slc 2005]), (2005, .seq (.pair tI (.pair tI (.pair tI tI))) x149.2)]) (by kernel_rfl) (by kernel_rfl) ?_
      exact exQ_mk (by kernel_rfl) (by kernel_rfl)
  · intro e fr L hJ
    obtain ⟨rfl, rfl, rfl⟩ := hJ
    refine LT_keep [4, 5, 6, 7, 25] [1002, 1003, 1004, 2005] (fr' := [(4, .one (.ptr 1002 0)), (5, .one (.ptr 1003 0)), (6, .one (.ptr 1004 0)), (7, aD (.slice tI) y150), (25, aB v166)]) (L' := [(1002, .cells [.nilS]), (1003, .cells [.dat tI x149.1]), (1004, .cells [.slc 2005]), (2005, .seq (.pair tI (.pair tI (.pair tI tI))) x149.2)]) (by kernel_rfl) ?_
    refine seqQ_norm ?_
    refine W_cond (o := .tmp 25) (b := v166) (by kernel_rfl) (by kernel_rfl) (fun h168 => ?_) (fun h168 => ?_)
    · replace h := ofT h168 h
      refine W_seq (by kernel_rfl) ?_
      refine W_run 2 [] [] [1002, 1003, 1004, 2005] (fr' := []) (L' := [(1002, .cells [.nilS]), (1003, .cells [.dat tI (3 : Int)]), (1004, .cells [.slc 2005]), (2005, .seq (.pair tI (.pair tI (.pair tI tI))) x149.2)]) (obs := [True, True]) (by kernel_rfl) (by kernel_rfl) (by kernel_rfl) (allP2 trivial (allP1 trivial)) ?_
      refine seqQ_norm ?_
      obtain rfl := Option.some.inj h
      refine W_ret [] [1002, 1003, 1004, 2005] (fr' := []) (L' := [(1002, .cells [.nilS]), (1003, .cells [.dat tI (3 : Int)]), (1004, .cells [.slc 2005]), (2005, .seq (.pair tI (.pair tI (.pair tI tI))) x149.2)]) (by kernel_rfl) (by kernel_rfl) ?_
      refine seqQ_ret ?_
      refine blockQ_ret ?_
      exact bodyQ_mk ⟨rfl, rfl⟩ (by kernel_rfl)
    · replace h := ofF h168 h
      refine W_skip [6, 7] [1004, 1002, 1003, 2005] (fr' := [(6, .one (.ptr 1004 0)), (7, aD (.slice tI) y150)]) (L' := [(1004, .cells [.slc 2005]), (1002, .cells [.nilS]), (1003, .cells [.dat tI x149.1]), (2005, .seq (.pair tI (.pair tI (.pair tI tI))) x149.2)]) (by kernel_rfl) (by kernel_rfl) ?_
      refine seqQ_norm ?_
      obtain ⟨v177, h178, h⟩ := bind_of h
      obtain ⟨v179, h180, h⟩ := bind_of h
      obtain ⟨v181, h182, h⟩ := bind_of h
      obtain ⟨v183, h184, h⟩ := bind_of h
      refine W_drawT5 15 [] [(5, .val (.dat tI v177)), (11, .val (.dat tI v179)), (17, .val (.dat tI v181)), (23, .val (.dat tI v183))] [] [6, 26, 40] [1002, 1003, 1004, 2005] (out := [(26, .one (.slc 2005)), (27, aD (.slice tI) y150), (28, .one (.dptr tI v177)), (29, aI v177), (30, aD (.slice tI) y150), (31, .one (.dptr tI v179)), (32, aI v179), (33, aD (.slice tI) y150), (34, .one (.dptr tI v181)), (35, aI v181), (36, aD (.slice tI) y150), (37, .one (.dptr tI v183)), (38, aI v183), (39, aD (.pair tI (.pair tI (.pair tI tI))) (v177, v179, v181, v183)), (40, aD (.slice (.pair tI (.pair tI (.pair tI tI)))) [(v177, v179, v181, v183)])]) (obs := [Idx y150 (0 : Int) v177, Idx y150 (1 : Int) v179, Idx y150 (2 : Int) v181, Idx y150 (3 : Int) v183, True]) (calls := []) (fr' := [(6, .one (.ptr 1004 0)), (26, .one (.slc 2005)), (40, aD (.slice (.pair tI (.pair tI (.pair tI tI)))) [(v177, v179, v181, v183)])]) (L' := [(1002, .cells [.nilS]), (1003, .cells [.dat tI x149.1]), (1004, .cells [.slc 2005]), (2005, .seq (.pair tI (.pair tI (.pair tI tI))) x149.2)]) (by kernel_rfl) (by kernel_rfl) (by kernel_rfl) (by kernel_rfl) (allP2 (Idx.of h178) (allP2 (Idx.of h180) (allP2 (Idx.of h182) (allP2 (Idx.of h184) (allP1 trivial))))) allD0 (by kernel_rfl) ?_
      obtain ⟨_, h185, h⟩ := bind_of h
      replace h185 := ck_some h185
      refine WO_run (j := 17) (k := 2) (orcs := []) (kF := []) (kL := [1002, 1003, 1004, 2005]) (fr' := []) (L' := [(1002, .cells [.nilS]), (1003, .cells [.dat tI x149.1]), (1004, .cells [.slc 2005]), (2005, .seq (.pair tI (.pair tI (.pair tI tI))) (x149.2 ++ [(v177, v179, v181, v183)]))]) (obs := [SmallLen (List.length x149.2 + List.length [(v177, v179, v181, v183)]), True]) rfl (by kernel_rfl) (allP2 h185 (allP1 trivial)) ?_
      obtain rfl := Option.some.inj h
      refine WO_fin [] [1002, 1003, 1004, 2005] (fr' := []) (L' := [(1002, .cells [.nilS]), (1003, .cells [.dat tI x149.1]), (1004, .cells [.slc 2005]), (2005, .seq (.pair tI (.pair tI (.pair tI tI))) (x149.2 ++ [(v177, v179, v181, v183)]))]) (by kernel_rfl) (by kernel_rfl) ?_
      refine ⟨rfl, ?_⟩
      refine blockQ_norm ?_
      exact bodyQ_mk ⟨rfl, rfl⟩ (by kernel_rfl)
noncomputable def code_Orders (fuel : Nat) (a0 : Int) (a1 : (List Int)) : Option ((List (Int × (Int × (Int × Int)))) × Int) :=
bif (Int.tmod (List.length a1 : Int) (4 : Int)) != (0 : Int) then
(some ([], (3 : Int)))
else
((slices_Chunk_Lintint a1 (4 : Int)).bind fun r2 =>
(slices_Chunk_Lintint_1_for_code_Orders code_Orders_r5 fuel r2.1 r2.2 ((0 : Int), [])).bind fun r186 =>
match r186 with
| .next v188 =>
((count_Check a0 v188.2).bind fun r190 =>
bif r190 != (0 : Int) then
(some ([], r190))
else
(some (v188.2, (0 : Int))))
| .done v189 =>
(some ([], v189.1)))
theorem code_Orders_ok {fuel : Nat} {a0 : Int} {a1 : (List Int)} {r : ((List (Int × (Int × (Int × Int)))) × Int)} (h : code_Orders fuel a0 a1 = some r) : FnC Try.prog 12 [aI a0, aD (.slice tI) a1] [] (.tup [.dat (.slice (.pair tI (.pair tI (.pair tI tI)))) r.1, .dat tI r.2]) [] := by
  refine fnC_of_W (B := bodyOf Try.f12) (n := 49) Try.func12 (by kernel_rfl) (by kernel_rfl) (by kernel_rfl) (by kernel_rfl) (by kernel_rfl) ?_
  intro K
  refine W_seq (by kernel_rfl) ?_
  refine W_run 2 [] [0, 1, 4, 5] [4, 5] (fr' := [(0, aI a0), (1, aD (.slice tI) a1), (4, .one (.ptr 4 0)), (5, .one (.ptr 5 0))]) (L' := [(4, .cells [.nilS]), (5, .cells [.dat tI (0 : Int)])]) (obs := []) (by kernel_rfl) (by kernel_rfl) (by kernel_rfl) allP0 ?_
  refine seqQ_norm ?_
  refine W_seq (by kernel_rfl) ?_
  refine W_seq (by kernel_rfl) ?_
  refine W_run 4 [] [0, 1, 4, 5, 12] [4, 5] (fr' := [(0, aI a0), (1, aD (.slice tI) a1), (4, .one (.ptr 4 0)), (5, .one (.ptr 5 0)), (12, aB ((Int.tmod (List.length a1 : Int) (4 : Int)) != (0 : Int)))]) (L' := [(4, .cells [.nilS]), (5, .cells [.dat tI (0 : Int)])]) (obs := [((4 : Int) ≠ 0)]) (by kernel_rfl) (by kernel_rfl) (by kernel_rfl) (allP1 (by decide)) ?_
  refine seqQ_norm ?_
  refine W_cond (o := .tmp 12) (b := (Int.tmod (List.length a1 : Int) (4 : Int)) != (0 : Int)) (by kernel_rfl) (by kernel_rfl) (fun h1 => ?_) (fun h1 => ?_)
  · replace h := ofT h1 h
    refine W_seq (by kernel_rfl) ?_
    refine W_run 2 [] [4, 5] [4, 5] (fr' := [(4, .one (.ptr 4 0)), (5, .one (.ptr 5 0))]) (L' := [(4, .cells [.nilS]), (5, .cells [.dat tI (3 : Int)])]) (obs := [True, True]) (by kernel_rfl) (by kernel_rfl) (by kernel_rfl) (allP2 trivial (allP1 trivial)) ?_
    refine seqQ_norm ?_
    obtain rfl := Option.some.inj h
    refine W_cell 4 0 (.slice (.pair tI (.pair tI (.pair tI tI)))) (by kernel_rfl) ?_
    refine W_ret [4, 5] [4, 5] (fr' := [(4, .one (.ptr 4 0)), (5, .one (.ptr 5 0))]) (L' := [(4, .cells [.dat (.slice (.pair tI (.pair tI (.pair tI tI)))) []]), (5, .cells [.dat tI (3 : Int)])]) (by kernel_rfl) (by kernel_rfl) ?_
    refine seqQ_ret ?_
    exact retQ_mk (by kernel_rfl) (by kernel_rfl) (by kernel_rfl)
  · replace h := ofF h1 h
    refine W_skip [0, 1, 4, 5] [4, 5] (fr' := [(0, aI a0), (1, aD (.slice tI) a1), (4, .one (.ptr 4 0)), (5, .one (.ptr 5 0))]) (L' := [(4, .cells [.nilS]), (5, .cells [.dat tI (0 : Int)])]) (by kernel_rfl) (by kernel_rfl) ?_
    refine seqQ_norm ?_
    refine W_seq (by kernel_rfl) ?_
    refine W_run 1 [] [0, 1, 4, 5, 6] [4, 5, 6] (fr' := [(0, aI a0), (1, aD (.slice tI) a1), (4, .one (.ptr 4 0)), (5, .one (.ptr 5 0)), (6, .one (.ptr 6 0))]) (L' := [(4, .cells [.nilS]), (5, .cells [.dat tI (0 : Int)]), (6, .cells [.nilS])]) (obs := []) (by kernel_rfl) (by kernel_rfl) (by kernel_rfl) allP0 ?_
    refine seqQ_norm ?_
    refine W_seq (by kernel_rfl) ?_
    refine W_seq (by kernel_rfl) ?_
    refine W_region (by kernel_rfl) ?_
    refine WO_run (j := 1) (k := 1) (orcs := []) (kF := [0, 4, 5, 6, 13]) (kL := [4, 5, 6]) (fr' := [(0, aI a0), (4, .one (.ptr 4 0)), (5, .one (.ptr 5 0)), (6, .one (.ptr 6 0)), (13, aD (.slice tI) a1)]) (L' := [(4, .cells [.nilS]), (5, .cells [.dat tI (0 : Int)]), (6, .cells [.nilS])]) (obs := []) rfl (by kernel_rfl) allP0 ?_
    obtain ⟨r2, h3, h⟩ := bind_of h
    refine WO_lend3 [(2, 600), (3, 601)] [2, 3] (us := [none, none]) (d := 14) (p := True) (j := 2) rfl ⟨by kernel_rfl, by kernel_rfl, by kernel_rfl⟩ trivial (slices_Chunk_Lintint_ok h3) (by kernel_rfl) (by kernel_rfl) ?_
    refine WO_fin [0, 4, 5, 6, 14] [4, 5, 6, 600, 601] (fr' := [(0, aI a0), (4, .one (.ptr 4 0)), (5, .one (.ptr 5 0)), (6, .one (.ptr 6 0)), (14, .one (.fn 52 [(600, 0), (601, 0)]))]) (L' := [(4, .cells [.nilS]), (5, .cells [.dat tI (0 : Int)]), (6, .cells [.nilS]), (600, .cells [.dat (.slice tI) r2.1]), (601, .cells [.dat tI r2.2])]) (by kernel_rfl) (by kernel_rfl) ?_
    refine seqQ_norm ?_
    refine W_block (id := 0) (by kernel_rfl) ?_
    obtain ⟨r186, h187, h⟩ := bind_of h
    refine W_cellown 6 0 998 (.pair tI (.pair tI (.pair tI tI))) (by kernel_rfl) ?_
    rcases r186 with v188 | v189
    · refine W_cutK (Q' := fun e fr L => e = .normal ∧ fr = [(0, aI a0), (4, .one (.ptr 4 0)), (5, .one (.ptr 5 0)), (6, .one (.ptr 6 0)), (14, .one (.fn 52 [(600, 0), (601, 0)]))] ∧ L = [(4, .cells [.nilS]), (5, .cells [.dat tI v188.1]), (6, .cells [.slc 998]), (600, .cells [.dat (.slice tI) r2.1]), (601, .cells [.dat tI r2.2]), (998, .seq (.pair tI (.pair tI (.pair tI tI))) v188.2)]) (W_rangeF 990 14 15 52 (asg := (nav (bodyOf Try.f12) [0, 0, 1, 0, 1, 1, 1])) (body := (nav (bodyOf Try.f12) [1, 0, 1, 0, 1, 1, 1])) (caps := [(1000, 0), (1001, 0)]) (fr0 := [(4, .one (.ptr 1002 0)), (5, .one (.ptr 1003 0)), (6, .one (.ptr 1004 0))]) [(1000, 600), (1001, 601), (1002, 4), (1003, 5), (1004, 6), (2005, 998), (1999, 990)] (Lin := [(1000, .cells [.dat (.slice tI) r2.1]), (1001, .cells [.dat tI r2.2])] ++ slices_Chunk_Lintint_1_for_code_Orders_SX ((0 : Int), [])) (Lout := [(1000, .cells [.dat (.slice tI) r2.1]), (1001, .cells [.dat tI r2.2])] ++ slices_Chunk_Lintint_1_for_code_Orders_SX v188) (R := .tup []) .normal (by kernel_rfl) rfl (Nat.le_refl _) (by kernel_rfl) (by kernel_rfl) (by kernel_rfl) (by kernel_rfl) (fun _ _ _ _ htm => by exact slices_Chunk_Lintint_1_for_code_Orders_ok (fun h => code_Orders_r5_ok h) h187 htm) (.inl rfl) (fun _ _ => by kernel_rfl) (fun _ _ _ => by kernel_rfl) rfl [0, 4, 5, 6, 14] [4, 5, 6, 600, 601, 998] (fun _ _ _ => by kernel_rfl) (by kernel_rfl) ⟨rfl, rfl, rfl⟩) ?_
      intro e fr L hJ
      obtain ⟨rfl, rfl, rfl⟩ := hJ
      refine LT_keep [0, 4, 5, 6] [4, 5, 6, 998] (fr' := [(0, aI a0), (4, .one (.ptr 4 0)), (5, .one (.ptr 5 0)), (6, .one (.ptr 6 0))]) (L' := [(4, .cells [.nilS]), (5, .cells [.dat tI v188.1]), (6, .cells [.slc 998]), (998, .seq (.pair tI (.pair tI (.pair tI tI))) v188.2)]) (by kernel_rfl) ?_
      refine blockQ_norm ?_
      refine seqQ_norm ?_
      refine W_seq (by kernel_rfl) ?_
      refine W_seq (by kernel_rfl) ?_
      refine W_region (by kernel_rfl) ?_
      refine WO_run (j := 2) (k := 2) (orcs := []) (kF := [4, 5, 6, 42, 43]) (kL := [4, 5, 6, 998]) (fr' := [(4, .one (.ptr 4 0)), (5, .one (.ptr 5 0)), (6, .one (.ptr 6 0)), (42, aI a0), (43, .one (.slc 998))]) (L' := [(4, .cells [.nilS]), (5, .cells [.dat tI v188.1]), (6, .cells [.slc 998]), (998, .seq (.pair tI (.pair tI (.pair tI tI))) v188.2)]) (obs := []) rfl (by kernel_rfl) allP0 ?_
      obtain ⟨r190, h191, h⟩ := bind_of h
      refine WO_lend [(1000, 998)] (us := [none, none]) (d := 44) (p := True) (j := 3) rfl ⟨by kernel_rfl, by kernel_rfl, by kernel_rfl⟩ trivial (count_Check_ok h191) (by kernel_rfl) (by kernel_rfl) ?_
      refine WO_run (j := 4) (k := 1) (orcs := []) (kF := [4, 5, 6, 8]) (kL := [4, 5, 6, 998]) (fr' := [(4, .one (.ptr 4 0)), (5, .one (.ptr 5 0)), (6, .one (.ptr 6 0)), (8, aI r190)]) (L' := [(4, .cells [.nilS]), (5, .cells [.dat tI v188.1]), (6, .cells [.slc 998]), (998, .seq (.pair tI (.pair tI (.pair tI tI))) v188.2)]) (obs := []) rfl (by kernel_rfl) allP0 ?_
      refine WO_fin [4, 5, 6, 8] [4, 5, 6, 998] (fr' := [(4, .one (.ptr 4 0)), (5, .one (.ptr 5 0)), (6, .one (.ptr 6 0)), (8, aI r190)]) (L' := [(4, .cells [.nilS]), (5, .cells [.dat tI v188.1]), (6, .cells [.slc 998]), (998, .seq (.pair tI (.pair tI (.pair tI tI))) v188.2)]) (by kernel_rfl) (by kernel_rfl) ?_
      refine seqQ_norm ?_
      refine W_seq (by kernel_rfl) ?_
      refine W_run 2 [] [4, 5, 6, 8, 46] [4, 5, 6, 998] (fr' := [(4, .one (.ptr 4 0)), (5, .one (.ptr 5 0)), (6, .one (.ptr 6 0)), (8, aI r190), (46, aB (r190 != (0 : Int)))]) (L' := [(4, .cells [.nilS]), (5, .cells [.dat tI v188.1]), (6, .cells [.slc 998]), (998, .seq (.pair tI (.pair tI (.pair tI tI))) v188.2)]) (obs := []) (by kernel_rfl) (by kernel_rfl) (by kernel_rfl) allP0 ?_
      refine seqQ_norm ?_
      refine W_cond (o := .tmp 46) (b := r190 != (0 : Int)) (by kernel_rfl) (by kernel_rfl) (fun h192 => ?_) (fun h192 => ?_)
      · replace h := ofT h192 h
        refine W_seq (by kernel_rfl) ?_
        refine W_run 3 [] [4, 5] [4, 5] (fr' := [(4, .one (.ptr 4 0)), (5, .one (.ptr 5 0))]) (L' := [(4, .cells [.nilS]), (5, .cells [.dat tI r190])]) (obs := [True, True]) (by kernel_rfl) (by kernel_rfl) (by kernel_rfl) (allP2 trivial (allP1 trivial)) ?_
        refine seqQ_norm ?_
        obtain rfl := Option.some.inj h
        refine W_cell 4 0 (.slice (.pair tI (.pair tI (.pair tI tI)))) (by kernel_rfl) ?_
        refine W_ret [4, 5] [4, 5] (fr' := [(4, .one (.ptr 4 0)), (5, .one (.ptr 5 0))]) (L' := [(4, .cells [.dat (.slice (.pair tI (.pair tI (.pair tI tI)))) []]), (5, .cells [.dat tI r190])]) (by kernel_rfl) (by kernel_rfl) ?_
        refine seqQ_ret ?_
        exact retQ_mk (by kernel_rfl) (by kernel_rfl) (by kernel_rfl)
      · replace h := ofF h192 h
        refine W_skip [4, 5, 6] [4, 5, 6, 998] (fr' := [(4, .one (.ptr 4 0)), (5, .one (.ptr 5 0)), (6, .one (.ptr 6 0))]) (L' := [(4, .cells [.nilS]), (5, .cells [.dat tI v188.1]), (6, .cells [.slc 998]), (998, .seq (.pair tI (.pair tI (.pair tI tI))) v188.2)]) (by kernel_rfl) (by kernel_rfl) ?_
        refine seqQ_norm ?_
        refine W_seq (by kernel_rfl) ?_
        refine W_run 3 [] [4, 5] [4, 5, 998] (fr' := [(4, .one (.ptr 4 0)), (5, .one (.ptr 5 0))]) (L' := [(4, .cells [.slc 998]), (5, .cells [.dat tI (0 : Int)]), (998, .seq (.pair tI (.pair tI (.pair tI tI))) v188.2)]) (obs := [True, True]) (by kernel_rfl) (by kernel_rfl) (by kernel_rfl) (allP2 trivial (allP1 trivial)) ?_
        refine seqQ_norm ?_
        obtain rfl := Option.some.inj h
        refine W_frz 998 (by kernel_rfl) ?_
        refine W_ret [4, 5] [4, 5] (fr' := [(4, .one (.ptr 4 0)), (5, .one (.ptr 5 0))]) (L' := [(4, .cells [.dat (.slice (.pair tI (.pair tI (.pair tI tI)))) v188.2]), (5, .cells [.dat tI (0 : Int)])]) (by kernel_rfl) (by kernel_rfl) ?_
        exact retQ_mk (by kernel_rfl) (by kernel_rfl) (by kernel_rfl)
    · refine W_cutK (Q' := fun e fr L => e = .ret ∧ fr = [(0, aI a0), (4, .one (.ptr 4 0)), (5, .one (.ptr 5 0)), (6, .one (.ptr 6 0)), (14, .one (.fn 52 [(600, 0), (601, 0)]))] ∧ L = [(4, .cells [.nilS]), (5, .cells [.dat tI v189.1]), (6, .cells [.slc 998]), (600, .cells [.dat (.slice tI) r2.1]), (601, .cells [.dat tI r2.2]), (998, .seq (.pair tI (.pair tI (.pair tI tI))) v189.2)]) (W_rangeF 990 14 15 52 (asg := (nav (bodyOf Try.f12) [0, 0, 1, 0, 1, 1, 1])) (body := (nav (bodyOf Try.f12) [1, 0, 1, 0, 1, 1, 1])) (caps := [(1000, 0), (1001, 0)]) (fr0 := [(4, .one (.ptr 1002 0)), (5, .one (.ptr 1003 0)), (6, .one (.ptr 1004 0))]) [(1000, 600), (1001, 601), (1002, 4), (1003, 5), (1004, 6), (2005, 998), (1999, 990)] (Lin := [(1000, .cells [.dat (.slice tI) r2.1]), (1001, .cells [.dat tI r2.2])] ++ slices_Chunk_Lintint_1_for_code_Orders_SX ((0 : Int), [])) (Lout := [(1000, .cells [.dat (.slice tI) r2.1]), (1001, .cells [.dat tI r2.2])] ++ slices_Chunk_Lintint_1_for_code_Orders_SX v189) (R := .tup []) .ret (by kernel_rfl) rfl (Nat.le_refl _) (by kernel_rfl) (by kernel_rfl) (by kernel_rfl) (by kernel_rfl) (fun _ _ _ _ htm => by exact slices_Chunk_Lintint_1_for_code_Orders_ok (fun h => code_Orders_r5_ok h) h187 htm) (.inr (.inl rfl)) (fun _ _ => by kernel_rfl) (fun _ _ _ => by kernel_rfl) rfl [0, 4, 5, 6, 14] [4, 5, 6, 600, 601, 998] (fun _ _ _ => by kernel_rfl) (by kernel_rfl) ⟨rfl, rfl, rfl⟩) ?_
      intro e fr L hJ
      obtain ⟨rfl, rfl, rfl⟩ := hJ
      obtain rfl := Option.some.inj h
      refine LT_cell 4 0 (.slice (.pair tI (.pair tI (.pair tI tI)))) (by kernel_rfl) ?_
      refine LT_keep [4, 5] [4, 5] (fr' := [(4, .one (.ptr 4 0)), (5, .one (.ptr 5 0))]) (L' := [(4, .cells [.dat (.slice (.pair tI (.pair tI (.pair tI tI)))) []]), (5, .cells [.dat tI v189.1])]) (by kernel_rfl) ?_
      refine blockQ_ret ?_
      refine seqQ_ret ?_
      exact retQ_mk (by kernel_rfl) (by kernel_rfl) (by kernel_rfl)

noncomputable def count_Check_1_i2 (a0 : Int) (c0 : (List (Int × (Int × (Int × Int))))) : Option Bool :=
some ((decide (a0 ≥ (0 : Int))) && (decide (a0 ≤ (List.length c0 : Int))))
theorem count_Check_1_i2_ok {a0 : Int} {c0 : (List (Int × (Int × (Int × Int))))} {r : Bool} (h : count_Check_1_i2 a0 c0 = some r) : FnC Try.prog 53 [aI a0, .one (.ptr 1000 0)] [(1000, .cells [.dat (.slice (.pair tI (.pair tI (.pair tI tI)))) c0])] (aB r) [(1000, .cells [.dat (.slice (.pair tI (.pair tI (.pair tI tI)))) c0])] := by
  refine fnC_of_W (B := bodyOf Try.f53) (n := 12) Try.func53 (by kernel_rfl) (by kernel_rfl) (by kernel_rfl) (by kernel_rfl) (by kernel_rfl) ?_
  intro K
  refine W_seq (by kernel_rfl) ?_
  refine W_run 1 [] [0, 1] [1000] (fr' := [(0, aI a0), (1, .one (.ptr 1000 0))]) (L' := [(1000, .cells [.dat (.slice (.pair tI (.pair tI (.pair tI tI)))) c0])]) (obs := []) (by kernel_rfl) (by kernel_rfl) (by kernel_rfl) allP0 ?_
  refine seqQ_norm ?_
  refine W_seq (by kernel_rfl) ?_
  refine W_run 9 [] [3] [1000] (fr' := [(3, aB ((decide (a0 ≥ (0 : Int))) && (decide (a0 ≤ (List.length c0 : Int)))))]) (L' := [(1000, .cells [.dat (.slice (.pair tI (.pair tI (.pair tI tI)))) c0])]) (obs := []) (by kernel_rfl) (by kernel_rfl) (by kernel_rfl) allP0 ?_
  refine seqQ_norm ?_
  obtain rfl := Option.some.inj h
  refine W_ret [3] [1000] (fr' := [(3, aB ((decide (a0 ≥ (0 : Int))) && (decide (a0 ≤ (List.length c0 : Int)))))]) (L' := [(1000, .cells [.dat (.slice (.pair tI (.pair tI (.pair tI tI)))) c0])]) (by kernel_rfl) (by kernel_rfl) ?_
  exact retQ_mk (by kernel_rfl) (by kernel_rfl) (by kernel_rfl)

noncomputable def count_Check_i2_g9 (a1 : (List (Int × (Int × (Int × Int))))) (v79 : (Int × (Int × (Int × Int)))) : Option Bool :=
(count_Check_1_i2 v79.2.2.1 a1).bind fun r106 =>
bif !r106 then
(some true)
else
(bif v79.1 == (2 : Int) then
((count_Check_1_i2 v79.2.2.2 a1).bind fun r110 =>
some (!r110))
else
(some false))
@[reducible] noncomputable def count_Check_i2_s10 (a0 : Int) (a1 : (List (Int × (Int × (Int × Int))))) (i76 : Int) (v : Bool) : Fr × LL := ([(0, aI a0), (5, .one (.fn 53 [(3, 0)])), (25, aD (.slice (.pair tI (.pair tI (.pair tI tI)))) a1), (26, aI (List.length a1 : Int)), (27, aI i76), (50, aB v)], [(3, .cells [.dat (.slice (.pair tI (.pair tI (.pair tI tI)))) a1])])
@[reducible] noncomputable def count_Check_i2_s11 (a0 : Int) (a1 : (List (Int × (Int × (Int × Int))))) (i76 : Int) (v79 : (Int × (Int × (Int × Int)))) (v : Bool) : Fr × LL := ([(0, aI a0), (5, .one (.fn 53 [(3, 0)])), (7, .one (.ptr 7 0)), (25, aD (.slice (.pair tI (.pair tI (.pair tI tI)))) a1), (26, aI (List.length a1 : Int)), (27, aI i76), (40, aB v)], [(3, .cells [.dat (.slice (.pair tI (.pair tI (.pair tI tI)))) a1]), (7, .one (.pair tI (.pair tI (.pair tI tI))) v79)])
@[reducible] noncomputable def count_Check_i2_s12 (a0 : Int) (a1 : (List (Int × (Int × (Int × Int))))) (i76 : Int) (v79 : (Int × (Int × (Int × Int)))) (v : Bool) : Fr × LL := ([(0, aI a0), (5, .one (.fn 53 [(3, 0)])), (7, .one (.ptr 7 0)), (25, aD (.slice (.pair tI (.pair tI (.pair tI tI)))) a1), (26, aI (List.length a1 : Int)), (27, aI i76), (31, aB v)], [(3, .cells [.dat (.slice (.pair tI (.pair tI (.pair tI tI)))) a1]), (7, .one (.pair tI (.pair tI (.pair tI tI))) v79)])
noncomputable def count_Check_i2_b13 (a0 : Int) (a1 : (List (Int × (Int × (Int × Int))))) (i76 : Int) (v79 : (Int × (Int × (Int × Int)))) (x77 : Unit) : Option (Flow Unit (Esc Int Unit)) :=
(bif v79.1 != (1 : Int) then
(some (v79.1 != (2 : Int)))
else
(some false)).bind fun v85 =>
bif v85 then
(some (.done (.ret (6 : Int))))
else
((bif decide (v79.2.1 < (0 : Int)) then
(some true)
else
(some (decide (v79.2.1 ≥ a0)))).bind fun v91 =>
bif v91 then
(some (.done (.ret (2 : Int))))
else
((count_Check_i2_g9 a1 v79).bind fun v112 =>
bif v112 then
(some (.done (.ret (3 : Int))))
else
(some (.next ()))))
@[reducible] noncomputable def count_Check_i2_s14 (a0 : Int) (a1 : (List (Int × (Int × (Int × Int))))) (v : Int × Unit) : Fr × LL := ([(0, aI a0), (5, .one (.fn 53 [(3, 0)])), (25, aD (.slice (.pair tI (.pair tI (.pair tI tI)))) a1), (26, aI (List.length a1 : Int)), (27, aI v.1)], [(3, .cells [.dat (.slice (.pair tI (.pair tI (.pair tI tI)))) a1])])
@[reducible] noncomputable def count_Check_i2_s15 (v : Int) : Fr × LL := ([(4, aI v)], [])
@[reducible] noncomputable def count_Check_i2_s16 (v : Unit) : Fr × LL := ([], [])
noncomputable def count_Check_i2 (a0 : Int) (a1 : (List (Int × (Int × (Int × Int))))) : Option Int :=
bif (((decide (a0 < (1 : Int))) || (decide (a0 > (4 : Int)))) || (decide ((List.length a1 : Int) < (1 : Int)))) || (decide ((List.length a1 : Int) > (12 : Int))) then
(some (1 : Int))
else
((forL (count_Check_i2_b13 a0 a1) (fun x77 => (.brk ())) a1 0 ()).bind fun v116 =>
match v116 with
| .ret v121 =>
(some v121)
| .brk v122 =>
(some (0 : Int)))
theorem count_Check_i2_ok {a0 : Int} {a1 : (List (Int × (Int × (Int × Int))))} {r : Int} (h : count_Check_i2 a0 a1 = some r) : FnC Try.prog 38 [aI a0, aD (.slice (.pair tI (.pair tI (.pair tI tI)))) a1] [] (aI r) [] := by
  refine fnC_of_W (B := bodyOf Try.f38) (n := 69) Try.func38 (by kernel_rfl) (by kernel_rfl) (by kernel_rfl) (by kernel_rfl) (by kernel_rfl) ?_
  intro K
  refine W_seq (by kernel_rfl) ?_
  refine W_run 2 [] [0, 3] [3] (fr' := [(0, aI a0), (3, .one (.ptr 3 0))]) (L' := [(3, .cells [.dat (.slice (.pair tI (.pair tI (.pair tI tI)))) a1])]) (obs := []) (by kernel_rfl) (by kernel_rfl) (by kernel_rfl) allP0 ?_
  refine seqQ_norm ?_
  refine W_seq (by kernel_rfl) ?_
  refine W_seq (by kernel_rfl) ?_
  refine W_run 16 [] [0, 3, 23] [3] (fr' := [(0, aI a0), (3, .one (.ptr 3 0)), (23, aB ((((decide (a0 < (1 : Int))) || (decide (a0 > (4 : Int)))) || (decide ((List.length a1 : Int) < (1 : Int)))) || (decide ((List.length a1 : Int) > (12 : Int)))))]) (L' := [(3, .cells [.dat (.slice (.pair tI (.pair tI (.pair tI tI)))) a1])]) (obs := []) (by kernel_rfl) (by kernel_rfl) (by kernel_rfl) allP0 ?_
  refine seqQ_norm ?_
  refine W_cond (o := .tmp 23) (b := (((decide (a0 < (1 : Int))) || (decide (a0 > (4 : Int)))) || (decide ((List.length a1 : Int) < (1 : Int)))) || (decide ((List.length a1 : Int) > (12 : Int)))) (by kernel_rfl) (by kernel_rfl) (fun h1 => ?_) (fun h1 => ?_)
  · replace h := ofT h1 h
    refine W_seq (by kernel_rfl) ?_
    refine W_run 1 [] [4] [] (fr' := [(4, aI (1 : Int))]) (L' := []) (obs := []) (by kernel_rfl) (by kernel_rfl) (by kernel_rfl) allP0 ?_
    refine seqQ_norm ?_
    obtain rfl := Option.some.inj h
    refine W_ret [4] [] (fr' := [(4, aI (1 : Int))]) (L' := []) (by kernel_rfl) (by kernel_rfl) ?_
    refine seqQ_ret ?_
    exact retQ_mk (by kernel_rfl) (by kernel_rfl) (by kernel_rfl)
  · replace h := ofF h1 h
    refine W_skip [0, 3] [3] (fr' := [(0, aI a0), (3, .one (.ptr 3 0))]) (L' := [(3, .cells [.dat (.slice (.pair tI (.pair tI (.pair tI tI)))) a1])]) (by kernel_rfl) (by kernel_rfl) ?_
    refine seqQ_norm ?_
    refine W_seq (by kernel_rfl) ?_
    refine W_run 2 [] [0, 3, 5] [3] (fr' := [(0, aI a0), (3, .one (.ptr 3 0)), (5, .one (.fn 53 [(3, 0)]))]) (L' := [(3, .cells [.dat (.slice (.pair tI (.pair tI (.pair tI tI)))) a1])]) (obs := []) (by kernel_rfl) (by kernel_rfl) (by kernel_rfl) allP0 ?_
    refine seqQ_norm ?_
    refine W_seq (by kernel_rfl) ?_
    refine W_seq (by kernel_rfl) ?_
    refine W_run 3 [] [0, 5, 25, 26, 27] [3] (fr' := [(0, aI a0), (5, .one (.fn 53 [(3, 0)])), (25, aD (.slice (.pair tI (.pair tI (.pair tI tI)))) a1), (26, aI (List.length a1 : Int)), (27, aI (0 : Int))]) (L' := [(3, .cells [.dat (.slice (.pair tI (.pair tI (.pair tI tI)))) a1])]) (obs := []) (by kernel_rfl) (by kernel_rfl) (by kernel_rfl) allP0 ?_
    refine seqQ_norm ?_
    refine W_block (id := 0) (by kernel_rfl) ?_
    obtain ⟨v116, h117, h⟩ := bind_of h
    refine W_len (t := 25) (u := (.pair tI (.pair tI (.pair tI tI)))) (xs := a1) (by kernel_rfl) (fun h120 => ?_)
    obtain ⟨h118, h119⟩ := forL_iter h120 h117
    refine W_weaken [0, 5, 25, 26, 27] [3] (fr' := ((count_Check_i2_s14 a0 a1) ((0 : Int), ())).1) (L' := ((count_Check_i2_s14 a0 a1) ((0 : Int), ())).2) (by kernel_rfl) ?_
    refine W_cutK (W_loop (S := (count_Check_i2_s14 a0 a1)) (J := (escQ (exQ .ret count_Check_i2_s15) (exQ (.exit 0) count_Check_i2_s16))) (by kernel_rfl) ?_ h118 _ v116 h119) ?_
    · rintro ⟨i76, x77⟩ s h
      refine W_seq (by kernel_rfl) ?_
      refine W_run 1 [] [0, 5, 25, 26, 27, 28] [3] (fr' := [(0, aI a0), (5, .one (.fn 53 [(3, 0)])), (25, aD (.slice (.pair tI (.pair tI (.pair tI tI)))) a1), (26, aI (List.length a1 : Int)), (27, aI i76), (28, aB (decide (i76 < (List.length a1 : Int))))]) (L' := [(3, .cells [.dat (.slice (.pair tI (.pair tI (.pair tI tI)))) a1])]) (obs := []) (by kernel_rfl) (by kernel_rfl) (by kernel_rfl) allP0 ?_
      refine seqQ_norm ?_
      refine W_seq (by kernel_rfl) ?_
      refine W_cond (o := .tmp 28) (b := decide (i76 < (List.length a1 : Int))) (by kernel_rfl) (by kernel_rfl) (fun h81 => ?_) (fun h81 => ?_)
      · replace h := stepL_true h81 h
        obtain ⟨v79, _, h80, h, rfl⟩ := h
        refine W_skip [0, 5, 25, 26, 27] [3] (fr' := [(0, aI a0), (5, .one (.fn 53 [(3, 0)])), (25, aD (.slice (.pair tI (.pair tI (.pair tI tI)))) a1), (26, aI (List.length a1 : Int)), (27, aI i76)]) (L' := [(3, .cells [.dat (.slice (.pair tI (.pair tI (.pair tI tI)))) a1])]) (by kernel_rfl) (by kernel_rfl) ?_
        refine seqQ_norm ?_
        refine W_seq (by kernel_rfl) ?_
        refine W_block (id := 1) (by kernel_rfl) ?_
        refine W_seq (by kernel_rfl) ?_
        refine W_run 4 [(1, .val (.dat (.pair tI (.pair tI (.pair tI tI))) v79)), (5, .typed)] [0, 5, 7, 25, 26, 27] [3, 7] (fr' := [(0, aI a0), (5, .one (.fn 53 [(3, 0)])), (7, .one (.ptr 7 0)), (25, aD (.slice (.pair tI (.pair tI (.pair tI tI)))) a1), (26, aI (List.length a1 : Int)), (27, aI i76)]) (L' := [(3, .cells [.dat (.slice (.pair tI (.pair tI (.pair tI tI)))) a1]), (7, .one (.pair tI (.pair tI (.pair tI tI))) v79)]) (obs := [Idx a1 i76 v79, True]) (by kernel_rfl) (by kernel_rfl) (by kernel_rfl) (allP2 (Idx.of h80) (allP1 trivial)) ?_
        refine seqQ_norm ?_
        refine W_block (id := 2) (by kernel_rfl) ?_
        refine W_seq (by kernel_rfl) ?_
        obtain ⟨v85, h86, h⟩ := bind_of h
        refine W_cutK (Q' := (exQ .normal (count_Check_i2_s12 a0 a1 i76 v79)) v85) ?_ ?_
        · replace h := h86
          refine W_region (by kernel_rfl) ?_
          refine WO_run (j := 4) (k := 4) (orcs := []) (kF := [0, 5, 7, 25, 26, 27, 35]) (kL := [3, 7]) (fr' := [(0, aI a0), (5, .one (.fn 53 [(3, 0)])), (7, .one (.ptr 7 0)), (25, aD (.slice (.pair tI (.pair tI (.pair tI tI)))) a1), (26, aI (List.length a1 : Int)), (27, aI i76), (35, aB (v79.1 != (1 : Int)))]) (L' := [(3, .cells [.dat (.slice (.pair tI (.pair tI (.pair tI tI)))) a1]), (7, .one (.pair tI (.pair tI (.pair tI tI))) v79)]) (obs := []) rfl (by kernel_rfl) allP0 ?_
          rcases Bool.eq_false_or_eq_true (v79.1 != (1 : Int)) with h84 | h84
          · replace h := ofT h84 h
            refine WO_run (j := 9) (k := 5) (orcs := [(8, .known true), (10, .known true), (12, .known true), (15, .val (.dat .bool true))]) (kF := [0, 5, 7, 25, 26, 27, 31]) (kL := [3, 7]) (fr' := [(0, aI a0), (5, .one (.fn 53 [(3, 0)])), (7, .one (.ptr 7 0)), (25, aD (.slice (.pair tI (.pair tI (.pair tI tI)))) a1), (26, aI (List.length a1 : Int)), (27, aI i76), (31, aB (v79.1 != (2 : Int)))]) (L' := [(3, .cells [.dat (.slice (.pair tI (.pair tI (.pair tI tI)))) a1]), (7, .one (.pair tI (.pair tI (.pair tI tI))) v79)]) (obs := [((v79.1 != (1 : Int)) = true), ((v79.1 != (1 : Int)) = true), ((v79.1 != (1 : Int)) = true), ((v79.1 != (1 : Int)) = true)]) rfl (by kernel_rfl) (allP2 h84 (allP2 h84 (allP2 h84 (allP1 h84)))) ?_
            obtain rfl := Option.some.inj h
            refine WO_fin [0, 5, 7, 25, 26, 27, 31] [3, 7] (fr' := [(0, aI a0), (5, .one (.fn 53 [(3, 0)])), (7, .one (.ptr 7 0)), (25, aD (.slice (.pair tI (.pair tI (.pair tI tI)))) a1), (26, aI (List.length a1 : Int)), (27, aI i76), (31, aB (v79.1 != (2 : Int)))]) (L' := [(3, .cells [.dat (.slice (.pair tI (.pair tI (.pair tI tI)))) a1]), (7, .one (.pair tI (.pair tI (.pair tI tI))) v79)]) (by kernel_rfl) (by kernel_rfl) ?_
            exact exQ_mk (by kernel_rfl) (by kernel_rfl)
          · replace h := ofF h84 h
            refine WO_run (j := 9) (k := 5) (orcs := [(8, .known false), (10, .known false), (12, .known false), (15, .val (.dat .bool false))]) (kF := [0, 5, 7, 25, 26, 27, 31]) (kL := [3, 7]) (fr' := [(0, aI a0), (5, .one (.fn 53 [(3, 0)])), (7, .one (.ptr 7 0)), (25, aD (.slice (.pair tI (.pair tI (.pair tI tI)))) a1), (26, aI (List.length a1 : Int)), (27, aI i76), (31, aB false)]) (L' := [(3, .cells [.dat (.slice (.pair tI (.pair tI (.pair tI tI)))) a1]), (7, .one (.pair tI (.pair tI (.pair tI tI))) v79)]) (obs := [((v79.1 != (1 : Int)) = false), ((v79.1 != (1 : Int)) = false), ((v79.1 != (1 : Int)) = false), ((v79.1 != (1 : Int)) = false)]) rfl (by kernel_rfl) (allP2 h84 (allP2 h84 (allP2 h84 (allP1 h84)))) ?_
            obtain rfl := Option.some.inj h
            refine WO_fin [0, 5, 7, 25, 26, 27, 31] [3, 7] (fr' := [(0, aI a0), (5, .one (.fn 53 [(3, 0)])), (7, .one (.ptr 7 0)), (25, aD (.slice (.pair tI (.pair tI (.pair tI tI)))) a1), (26, aI (List.length a1 : Int)), (27, aI i76), (31, aB false)]) (L' := [(3, .cells [.dat (.slice (.pair tI (.pair tI (.pair tI tI)))) a1]), (7, .one (.pair tI (.pair tI (.pair tI tI))) v79)]) (by kernel_rfl) (by kernel_rfl) ?_
            exact exQ_mk (by kernel_rfl) (by kernel_rfl)
        · intro e fr L hJ
          obtain ⟨rfl, rfl, rfl⟩ := hJ
          refine LT_keep [0, 5, 7, 25, 26, 27, 31] [3, 7] (fr' := [(0, aI a0), (5, .one (.fn 53 [(3, 0)])), (7, .one (.ptr 7 0)), (25, aD (.slice (.pair tI (.pair tI (.pair tI tI)))) a1), (26, aI (List.length a1 : Int)), (27, aI i76), (31, aB v85)]) (L' := [(3, .cells [.dat (.slice (.pair tI (.pair tI (.pair tI tI)))) a1]), (7, .one (.pair tI (.pair tI (.pair tI tI))) v79)]) (by kernel_rfl) ?_
          refine seqQ_norm ?_
          refine W_cond (o := .tmp 31) (b := v85) (by kernel_rfl) (by kernel_rfl) (fun h87 => ?_) (fun h87 => ?_)
          · replace h := ofT h87 h
            refine W_seq (by kernel_rfl) ?_
            refine W_run 1 [] [4] [] (fr' := [(4, aI (6 : Int))]) (L' := []) (obs := []) (by kernel_rfl) (by kernel_rfl) (by kernel_rfl) allP0 ?_
            refine seqQ_norm ?_
            obtain rfl := Option.some.inj h
            refine W_ret [4] [] (fr' := [(4, aI (6 : Int))]) (L' := []) (by kernel_rfl) (by kernel_rfl) ?_
            refine blockQ_ret ?_
            refine blockQ_ret ?_
            refine seqQ_ret ?_
            refine round_ret ?_
            refine escQ_ret ?_
            exact exQ_mk (by kernel_rfl) (by kernel_rfl)
          · replace h := ofF h87 h
            refine W_seq (by kernel_rfl) ?_
            obtain ⟨v91, h92, h⟩ := bind_of h
            refine W_cutK (Q' := (exQ .normal (count_Check_i2_s11 a0 a1 i76 v79)) v91) ?_ ?_
            · replace h := h92
              refine W_region (by kernel_rfl) ?_
              refine WO_run (j := 4) (k := 4) (orcs := []) (kF := [0, 5, 7, 25, 26, 27, 44]) (kL := [3, 7]) (fr' := [(0, aI a0), (5, .one (.fn 53 [(3, 0)])), (7, .one (.ptr 7 0)), (25, aD (.slice (.pair tI (.pair tI (.pair tI tI)))) a1), (26, aI (List.length a1 : Int)), (27, aI i76), (44, aB (decide (v79.2.1 < (0 : Int))))]) (L' := [(3, .cells [.dat (.slice (.pair tI (.pair tI (.pair tI tI)))) a1]), (7, .one (.pair tI (.pair tI (.pair tI tI))) v79)]) (obs := []) rfl (by kernel_rfl) allP0 ?_
              rcases Bool.eq_false_or_eq_true (decide (v79.2.1 < (0 : Int))) with h90 | h90
              · replace h := ofT h90 h
                refine WO_run (j := 10) (k := 6) (orcs := [(8, .known true), (10, .known true), (12, .known true), (14, .known true), (17, .val (.dat .bool true))]) (kF := [0, 5, 7, 25, 26, 27, 40]) (kL := [3, 7]) (fr' := [(0, aI a0), (5, .one (.fn 53 [(3, 0)])), (7, .one (.ptr 7 0)), (25, aD (.slice (.pair tI (.pair tI (.pair tI tI)))) a1), (26, aI (List.length a1 : Int)), (27, aI i76), (40, aB true)]) (L' := [(3, .cells [.dat (.slice (.pair tI (.pair tI (.pair tI tI)))) a1]), (7, .one (.pair tI (.pair tI (.pair tI tI))) v79)]) (obs := [((decide (v79.2.1 < (0 : Int))) = true), ((decide (v79.2.1 < (0 : Int))) = true), ((decide (v79.2.1 < (0 : Int))) = true), ((decide (v79.2.1 < (0 : Int))) = true), ((decide (v79.2.1 < (0 : Int))) = true)]) rfl (by kernel_rfl) (allP2 h90 (allP2 h90 (allP2 h90 (allP2 h90 (allP1 h90))))) ?_
                obtain rfl := Option.some.inj h
                refine WO_fin [0, 5, 7, 25, 26, 27, 40] [3, 7] (fr' := [(0, aI a0), (5, .one (.fn 53 [(3, 0)])), (7, .one (.ptr 7 0)), (25, aD (.slice (.pair tI (.pair tI (.pair tI tI)))) a1), (26, aI (List.length a1 : Int)), (27, aI i76), (40, aB true)]) (L' := [(3, .cells [.dat (.slice (.pair tI (.pair tI (.pair tI tI)))) a1]), (7, .one (.pair tI (.pair tI (.pair tI tI))) v79)]) (by kernel_rfl) (by kernel_rfl) ?_
                exact exQ_mk (by kernel_rfl) (by kernel_rfl)
              · replace h := ofF h90 h
                refine WO_run (j := 10) (k := 6) (orcs := [(8, .known false), (10, .known false), (12, .known false), (14, .known false), (17, .val (.dat .bool false))]) (kF := [0, 5, 7, 25, 26, 27, 40]) (kL := [3, 7]) (fr' := [(0, aI a0), (5, .one (.fn 53 [(3, 0)])), (7, .one (.ptr 7 0)), (25, aD (.slice (.pair tI (.pair tI (.pair tI tI)))) a1), (26, aI (List.length a1 : Int)), (27, aI i76), (40, aB (decide (v79.2.1 ≥ a0)))]) (L' := [(3, .cells [.dat (.slice (.pair tI (.pair tI (.pair tI tI)))) a1]), (7, .one (.pair tI (.pair tI (.pair tI tI))) v79)]) (obs := [((decide (v79.2.1 < (0 : Int))) = false), ((decide (v79.2.1 < (0 : Int))) = false), ((decide (v79.2.1 < (0 : Int))) = false), ((decide (v79.2.1 < (0 : Int))) = false), ((decide (v79.2.1 < (0 : Int))) = false)]) rfl (by kernel_rfl) (allP2 h90 (allP2 h90 (allP2 h90 (allP2 h90 (allP1 h90))))) ?_
                obtain rfl := Option.some.inj h
                refine WO_fin [0, 5, 7, 25, 26, 27, 40] [3, 7] (fr' := [(0, aI a0), (5, .one (.fn 53 [(3, 0)])), (7, .one (.ptr 7 0)), (25, aD (.slice (.pair tI (.pair tI (.pair tI tI)))) a1), (26, aI (List.length a1 : Int)), (27, aI i76), (40, aB (decide (v79.2.1 ≥ a0)))]) (L' := [(3, .cells [.dat (.slice (.pair tI (.pair tI (.pair tI tI)))) a1]), (7, .one (.pair tI (.pair tI (.pair tI tI))) v79)]) (by kernel_rfl) (by kernel_rfl) ?_
                exact exQ_mk (by kernel_rfl) (by kernel_rfl)
            · intro e fr L hJ
              obtain ⟨rfl, rfl, rfl⟩ := hJ
              refine LT_keep [0, 5, 7, 25, 26, 27, 40] [3, 7] (fr' := [(0, aI a0), (5, .one (.fn 53 [(3, 0)])), (7, .one (.ptr 7 0)), (25, aD (.slice (.pair tI (.pair tI (.pair tI tI)))) a1), (26, aI (List.length a1 : Int)), (27, aI i76), (40, aB v91)]) (L' := [(3, .cells [.dat (.slice (.pair tI (.pair tI (.pair tI tI)))) a1]), (7, .one (.pair tI (.pair tI (.pair tI tI))) v79)]) (by kernel_rfl) ?_
              refine seqQ_norm ?_
              refine W_cond (o := .tmp 40) (b := v91) (by kernel_rfl) (by kernel_rfl) (fun h93 => ?_) (fun h93 => ?_)
              · replace h := ofT h93 h
                refine W_seq (by kernel_rfl) ?_
                refine W_run 1 [] [4] [] (fr' := [(4, aI (2 : Int))]) (L' := []) (obs := []) (by kernel_rfl) (by kernel_rfl) (by kernel_rfl) allP0 ?_
                refine seqQ_norm ?_
                obtain rfl := Option.some.inj h
                refine W_ret [4] [] (fr' := [(4, aI (2 : Int))]) (L' := []) (by kernel_rfl) (by kernel_rfl) ?_
                refine blockQ_ret ?_
                refine blockQ_ret ?_
                refine seqQ_ret ?_
                refine round_ret ?_
                refine escQ_ret ?_
                exact exQ_mk (by kernel_rfl) (by kernel_rfl)
              · replace h := ofF h93 h
                refine W_seq (by kernel_rfl) ?_
                obtain ⟨v112, h113, h⟩ := bind_of h
                refine W_cutK (Q' := (exQ .normal (count_Check_i2_s10 a0 a1 i76)) v112) ?_ ?_
                · replace h := h113
                  refine W_region (by kernel_rfl) ?_
                  refine WO_run (j := 3) (k := 3) (orcs := []) (kF := [0, 5, 7, 25, 26, 27, 51, 53]) (kL := [3, 7]) (fr' := [(0, aI a0), (5, .one (.fn 53 [(3, 0)])), (7, .one (.ptr 7 0)), (25, aD (.slice (.pair tI (.pair tI (.pair tI tI)))) a1), (26, aI (List.length a1 : Int)), (27, aI i76), (51, .one (.fn 53 [(3, 0)])), (53, aI v79.2.2.1)]) (L' := [(3, .cells [.dat (.slice (.pair tI (.pair tI (.pair tI tI)))) a1]), (7, .one (.pair tI (.pair tI (.pair tI tI))) v79)]) (obs := []) rfl (by kernel_rfl) allP0 ?_
                  obtain ⟨r106, h107, h⟩ := bind_of h
                  refine WO_lend [(1000, 3)] (us := [none, none]) (d := 54) (p := True) (j := 4) rfl ⟨by kernel_rfl, by kernel_rfl, by kernel_rfl⟩ trivial (count_Check_1_i2_ok h107) (by kernel_rfl) (by kernel_rfl) ?_
                  refine WO_run (j := 6) (k := 2) (orcs := []) (kF := [0, 5, 7, 25, 26, 27, 56]) (kL := [3, 7]) (fr' := [(0, aI a0), (5, .one (.fn 53 [(3, 0)])), (7, .one (.ptr 7 0)), (25, aD (.slice (.pair tI (.pair tI (.pair tI tI)))) a1), (26, aI (List.length a1 : Int)), (27, aI i76), (56, aB (!r106))]) (L' := [(3, .cells [.dat (.slice (.pair tI (.pair tI (.pair tI tI)))) a1]), (7, .one (.pair tI (.pair tI (.pair tI tI))) v79)]) (obs := []) rfl (by kernel_rfl) allP0 ?_
                  rcases Bool.eq_false_or_eq_true (!r106) with h108 | h108
                  · replace h := ofT h108 h
                    refine WO_run (j := 18) (k := 12) (orcs := [(12, .known true), (14, .known true), (16, .known true), (18, .known true), (20, .known true), (22, .known true), (24, .known true), (26, .known true), (28, .known true), (30, .known true), (33, .val (.dat .bool true))]) (kF := [0, 5, 25, 26, 27, 50]) (kL := [3, 7]) (fr' := [(0, aI a0), (5, .one (.fn 53 [(3, 0)])), (25, aD (.slice (.pair tI (.pair tI (.pair tI tI)))) a1), (26, aI (List.length a1 : Int)), (27, aI i76), (50, aB true)]) (L' := [(3, .cells [.dat (.slice (.pair tI (.pair tI (.pair tI tI)))) a1]), (7, .one (.pair tI (.pair tI (.pair tI tI))) v79)]) (obs := [((!r106) = true), ((!r106) = true), ((!r106) = true), ((!r106) = true), ((!r106) = true), ((!r106) = true)]) rfl (by kernel_rfl) (allP2 h108 (allP2 h108 (allP2 h108 (allP2 h108 (allP2 h108 (allP1 h108)))))) ?_
                    obtain rfl := Option.some.inj h
                    refine WO_fin [0, 5, 25, 26, 27, 50] [3] (fr' := [(0, aI a0), (5, .one (.fn 53 [(3, 0)])), (25, aD (.slice (.pair tI (.pair tI (.pair tI tI)))) a1), (26, aI (List.length a1 : Int)), (27, aI i76), (50, aB true)]) (L' := [(3, .cells [.dat (.slice (.pair tI (.pair tI (.pair tI tI)))) a1])]) (by kernel_rfl) (by kernel_rfl) ?_
                    exact exQ_mk (by kernel_rfl) (by kernel_rfl)
                  · replace h := ofF h108 h
                    refine WO_run (j := 10) (k := 4) (orcs := [(12, .known false), (14, .known false), (16, .known false), (18, .known false)]) (kF := [0, 5, 7, 25, 26, 27, 56, 60]) (kL := [3, 7]) (fr' := [(0, aI a0), (5, .one (.fn 53 [(3, 0)])), (7, .one (.ptr 7 0)), (25, aD (.slice (.pair tI (.pair tI (.pair tI tI)))) a1), (26, aI (List.length a1 : Int)), (27, aI i76), (56, aB (!r106)), (60, aB (v79.1 == (2 : Int)))]) (L' := [(3, .cells [.dat (.slice (.pair tI (.pair tI (.pair tI tI)))) a1]), (7, .one (.pair tI (.pair tI (.pair tI tI))) v79)]) (obs := [((!r106) = false), ((!r106) = false), ((!r106) = false), ((!r106) = false)]) rfl (by kernel_rfl) (allP2 h108 (allP2 h108 (allP2 h108 (allP1 h108)))) ?_
                    rcases Bool.eq_false_or_eq_true (v79.1 == (2 : Int)) with h109 | h109
                    · replace h := ofT h109 h
                      refine WO_run (j := 13) (k := 3) (orcs := [(20, .known true), (22, .known true), (24, .known true)]) (kF := [0, 5, 25, 26, 27, 56, 60, 61, 63]) (kL := [3, 7]) (fr' := [(0, aI a0), (5, .one (.fn 53 [(3, 0)])), (25, aD (.slice (.pair tI (.pair tI (.pair tI tI)))) a1), (26, aI (List.length a1 : Int)), (27, aI i76), (56, aB (!r106)), (60, aB (v79.1 == (2 : Int))), (61, .one (.fn 53 [(3, 0)])), (63, aI v79.2.2.2)]) (L' := [(3, .cells [.dat (.slice (.pair tI (.pair tI (.pair tI tI)))) a1]), (7, .one (.pair tI (.pair tI (.pair tI tI))) v79)]) (obs := [((v79.1 == (2 : Int)) = true), ((v79.1 == (2 : Int)) = true), ((v79.1 == (2 : Int)) = true)]) rfl (by kernel_rfl) (allP2 h109 (allP2 h109 (allP1 h109))) ?_
                      obtain ⟨r110, h111, h⟩ := bind_of h
                      refine WO_lend [(1000, 3)] (us := [none, none]) (d := 64) (p := ((v79.1 == (2 : Int)) = true)) (j := 14) rfl ⟨by kernel_rfl, by kernel_rfl, by kernel_rfl⟩ h109 (count_Check_1_i2_ok h111) (by kernel_rfl) (by kernel_rfl) ?_
                      refine WO_run (j := 18) (k := 4) (orcs := [(28, .known true), (30, .known false), (31, .val (.dat .bool true)), (33, .val (.dat .bool false))]) (kF := [0, 5, 25, 26, 27, 50]) (kL := [3, 7]) (fr' := [(0, aI a0), (5, .one (.fn 53 [(3, 0)])), (25, aD (.slice (.pair tI (.pair tI (.pair tI tI)))) a1), (26, aI (List.length a1 : Int)), (27, aI i76), (50, aB (!r110))]) (L' := [(3, .cells [.dat (.slice (.pair tI (.pair tI (.pair tI tI)))) a1]), (7, .one (.pair tI (.pair tI (.pair tI tI))) v79)]) (obs := [((v79.1 == (2 : Int)) = true), ((!r106) = false), ((v79.1 == (2 : Int)) = true), ((!r106) = false)]) rfl (by kernel_rfl) (allP2 h109 (allP2 h108 (allP2 h109 (allP1 h108)))) ?_
                      obtain rfl := Option.some.inj h
                      refine WO_fin [0, 5, 25, 26, 27, 50] [3] (fr' := [(0, aI a0), (5, .one (.fn 53 [(3, 0)])), (25, aD (.slice (.pair tI (.pair tI (.pair tI tI)))) a1), (26, aI (List.length a1 : Int)), (27, aI i76), (50, aB (!r110))]) (L' := [(3, .cells [.dat (.slice (.pair tI (.pair tI (.pair tI tI)))) a1])]) (by kernel_rfl) (by kernel_rfl) ?_
                      exact exQ_mk (by kernel_rfl) (by kernel_rfl)
                    · replace h := ofF h109 h
                      refine WO_run (j := 18) (k := 8) (orcs := [(20, .known false), (22, .known false), (24, .known false), (26, .known false), (28, .known false), (30, .known false), (31, .val (.dat .bool false)), (33, .val (.dat .bool false))]) (kF := [0, 5, 25, 26, 27, 50]) (kL := [3, 7]) (fr' := [(0, aI a0), (5, .one (.fn 53 [(3, 0)])), (25, aD (.slice (.pair tI (.pair tI (.pair tI tI)))) a1), (26, aI (List.length a1 : Int)), (27, aI i76), (50, aB false)]) (L' := [(3, .cells [.dat (.slice (.pair tI (.pair tI (.pair tI tI)))) a1]), (7, .one (.pair tI (.pair tI (.pair tI tI))) v79)]) (obs := [((v79.1 == (2 : Int)) = false), ((v79.1 == (2 : Int)) = false), ((v79.1 == (2 : Int)) = false), ((v79.1 == (2 : Int)) = false), ((v79.1 == (2 : Int)) = false), ((!r106) = false), ((v79.1 == (2 : Int)) = false), ((!r106) = false)]) rfl (by kernel_rfl) (allP2 h109 (allP2 h109 (allP2 h109 (allP2 h109 (allP2 h109 (allP2 h108 (allP2 h109 (allP1 h108)))))))) ?_
                      obtain rfl := Option.some.inj h
                      refine WO_fin [0, 5, 25, 26, 27, 50] [3] (fr' := [(0, aI a0), (5, .one (.fn 53 [(3, 0)])), (25, aD (.slice (.pair tI (.pair tI (.pair tI tI)))) a1), (26, aI (List.length a1 : Int)), (27, aI i76), (50, aB false)]) (L' := [(3, .cells [.dat (.slice (.pair tI (.pair tI (.pair tI tI)))) a1])]) (by kernel_rfl) (by kernel_rfl) ?_
                      exact exQ_mk (by kernel_rfl) (by kernel_rfl)
                · intro e fr L hJ
                  obtain ⟨rfl, rfl, rfl⟩ := hJ
                  refine LT_keep [0, 5, 25, 26, 27, 50] [3] (fr' := [(0, aI a0), (5, .one (.fn 53 [(3, 0)])), (25, aD (.slice (.pair tI (.pair tI (.pair tI tI)))) a1), (26, aI (List.length a1 : Int)), (27, aI i76), (50, aB v112)]) (L' := [(3, .cells [.dat (.slice (.pair tI (.pair tI (.pair tI tI)))) a1])]) (by kernel_rfl) ?_
                  refine seqQ_norm ?_
                  refine W_cond (o := .tmp 50) (b := v112) (by kernel_rfl) (by kernel_rfl) (fun h114 => ?_) (fun h114 => ?_)
                  · replace h := ofT h114 h
                    refine W_seq (by kernel_rfl) ?_
                    refine W_run 1 [] [4] [] (fr' := [(4, aI (3 : Int))]) (L' := []) (obs := []) (by kernel_rfl) (by kernel_rfl) (by kernel_rfl) allP0 ?_
                    refine seqQ_norm ?_
                    obtain rfl := Option.some.inj h
                    refine W_ret [4] [] (fr' := [(4, aI (3 : Int))]) (L' := []) (by kernel_rfl) (by kernel_rfl) ?_
                    refine blockQ_ret ?_
                    refine blockQ_ret ?_
                    refine seqQ_ret ?_
                    refine round_ret ?_
                    refine escQ_ret ?_
                    exact exQ_mk (by kernel_rfl) (by kernel_rfl)
                  · replace h := ofF h114 h
                    refine W_skip [0, 5, 25, 26, 27] [3] (fr' := [(0, aI a0), (5, .one (.fn 53 [(3, 0)])), (25, aD (.slice (.pair tI (.pair tI (.pair tI tI)))) a1), (26, aI (List.length a1 : Int)), (27, aI i76)]) (L' := [(3, .cells [.dat (.slice (.pair tI (.pair tI (.pair tI tI)))) a1])]) (by kernel_rfl) (by kernel_rfl) ?_
                    refine blockQ_norm ?_
                    refine blockQ_norm ?_
                    refine seqQ_norm ?_
                    obtain rfl := Option.some.inj h
                    refine W_run 2 [] [0, 5, 25, 26, 27] [3] (fr' := [(0, aI a0), (5, .one (.fn 53 [(3, 0)])), (25, aD (.slice (.pair tI (.pair tI (.pair tI tI)))) a1), (26, aI (List.length a1 : Int)), (27, aI (w64 (i76 + (1 : Int))))]) (L' := [(3, .cells [.dat (.slice (.pair tI (.pair tI (.pair tI tI)))) a1])]) (obs := []) (by kernel_rfl) (by kernel_rfl) (by kernel_rfl) allP0 ?_
                    exact round_next' (by kernel_rfl) (by kernel_rfl)
      · obtain rfl := stepL_false h81 h
        refine W_exit (id := 0) [] [] (fr' := []) (L' := []) (by kernel_rfl) (by kernel_rfl) ?_
        refine seqQ_exit ?_
        refine round_exit ?_
        refine escQ_brk ?_
        exact exQ_mk (by kernel_rfl) (by kernel_rfl)
    · intro e fr L hJ
      rcases v116 with v121 | v122
      · obtain ⟨rfl, rfl, rfl⟩ := hJ
        obtain rfl := Option.some.inj h
        refine LT_keep [4] [] (fr' := [(4, aI v121)]) (L' := []) (by kernel_rfl) ?_
        refine blockQ_ret ?_
        refine seqQ_ret ?_
        exact retQ_mk (by kernel_rfl) (by kernel_rfl) (by kernel_rfl)
      · obtain ⟨rfl, rfl, rfl⟩ := hJ
        refine LT_keep [] [] (fr' := []) (L' := []) (by kernel_rfl) ?_
        refine blockQ_hit ?_
        refine seqQ_norm ?_
        refine W_seq (by kernel_rfl) ?_
        refine W_run 1 [] [4] [] (fr' := [(4, aI (0 : Int))]) (L' := []) (obs := []) (by kernel_rfl) (by kernel_rfl) (by kernel_rfl) allP0 ?_
        refine seqQ_norm ?_
        obtain rfl := Option.some.inj h
        refine W_ret [4] [] (fr' := [(4, aI (0 : Int))]) (L' := []) (by kernel_rfl) (by kernel_rfl) ?_
        exact retQ_mk (by kernel_rfl) (by kernel_rfl) (by kernel_rfl)

noncomputable def count_Run_1 (a0 : Int) : Option Bool :=
some ((decide (a0 < (0 : Int))) || (decide (a0 > (20 : Int))))
theorem count_Run_1_ok {a0 : Int} {r : Bool} (h : count_Run_1 a0 = some r) : FnC Try.prog 46 [aI a0] [] (aB r) [] := by
  refine fnC_of_W (B := bodyOf Try.f46) (n := 9) Try.func46 (by kernel_rfl) (by kernel_rfl) (by kernel_rfl) (by kernel_rfl) (by kernel_rfl) ?_
  intro K
  refine W_seq (by kernel_rfl) ?_
  refine W_run 1 [] [0] [] (fr' := [(0, aI a0)]) (L' := []) (obs := []) (by kernel_rfl) (by kernel_rfl) (by kernel_rfl) allP0 ?_
  refine seqQ_norm ?_
  refine W_seq (by kernel_rfl) ?_
  refine W_run 7 [] [2] [] (fr' := [(2, aB ((decide (a0 < (0 : Int))) || (decide (a0 > (20 : Int)))))]) (L' := []) (obs := []) (by kernel_rfl) (by kernel_rfl) (by kernel_rfl) allP0 ?_
  refine seqQ_norm ?_
  obtain rfl := Option.some.inj h
  refine W_ret [2] [] (fr' := [(2, aB ((decide (a0 < (0 : Int))) || (decide (a0 > (20 : Int)))))]) (L' := []) (by kernel_rfl) (by kernel_rfl) ?_
  exact retQ_mk (by kernel_rfl) (by kernel_rfl) (by kernel_rfl)

noncomputable def slices_IndexFunc_Lintint_with_count_Run_1_b1 (i15 : Int) (v18 : Int) (x16 : Unit) : Option (Flow Unit (Esc Int Unit)) :=
(count_Run_1 v18).bind fun r21 =>
bif r21 then
(some (.done (.ret i15)))
else
(some (.next ()))
@[reducible] noncomputable def slices_IndexFunc_Lintint_with_count_Run_1_s2 (a0 : (List Int)) (v : Int × Unit) : Fr × LL := ([(0, aD (.slice tI) a0), (1, .one (.fn 46 [])), (7, aI (List.length a0 : Int)), (8, aI v.1)], [])
@[reducible] noncomputable def slices_IndexFunc_Lintint_with_count_Run_1_s3 (v : Int) : Fr × LL := ([(4, aI v)], [])
@[reducible] noncomputable def slices_IndexFunc_Lintint_with_count_Run_1_s4 (v : Unit) : Fr × LL := ([], [])
noncomputable def slices_IndexFunc_Lintint_with_count_Run_1 (a0 : (List Int)) : Option Int :=
(forL slices_IndexFunc_Lintint_with_count_Run_1_b1 (fun x16 => (.brk ())) a0 0 ()).bind fun v25 =>
match v25 with
| .ret v30 =>
(some v30)
| .brk v31 =>
(some (-1 : Int))
theorem slices_IndexFunc_Lintint_with_count_Run_1_ok {a0 : (List Int)} {r : Int} (h : slices_IndexFunc_Lintint_with_count_Run_1 a0 = some r) : FnC Try.prog 56 [aD (.slice tI) a0, .one (.fn 46 [])] [] (aI r) [] := by
  refine fnC_of_W (B := bodyOf Try.f56) (n := 19) Try.func56 (by kernel_rfl) (by kernel_rfl) (by kernel_rfl) (by kernel_rfl) (by kernel_rfl) ?_
  intro K
  refine W_seq (by kernel_rfl) ?_
  refine W_run 1 [] [0, 1] [] (fr' := [(0, aD (.slice tI) a0), (1, .one (.fn 46 []))]) (L' := []) (obs := []) (by kernel_rfl) (by kernel_rfl) (by kernel_rfl) allP0 ?_
  refine seqQ_norm ?_
  refine W_seq (by kernel_rfl) ?_
  refine W_seq (by kernel_rfl) ?_
  refine W_run 3 [] [0, 1, 7, 8] [] (fr' := [(0, aD (.slice tI) a0), (1, .one (.fn 46 [])), (7, aI (List.length a0 : Int)), (8, aI (0 : Int))]) (L' := []) (obs := []) (by kernel_rfl) (by kernel_rfl) (by kernel_rfl) allP0 ?_
  refine seqQ_norm ?_
  refine W_block (id := 0) (by kernel_rfl) ?_
  obtain ⟨v25, h26, h⟩ := bind_of h
  refine W_len (t := 0) (u := tI) (xs := a0) (by kernel_rfl) (fun h29 => ?_)
  obtain ⟨h27, h28⟩ := forL_iter h29 h26
  refine W_weaken [0, 1, 7, 8] [] (fr' := ((slices_IndexFunc_Lintint_with_count_Run_1_s2 a0) ((0 : Int), ())).1) (L' := ((slices_IndexFunc_Lintint_with_count_Run_1_s2 a0) ((0 : Int), ())).2) (by kernel_rfl) ?_
  refine W_cutK (W_loop (S := (slices_IndexFunc_Lintint_with_count_Run_1_s2 a0)) (J := (escQ (exQ .ret slices_IndexFunc_Lintint_with_count_Run_1_s3) (exQ (.exit 0) slices_IndexFunc_Lintint_with_count_Run_1_s4))) (by kernel_rfl) ?_ h27 _ v25 h28) ?_
  · rintro ⟨i15, x16⟩ s h
    refine W_seq (by kernel_rfl) ?_
    refine W_run 1 [] [0, 1, 7, 8, 9] [] (fr' := [(0, aD (.slice tI) a0), (1, .one (.fn 46 [])), (7, aI (List.length a0 : Int)), (8, aI i15), (9, aB (decide (i15 < (List.length a0 : Int))))]) (L' := []) (obs := []) (by kernel_rfl) (by kernel_rfl) (by kernel_rfl) allP0 ?_
    refine seqQ_norm ?_
    refine W_seq (by kernel_rfl) ?_
    refine W_cond (o := .tmp 9) (b := decide (i15 < (List.length a0 : Int))) (by kernel_rfl) (by kernel_rfl) (fun h20 => ?_) (fun h20 => ?_)
    · replace h := stepL_true h20 h
      obtain ⟨v18, _, h19, h, rfl⟩ := h
      refine W_skip [0, 1, 7, 8] [] (fr' := [(0, aD (.slice tI) a0), (1, .one (.fn 46 [])), (7, aI (List.length a0 : Int)), (8, aI i15)]) (L' := []) (by kernel_rfl) (by kernel_rfl) ?_
      refine seqQ_norm ?_
      refine W_seq (by kernel_rfl) ?_
      refine W_block (id := 1) (by kernel_rfl) ?_
      refine W_seq (by kernel_rfl) ?_
      refine W_run 2 [] [0, 1, 5, 7, 8] [] (fr' := [(0, aD (.slice tI) a0), (1, .one (.fn 46 [])), (5, aI i15), (7, aI (List.length a0 : Int)), (8, aI i15)]) (L' := []) (obs := []) (by kernel_rfl) (by kernel_rfl) (by kernel_rfl) allP0 ?_
      refine seqQ_norm ?_
      refine W_seq (by kernel_rfl) ?_
      refine W_region (by kernel_rfl) ?_
      refine WO_run (j := 5) (k := 5) (orcs := [(7, .val (.dat tI v18))]) (kF := [0, 1, 5, 7, 8, 11, 15]) (kL := []) (fr' := [(0, aD (.slice tI) a0), (1, .one (.fn 46 [])), (5, aI i15), (7, aI (List.length a0 : Int)), (8, aI i15), (11, .one (.fn 46 [])), (15, aI v18)]) (L' := []) (obs := [Idx a0 i15 v18]) rfl (by kernel_rfl) (allP1 (Idx.of h19)) ?_
      obtain ⟨r21, h22, h⟩ := bind_of h
      refine WO_call0 (us := [none]) (d := 16) (p := True) (j := 6) rfl ⟨by kernel_rfl, by kernel_rfl, by kernel_rfl⟩ trivial (count_Run_1_ok h22) (by kernel_rfl) ?_
      refine WO_fin [0, 1, 5, 7, 8, 16] [] (fr' := [(0, aD (.slice tI) a0), (1, .one (.fn 46 [])), (5, aI i15), (7, aI (List.length a0 : Int)), (8, aI i15), (16, aB r21)]) (L' := []) (by kernel_rfl) (by kernel_rfl) ?_
      refine seqQ_norm ?_
      refine W_cond (o := .tmp 16) (b := r21) (by kernel_rfl) (by kernel_rfl) (fun h23 => ?_) (fun h23 => ?_)
      · replace h := ofT h23 h
        refine W_seq (by kernel_rfl) ?_
        refine W_run 2 [] [4] [] (fr' := [(4, aI i15)]) (L' := []) (obs := []) (by kernel_rfl) (by kernel_rfl) (by kernel_rfl) allP0 ?_
        refine seqQ_norm ?_
        obtain rfl := Option.some.inj h
        refine W_ret [4] [] (fr' := [(4, aI i15)]) (L' := []) (by kernel_rfl) (by kernel_rfl) ?_
        refine blockQ_ret ?_
        refine seqQ_ret ?_
        refine round_ret ?_
        refine escQ_ret ?_
        exact exQ_mk (by kernel_rfl) (by kernel_rfl)
      · replace h := ofF h23 h
        refine W_skip [0, 1, 7, 8] [] (fr' := [(0, aD (.slice tI) a0), (1, .one (.fn 46 [])), (7, aI (List.length a0 : Int)), (8, aI i15)]) (L' := []) (by kernel_rfl) (by kernel_rfl) ?_
        refine blockQ_norm ?_
        refine seqQ_norm ?_
        obtain rfl := Option.some.inj h
        refine W_run 2 [] [0, 1, 7, 8] [] (fr' := [(0, aD (.slice tI) a0), (1, .one (.fn 46 [])), (7, aI (List.length a0 : Int)), (8, aI (w64 (i15 + (1 : Int))))]) (L' := []) (obs := []) (by kernel_rfl) (by kernel_rfl) (by kernel_rfl) allP0 ?_
        exact round_next' (by kernel_rfl) (by kernel_rfl)
    · obtain rfl := stepL_false h20 h
      refine W_exit (id := 0) [] [] (fr' := []) (L' := []) (by kernel_rfl) (by kernel_rfl) ?_
      refine seqQ_exit ?_
      refine round_exit ?_
      refine escQ_brk ?_
      exact exQ_mk (by kernel_rfl) (by kernel_rfl)
  · intro e fr L hJ
    rcases v25 with v30 | v31
    · obtain ⟨rfl, rfl, rfl⟩ := hJ
      obtain rfl := Option.some.inj h
      refine LT_keep [4] [] (fr' := [(4, aI v30)]) (L' := []) (by kernel_rfl) ?_
      refine blockQ_ret ?_
      refine seqQ_ret ?_
      exact retQ_mk (by kernel_rfl) (by kernel_rfl) (by kernel_rfl)
    · obtain ⟨rfl, rfl, rfl⟩ := hJ
      refine LT_keep [] [] (fr' := []) (L' := []) (by kernel_rfl) ?_
      refine blockQ_hit ?_
      refine seqQ_norm ?_
      refine W_seq (by kernel_rfl) ?_
      refine W_run 1 [] [4] [] (fr' := [(4, aI (-1 : Int))]) (L' := []) (obs := []) (by kernel_rfl) (by kernel_rfl) (by kernel_rfl) allP0 ?_
      refine seqQ_norm ?_
      obtain rfl := Option.some.inj h
      refine W_ret [4] [] (fr' := [(4, aI (-1 : Int))]) (L' := []) (by kernel_rfl) (by kernel_rfl) ?_
      exact retQ_mk (by kernel_rfl) (by kernel_rfl) (by kernel_rfl)

noncomputable def slices_ContainsFunc_Lintint_with_count_Run_1 (a0 : (List Int)) : Option Bool :=
(slices_IndexFunc_Lintint_with_count_Run_1 a0).bind fun r1 =>
some (decide (r1 ≥ (0 : Int)))
theorem slices_ContainsFunc_Lintint_with_count_Run_1_ok {a0 : (List Int)} {r : Bool} (h : slices_ContainsFunc_Lintint_with_count_Run_1 a0 = some r) : FnC Try.prog 45 [aD (.slice tI) a0, .one (.fn 46 [])] [] (aB r) [] := by
  refine fnC_of_W (B := bodyOf Try.f45) (n := 9) Try.func45 (by kernel_rfl) (by kernel_rfl) (by kernel_rfl) (by kernel_rfl) (by kernel_rfl) ?_
  intro K
  refine W_seq (by kernel_rfl) ?_
  refine W_run 1 [] [0, 1] [] (fr' := [(0, aD (.slice tI) a0), (1, .one (.fn 46 []))]) (L' := []) (obs := []) (by kernel_rfl) (by kernel_rfl) (by kernel_rfl) allP0 ?_
  refine seqQ_norm ?_
  refine W_seq (by kernel_rfl) ?_
  refine W_region (by kernel_rfl) ?_
  refine WO_run (j := 2) (k := 2) (orcs := []) (kF := [5, 6]) (kL := []) (fr' := [(5, aD (.slice tI) a0), (6, .one (.fn 46 []))]) (L' := []) (obs := []) rfl (by kernel_rfl) allP0 ?_
  obtain ⟨r1, h2, h⟩ := bind_of h
  refine WO_call0 (us := [none, none]) (d := 7) (p := True) (j := 3) rfl ⟨by kernel_rfl, by kernel_rfl, by kernel_rfl⟩ trivial (slices_IndexFunc_Lintint_with_count_Run_1_ok h2) (by kernel_rfl) ?_
  refine WO_run (j := 5) (k := 2) (orcs := []) (kF := [4]) (kL := []) (fr' := [(4, aB (decide (r1 ≥ (0 : Int))))]) (L' := []) (obs := []) rfl (by kernel_rfl) allP0 ?_
  refine WO_fin [4] [] (fr' := [(4, aB (decide (r1 ≥ (0 : Int))))]) (L' := []) (by kernel_rfl) (by kernel_rfl) ?_
  refine seqQ_norm ?_
  obtain rfl := Option.some.inj h
  refine W_ret [4] [] (fr' := [(4, aB (decide (r1 ≥ (0 : Int))))]) (L' := []) (by kernel_rfl) (by kernel_rfl) ?_
  exact retQ_mk (by kernel_rfl) (by kernel_rfl) (by kernel_rfl)

noncomputable def slices_Clone_Lintint (a0 : (List Int)) : Option (List Int) :=
(ck ((0 : Int) + (List.length a0 : Int) ≤ 4294967296)).bind fun _ =>
some ([] ++ a0)
theorem slices_Clone_Lintint_ok {a0 : (List Int)} {r : (List Int)} (h : slices_Clone_Lintint a0 = some r) : FnC Try.prog 47 [aD (.slice tI) a0] [] (.one (.slc 5)) [(5, .seq tI r)] := by
  refine fnC_of_W (B := bodyOf Try.f47) (n := 8) Try.func47 (by kernel_rfl) (by kernel_rfl) (by kernel_rfl) (by kernel_rfl) (by kernel_rfl) ?_
  intro K
  refine W_seq (by kernel_rfl) ?_
  refine W_run 1 [] [0] [] (fr' := [(0, aD (.slice tI) a0)]) (L' := []) (obs := []) (by kernel_rfl) (by kernel_rfl) (by kernel_rfl) allP0 ?_
  refine seqQ_norm ?_
  refine W_seq (by kernel_rfl) ?_
  refine W_seq (by kernel_rfl) ?_
  refine W_region (by kernel_rfl) ?_
  refine WO_run (j := 1) (k := 1) (orcs := []) (kF := [0, 3]) (kL := []) (fr' := [(0, aD (.slice tI) a0), (3, aD (.slice tI) a0)]) (L' := []) (obs := []) rfl (by kernel_rfl) allP0 ?_
  refine WO_nilcmp (u := tI) (xs := a0) (d := 4) (j := 2) rfl (by kernel_rfl) (by kernel_rfl) (fun h12 h10 => ?_)
  cases h12
  · refine WO_fin [0, 4] [] (fr' := [(0, aD (.slice tI) a0), (4, aB false)]) (L' := []) (by kernel_rfl) (by kernel_rfl) ?_
    refine seqQ_norm ?_
    refine W_cond (o := .tmp 4) (b := false) (by kernel_rfl) (by kernel_rfl) (fun h7 => by have := (rfl : false = false).symm.trans h7; cases this) (fun h7 => ?_)
    refine W_skip [0] [] (fr' := [(0, aD (.slice tI) a0)]) (L' := []) (by kernel_rfl) (by kernel_rfl) ?_
    refine seqQ_norm ?_
    refine W_seq (by kernel_rfl) ?_
    obtain ⟨_, h8, h⟩ := bind_of h
    replace h8 := ck_some h8
    refine W_run 4 [] [2] [5] (fr' := [(2, .one (.slc 5))]) (L' := [(5, .seq tI ([] ++ a0))]) (obs := [SmallLen (List.length ([] : (List Int)) + List.length a0)]) (by kernel_rfl) (by kernel_rfl) (by kernel_rfl) (allP1 h8) ?_
    refine seqQ_norm ?_
    obtain rfl := Option.some.inj h
    refine W_ret [2] [5] (fr' := [(2, .one (.slc 5))]) (L' := [(5, .seq tI ([] ++ a0))]) (by kernel_rfl) (by kernel_rfl) ?_
    exact retQ_mk (by kernel_rfl) (by kernel_rfl) (by kernel_rfl)
  · replace h10 := h10 rfl
    have h11 : (some [] : Option (List Int)) = ((ck ((0 : Int) + (List.length a0 : Int) ≤ 4294967296)).bind fun _ => some ([] ++ a0)) := by rw [h10]; simp [ck]
    replace h := h11.trans h
    refine WO_fin [0, 4] [] (fr' := [(0, aD (.slice tI) a0), (4, aB true)]) (L' := []) (by kernel_rfl) (by kernel_rfl) ?_
    refine seqQ_norm ?_
    refine W_cond (o := .tmp 4) (b := true) (by kernel_rfl) (by kernel_rfl) (fun h9 => ?_) (fun h9 => by have := (rfl : true = true).symm.trans h9; cases this)
    refine W_seq (by kernel_rfl) ?_
    refine W_run 1 [] [2] [] (fr' := [(2, .one (.nilS))]) (L' := []) (obs := []) (by kernel_rfl) (by kernel_rfl) (by kernel_rfl) allP0 ?_
    refine seqQ_norm ?_
    obtain rfl := Option.some.inj h
    refine W_mine 2 5 tI (by kernel_rfl) ?_
    refine W_ret [2] [5] (fr' := [(2, .one (.slc 5))]) (L' := [(5, .seq tI [])]) (by kernel_rfl) (by kernel_rfl) ?_
    refine seqQ_ret ?_
    exact retQ_mk (by kernel_rfl) (by kernel_rfl) (by kernel_rfl)

noncomputable def count_Turn (a0 : (Int × (Int × (Int × Int)))) (c0 : (List Int)) : Option (Int × (List Int)) :=
bif a0.1 == (1 : Int) then
((idx c0 a0.2.1).bind fun v2 =>
some (a0.2.2.1, List.set c0 (Int.toNat a0.2.1) (w64 (v2 + (1 : Int)))))
else
((idx c0 a0.2.1).bind fun v4 =>
bif v4 == (0 : Int) then
(some (a0.2.2.2, c0))
else
(some (a0.2.2.1, List.set c0 (Int.toNat a0.2.1) (w64 (v4 - (1 : Int))))))
theorem count_Turn_ok {a0 : (Int × (Int × (Int × Int)))} {c0 : (List Int)} {r : (Int × (List Int))} (h : count_Turn a0 c0 = some r) : FnC Try.prog 48 [aD (.pair tI (.pair tI (.pair tI tI))) a0, .one (.slc 1000)] [(1000, .seq tI c0)] (aI r.1) [(1000, .seq tI r.2)] := by
  refine fnC_of_W (B := bodyOf Try.f48) (n := 34) Try.func48 (by kernel_rfl) (by kernel_rfl) (by kernel_rfl) (by kernel_rfl) (by kernel_rfl) ?_
  intro K
  refine W_seq (by kernel_rfl) ?_
  refine W_run 2 [] [1, 2] [1000, 2] (fr' := [(1, .one (.slc 1000)), (2, .one (.ptr 2 0))]) (L' := [(1000, .seq tI c0), (2, .one (.pair tI (.pair tI (.pair tI tI))) a0)]) (obs := []) (by kernel_rfl) (by kernel_rfl) (by kernel_rfl) allP0 ?_
  refine seqQ_norm ?_
  refine W_seq (by kernel_rfl) ?_
  refine W_seq (by kernel_rfl) ?_
  refine W_run 3 [] [1, 2, 7] [1000, 2] (fr' := [(1, .one (.slc 1000)), (2, .one (.ptr 2 0)), (7, aB (a0.1 == (1 : Int)))]) (L' := [(1000, .seq tI c0), (2, .one (.pair tI (.pair tI (.pair tI tI))) a0)]) (obs := []) (by kernel_rfl) (by kernel_rfl) (by kernel_rfl) allP0 ?_
  refine seqQ_norm ?_
  refine W_cond (o := .tmp 7) (b := a0.1 == (1 : Int)) (by kernel_rfl) (by kernel_rfl) (fun h1 => ?_) (fun h1 => ?_)
  · replace h := ofT h1 h
    refine W_seq (by kernel_rfl) ?_
    obtain ⟨v2, h3, h⟩ := bind_of h
    refine W_run 8 [(9, .val (.dat tI v2))] [2] [2, 1000] (fr' := [(2, .one (.ptr 2 0))]) (L' := [(2, .one (.pair tI (.pair tI (.pair tI tI))) a0), (1000, .seq tI (List.set c0 (Int.toNat a0.2.1) (w64 (v2 + (1 : Int)))))]) (obs := [InR a0.2.1 (List.length c0), Idx c0 a0.2.1 v2, InR a0.2.1 (List.length c0), InR a0.2.1 (List.length c0)]) (by kernel_rfl) (by kernel_rfl) (by kernel_rfl) (allP2 (InR.of h3) (allP2 (Idx.of h3) (allP2 (InR.of h3) (allP1 (InR.of h3))))) ?_
    refine seqQ_norm ?_
    refine W_seq (by kernel_rfl) ?_
    refine W_run 3 [] [4] [1000] (fr' := [(4, aI a0.2.2.1)]) (L' := [(1000, .seq tI (List.set c0 (Int.toNat a0.2.1) (w64 (v2 + (1 : Int)))))]) (obs := []) (by kernel_rfl) (by kernel_rfl) (by kernel_rfl) allP0 ?_
    refine seqQ_norm ?_
    obtain rfl := Option.some.inj h
    refine W_ret [4] [1000] (fr' := [(4, aI a0.2.2.1)]) (L' := [(1000, .seq tI (List.set c0 (Int.toNat a0.2.1) (w64 (v2 + (1 : Int)))))]) (by kernel_rfl) (by kernel_rfl) ?_
    refine seqQ_ret ?_
    exact retQ_mk (by kernel_rfl) (by kernel_rfl) (by kernel_rfl)
  · replace h := ofF h1 h
    refine W_skip [1, 2] [1000, 2] (fr' := [(1, .one (.slc 1000)), (2, .one (.ptr 2 0))]) (L' := [(1000, .seq tI c0), (2, .one (.pair tI (.pair tI (.pair tI tI))) a0)]) (by kernel_rfl) (by kernel_rfl) ?_
    refine seqQ_norm ?_
    refine W_seq (by kernel_rfl) ?_
    refine W_seq (by kernel_rfl) ?_
    obtain ⟨v4, h5, h⟩ := bind_of h
    refine W_run 6 [(9, .val (.dat tI v4))] [1, 2, 22] [1000, 2] (fr' := [(1, .one (.slc 1000)), (2, .one (.ptr 2 0)), (22, aB (v4 == (0 : Int)))]) (L' := [(1000, .seq tI c0), (2, .one (.pair tI (.pair tI (.pair tI tI))) a0)]) (obs := [InR a0.2.1 (List.length c0), Idx c0 a0.2.1 v4]) (by kernel_rfl) (by kernel_rfl) (by kernel_rfl) (allP2 (InR.of h5) (allP1 (Idx.of h5))) ?_
    refine seqQ_norm ?_
    refine W_cond (o := .tmp 22) (b := v4 == (0 : Int)) (by kernel_rfl) (by kernel_rfl) (fun h6 => ?_) (fun h6 => ?_)
    · replace h := ofT h6 h
      refine W_seq (by kernel_rfl) ?_
      refine W_run 3 [] [4] [1000] (fr' := [(4, aI a0.2.2.2)]) (L' := [(1000, .seq tI c0)]) (obs := []) (by kernel_rfl) (by kernel_rfl) (by kernel_rfl) allP0 ?_
      refine seqQ_norm ?_
      obtain rfl := Option.some.inj h
      refine W_ret [4] [1000] (fr' := [(4, aI a0.2.2.2)]) (L' := [(1000, .seq tI c0)]) (by kernel_rfl) (by kernel_rfl) ?_
      refine seqQ_ret ?_
      exact retQ_mk (by kernel_rfl) (by kernel_rfl) (by kernel_rfl)
    · replace h := ofF h6 h
      refine W_skip [1, 2] [1000, 2] (fr' := [(1, .one (.slc 1000)), (2, .one (.ptr 2 0))]) (L' := [(1000, .seq tI c0), (2, .one (.pair tI (.pair tI (.pair tI tI))) a0)]) (by kernel_rfl) (by kernel_rfl) ?_
      refine seqQ_norm ?_
      refine W_seq (by kernel_rfl) ?_
      refine W_run 8 [(9, .val (.dat tI v4))] [2] [2, 1000] (fr' := [(2, .one (.ptr 2 0))]) (L' := [(2, .one (.pair tI (.pair tI (.pair tI tI))) a0), (1000, .seq tI (List.set c0 (Int.toNat a0.2.1) (w64 (v4 - (1 : Int)))))]) (obs := [InR a0.2.1 (List.length c0), Idx c0 a0.2.1 v4, InR a0.2.1 (List.length c0), InR a0.2.1 (List.length c0)]) (by kernel_rfl) (by kernel_rfl) (by kernel_rfl) (allP2 (InR.of h5) (allP2 (Idx.of h5) (allP2 (InR.of h5) (allP1 (InR.of h5))))) ?_
      refine seqQ_norm ?_
      refine W_seq (by kernel_rfl) ?_
      refine W_run 3 [] [4] [1000] (fr' := [(4, aI a0.2.2.1)]) (L' := [(1000, .seq tI (List.set c0 (Int.toNat a0.2.1) (w64 (v4 - (1 : Int)))))]) (obs := []) (by kernel_rfl) (by kernel_rfl) (by kernel_rfl) allP0 ?_
      refine seqQ_norm ?_
      obtain rfl := Option.some.inj h
      refine W_ret [4] [1000] (fr' := [(4, aI a0.2.2.1)]) (L' := [(1000, .seq tI (List.set c0 (Int.toNat a0.2.1) (w64 (v4 - (1 : Int)))))]) (by kernel_rfl) (by kernel_rfl) ?_
      exact retQ_mk (by kernel_rfl) (by kernel_rfl) (by kernel_rfl)

noncomputable def count_Run_b1 (a1 : (List (Int × (Int × (Int × Int))))) (a3 : Int) (x17 : (Int × Int × (List Int))) : Option (Flow (Int × Int × (List Int)) (Int × Int × (List Int))) :=
bif (decide (x17.2.1 < a3)) && (decide (x17.1 < (List.length a1 : Int))) then
((idx a1 x17.1).bind fun v24 =>
(count_Turn v24 x17.2.2).bind fun r26 =>
some (.next (r26.1, w64 (x17.2.1 + (1 : Int)), r26.2)))
else
(some (.done (x17.1, x17.2.1, x17.2.2)))
@[reducible] noncomputable def count_Run_s2 (a1 : (List (Int × (Int × (Int × Int))))) (a3 : Int) (v : (Int × Int × (List Int))) : Fr × LL := ([(1, aD (.slice (.pair tI (.pair tI (.pair tI tI)))) a1), (3, aI a3), (13, .one (.slc 35)), (14, aI v.1), (15, aI v.2.1)], [(35, .seq tI v.2.2)])
@[reducible] noncomputable def count_Run_s3 (v : (Int × Int × (List Int))) : Fr × LL := ([(13, .one (.slc 35)), (14, aI v.1), (15, aI v.2.1)], [(35, .seq tI v.2.2)])
noncomputable def count_Run (fuel : Nat) (a0 : Int) (a1 : (List (Int × (Int × (Int × Int))))) (a2 : (List Int)) (a3 : Int) : Option ((List Int) × Int × Int × Int) :=
(count_Check_i2 a0 a1).bind fun r1 =>
bif r1 != (0 : Int) then
(some ([], (0 : Int), (0 : Int), r1))
else
(bif (List.length a2 : Int) != a0 then
(some ([], (0 : Int), (0 : Int), (3 : Int)))
else
((slices_ContainsFunc_Lintint_with_count_Run_1 a2).bind fun r5 =>
bif r5 then
(some ([], (0 : Int), (0 : Int), (4 : Int)))
else
(bif (decide (a3 < (0 : Int))) || (decide (a3 > (400 : Int))) then
(some ([], (0 : Int), (0 : Int), (7 : Int)))
else
((slices_Clone_Lintint a2).bind fun r9 =>
(iter (count_Run_b1 a1 a3) fuel ((0 : Int), (0 : Int), r9)).bind fun v28 =>
some (v28.2.2, v28.1, v28.2.1, (0 : Int))))))
theorem count_Run_ok {fuel : Nat} {a0 : Int} {a1 : (List (Int × (Int × (Int × Int))))} {a2 : (List Int)} {a3 : Int} {r : ((List Int) × Int × Int × Int)} (h : count_Run fuel a0 a1 a2 a3 = some r) : FnC Try.prog 29 [aI a0, aD (.slice (.pair tI (.pair tI (.pair tI tI)))) a1, aD (.slice tI) a2, aI a3] [] (.tup [.dat (.slice tI) r.1, .dat tI r.2.1, .dat tI r.2.2.1, .dat tI r.2.2.2]) [] := by
  refine fnC_of_W (B := bodyOf Try.f29) (n := 56) Try.func29 (by kernel_rfl) (by kernel_rfl) (by kernel_rfl) (by kernel_rfl) (by kernel_rfl) ?_
  intro K
  refine W_seq (by kernel_rfl) ?_
  refine W_run 4 [] [0, 1, 2, 3] [] (fr' := [(0, aI a0), (1, aD (.slice (.pair tI (.pair tI (.pair tI tI)))) a1), (2, aD (.slice tI) a2), (3, aI a3)]) (L' := []) (obs := []) (by kernel_rfl) (by kernel_rfl) (by kernel_rfl) allP0 ?_
  refine seqQ_norm ?_
  refine W_seq (by kernel_rfl) ?_
  refine W_seq (by kernel_rfl) ?_
  refine W_region (by kernel_rfl) ?_
  refine WO_run (j := 2) (k := 2) (orcs := []) (kF := [0, 1, 2, 3, 16, 17]) (kL := []) (fr' := [(0, aI a0), (1, aD (.slice (.pair tI (.pair tI (.pair tI tI)))) a1), (2, aD (.slice tI) a2), (3, aI a3), (16, aI a0), (17, aD (.slice (.pair tI (.pair tI (.pair tI tI)))) a1)]) (L' := []) (obs := []) rfl (by kernel_rfl) allP0 ?_
  obtain ⟨r1, h2, h⟩ := bind_of h
  refine WO_call0 (us := [none, none]) (d := 18) (p := True) (j := 3) rfl ⟨by kernel_rfl, by kernel_rfl, by kernel_rfl⟩ trivial (count_Check_i2_ok h2) (by kernel_rfl) ?_
  refine WO_run (j := 4) (k := 1) (orcs := []) (kF := [0, 1, 2, 3, 12]) (kL := []) (fr' := [(0, aI a0), (1, aD (.slice (.pair tI (.pair tI (.pair tI tI)))) a1), (2, aD (.slice tI) a2), (3, aI a3), (12, aI r1)]) (L' := []) (obs := []) rfl (by kernel_rfl) allP0 ?_
  refine WO_fin [0, 1, 2, 3, 12] [] (fr' := [(0, aI a0), (1, aD (.slice (.pair tI (.pair tI (.pair tI tI)))) a1), (2, aD (.slice tI) a2), (3, aI a3), (12, aI r1)]) (L' := []) (by kernel_rfl) (by kernel_rfl) ?_
  refine seqQ_norm ?_
  refine W_seq (by kernel_rfl) ?_
  refine W_run 2 [] [0, 1, 2, 3, 12, 20] [] (fr' := [(0, aI a0), (1, aD (.slice (.pair tI (.pair tI (.pair tI tI)))) a1), (2, aD (.slice tI) a2), (3, aI a3), (12, aI r1), (20, aB (r1 != (0 : Int)))]) (L' := []) (obs := []) (by kernel_rfl) (by kernel_rfl) (by kernel_rfl) allP0 ?_
  refine seqQ_norm ?_
  refine W_cond (o := .tmp 20) (b := r1 != (0 : Int)) (by kernel_rfl) (by kernel_rfl) (fun h3 => ?_) (fun h3 => ?_)
  · replace h := ofT h3 h
    refine W_seq (by kernel_rfl) ?_
    refine W_run 5 [] [8, 9, 10, 11] [] (fr' := [(8, .one (.nilS)), (9, aI (0 : Int)), (10, aI (0 : Int)), (11, aI r1)]) (L' := []) (obs := []) (by kernel_rfl) (by kernel_rfl) (by kernel_rfl) allP0 ?_
    refine seqQ_norm ?_
    obtain rfl := Option.some.inj h
    refine W_cnv 8 (.slice tI) (by kernel_rfl) ?_
    refine W_ret [8, 9, 10, 11] [] (fr' := [(8, aD (.slice tI) []), (9, aI (0 : Int)), (10, aI (0 : Int)), (11, aI r1)]) (L' := []) (by kernel_rfl) (by kernel_rfl) ?_
    refine seqQ_ret ?_
    exact retQ_mk (by kernel_rfl) (by kernel_rfl) (by kernel_rfl)
  · replace h := ofF h3 h
    refine W_skip [0, 1, 2, 3] [] (fr' := [(0, aI a0), (1, aD (.slice (.pair tI (.pair tI (.pair tI tI)))) a1), (2, aD (.slice tI) a2), (3, aI a3)]) (L' := []) (by kernel_rfl) (by kernel_rfl) ?_
    refine seqQ_norm ?_
    refine W_seq (by kernel_rfl) ?_
    refine W_seq (by kernel_rfl) ?_
    refine W_run 4 [] [1, 2, 3, 25] [] (fr' := [(1, aD (.slice (.pair tI (.pair tI (.pair tI tI)))) a1), (2, aD (.slice tI) a2), (3, aI a3), (25, aB ((List.length a2 : Int) != a0))]) (L' := []) (obs := []) (by kernel_rfl) (by kernel_rfl) (by kernel_rfl) allP0 ?_
    refine seqQ_norm ?_
    refine W_cond (o := .tmp 25) (b := (List.length a2 : Int) != a0) (by kernel_rfl) (by kernel_rfl) (fun h4 => ?_) (fun h4 => ?_)
    · replace h := ofT h4 h
      refine W_seq (by kernel_rfl) ?_
      refine W_run 4 [] [8, 9, 10, 11] [] (fr' := [(8, .one (.nilS)), (9, aI (0 : Int)), (10, aI (0 : Int)), (11, aI (3 : Int))]) (L' := []) (obs := []) (by kernel_rfl) (by kernel_rfl) (by kernel_rfl) allP0 ?_
      refine seqQ_norm ?_
      obtain rfl := Option.some.inj h
      refine W_cnv 8 (.slice tI) (by kernel_rfl) ?_
      refine W_ret [8, 9, 10, 11] [] (fr' := [(8, aD (.slice tI) []), (9, aI (0 : Int)), (10, aI (0 : Int)), (11, aI (3 : Int))]) (L' := []) (by kernel_rfl) (by kernel_rfl) ?_
      refine seqQ_ret ?_
      exact retQ_mk (by kernel_rfl) (by kernel_rfl) (by kernel_rfl)
    · replace h := ofF h4 h
      refine W_skip [1, 2, 3] [] (fr' := [(1, aD (.slice (.pair tI (.pair tI (.pair tI tI)))) a1), (2, aD (.slice tI) a2), (3, aI a3)]) (L' := []) (by kernel_rfl) (by kernel_rfl) ?_
      refine seqQ_norm ?_
      refine W_seq (by kernel_rfl) ?_
      refine W_seq (by kernel_rfl) ?_
      refine W_region (by kernel_rfl) ?_
      refine WO_run (j := 1) (k := 1) (orcs := []) (kF := [1, 2, 3, 26]) (kL := []) (fr' := [(1, aD (.slice (.pair tI (.pair tI (.pair tI tI)))) a1), (2, aD (.slice tI) a2), (3, aI a3), (26, aD (.slice tI) a2)]) (L' := []) (obs := []) rfl (by kernel_rfl) allP0 ?_
      obtain ⟨r5, h6, h⟩ := bind_of h
      refine WO_call0 (us := [none, none]) (d := 27) (p := True) (j := 2) rfl ⟨by kernel_rfl, by kernel_rfl, by kernel_rfl⟩ trivial (slices_ContainsFunc_Lintint_with_count_Run_1_ok h6) (by kernel_rfl) ?_
      refine WO_fin [1, 2, 3, 27] [] (fr' := [(1, aD (.slice (.pair tI (.pair tI (.pair tI tI)))) a1), (2, aD (.slice tI) a2), (3, aI a3), (27, aB r5)]) (L' := []) (by kernel_rfl) (by kernel_rfl) ?_
      refine seqQ_norm ?_
      refine W_cond (o := .tmp 27) (b := r5) (by kernel_rfl) (by kernel_rfl) (fun h7 => ?_) (fun h7 => ?_)
      · replace h := ofT h7 h
        refine W_seq (by kernel_rfl) ?_
        refine W_run 4 [] [8, 9, 10, 11] [] (fr' := [(8, .one (.nilS)), (9, aI (0 : Int)), (10, aI (0 : Int)), (11, aI (4 : Int))]) (L' := []) (obs := []) (by kernel_rfl) (by kernel_rfl) (by kernel_rfl) allP0 ?_
        refine seqQ_norm ?_
        obtain rfl := Option.some.inj h
        refine W_cnv 8 (.slice tI) (by kernel_rfl) ?_
        refine W_ret [8, 9, 10, 11] [] (fr' := [(8, aD (.slice tI) []), (9, aI (0 : Int)), (10, aI (0 : Int)), (11, aI (4 : Int))]) (L' := []) (by kernel_rfl) (by kernel_rfl) ?_
        refine seqQ_ret ?_
        exact retQ_mk (by kernel_rfl) (by kernel_rfl) (by kernel_rfl)
      · replace h := ofF h7 h
        refine W_skip [1, 2, 3] [] (fr' := [(1, aD (.slice (.pair tI (.pair tI (.pair tI tI)))) a1), (2, aD (.slice tI) a2), (3, aI a3)]) (L' := []) (by kernel_rfl) (by kernel_rfl) ?_
        refine seqQ_norm ?_
        refine W_seq (by kernel_rfl) ?_
        refine W_seq (by kernel_rfl) ?_
        refine W_run 6 [] [1, 2, 3, 33] [] (fr' := [(1, aD (.slice (.pair tI (.pair tI (.pair tI tI)))) a1), (2, aD (.slice tI) a2), (3, aI a3), (33, aB ((decide (a3 < (0 : Int))) || (decide (a3 > (400 : Int)))))]) (L' := []) (obs := []) (by kernel_rfl) (by kernel_rfl) (by kernel_rfl) allP0 ?_
        refine seqQ_norm ?_
        refine W_cond (o := .tmp 33) (b := (decide (a3 < (0 : Int))) || (decide (a3 > (400 : Int)))) (by kernel_rfl) (by kernel_rfl) (fun h8 => ?_) (fun h8 => ?_)
        · replace h := ofT h8 h
          refine W_seq (by kernel_rfl) ?_
          refine W_run 4 [] [8, 9, 10, 11] [] (fr' := [(8, .one (.nilS)), (9, aI (0 : Int)), (10, aI (0 : Int)), (11, aI (7 : Int))]) (L' := []) (obs := []) (by kernel_rfl) (by kernel_rfl) (by kernel_rfl) allP0 ?_
          refine seqQ_norm ?_
          obtain rfl := Option.some.inj h
          refine W_cnv 8 (.slice tI) (by kernel_rfl) ?_
          refine W_ret [8, 9, 10, 11] [] (fr' := [(8, aD (.slice tI) []), (9, aI (0 : Int)), (10, aI (0 : Int)), (11, aI (7 : Int))]) (L' := []) (by kernel_rfl) (by kernel_rfl) ?_
          refine seqQ_ret ?_
          exact retQ_mk (by kernel_rfl) (by kernel_rfl) (by kernel_rfl)
        · replace h := ofF h8 h
          refine W_skip [1, 2, 3] [] (fr' := [(1, aD (.slice (.pair tI (.pair tI (.pair tI tI)))) a1), (2, aD (.slice tI) a2), (3, aI a3)]) (L' := []) (by kernel_rfl) (by kernel_rfl) ?_
          refine seqQ_norm ?_
          refine W_seq (by kernel_rfl) ?_
          refine W_region (by kernel_rfl) ?_
          refine WO_run (j := 1) (k := 1) (orcs := []) (kF := [1, 3, 34]) (kL := []) (fr' := [(1, aD (.slice (.pair tI (.pair tI (.pair tI tI)))) a1), (3, aI a3), (34, aD (.slice tI) a2)]) (L' := []) (obs := []) rfl (by kernel_rfl) allP0 ?_
          obtain ⟨r9, h10, h⟩ := bind_of h
          refine WO_call1 (us := [none]) (d := 35) (t := 35) (p := True) (j := 2) rfl ⟨by kernel_rfl, by kernel_rfl, by kernel_rfl⟩ trivial (slices_Clone_Lintint_ok h10) (by kernel_rfl) ?_
          refine WO_run (j := 3) (k := 1) (orcs := []) (kF := [1, 3, 13]) (kL := [35]) (fr' := [(1, aD (.slice (.pair tI (.pair tI (.pair tI tI)))) a1), (3, aI a3), (13, .one (.slc 35))]) (L' := [(35, .seq tI r9)]) (obs := []) rfl (by kernel_rfl) allP0 ?_
          refine WO_fin [1, 3, 13] [35] (fr' := [(1, aD (.slice (.pair tI (.pair tI (.pair tI tI)))) a1), (3, aI a3), (13, .one (.slc 35))]) (L' := [(35, .seq tI r9)]) (by kernel_rfl) (by kernel_rfl) ?_
          refine seqQ_norm ?_
          refine W_seq (by kernel_rfl) ?_
          refine W_run 2 [] [1, 3, 13, 14, 15] [35] (fr' := [(1, aD (.slice (.pair tI (.pair tI (.pair tI tI)))) a1), (3, aI a3), (13, .one (.slc 35)), (14, aI (0 : Int)), (15, aI (0 : Int))]) (L' := [(35, .seq tI r9)]) (obs := []) (by kernel_rfl) (by kernel_rfl) (by kernel_rfl) allP0 ?_
          refine seqQ_norm ?_
          refine W_seq (by kernel_rfl) ?_
          refine W_block (id := 0) (by kernel_rfl) ?_
          obtain ⟨v28, h29, h⟩ := bind_of h
          refine W_weaken [1, 3, 13, 14, 15] [35] (fr' := ((count_Run_s2 a1 a3) ((0 : Int), (0 : Int), r9)).1) (L' := ((count_Run_s2 a1 a3) ((0 : Int), (0 : Int), r9)).2) (by kernel_rfl) ?_
          refine W_cutK (W_loop (S := (count_Run_s2 a1 a3)) (J := (exQ (.exit 0) count_Run_s3)) (by kernel_rfl) ?_ fuel _ v28 h29) ?_
          · rintro x17 s h
            refine W_seq (by kernel_rfl) ?_
            refine W_seq (by kernel_rfl) ?_
            refine W_run 9 [] [1, 3, 13, 14, 15, 44] [35] (fr' := [(1, aD (.slice (.pair tI (.pair tI (.pair tI tI)))) a1), (3, aI a3), (13, .one (.slc 35)), (14, aI x17.1), (15, aI x17.2.1), (44, aB ((decide (x17.2.1 < a3)) && (decide (x17.1 < (List.length a1 : Int)))))]) (L' := [(35, .seq tI x17.2.2)]) (obs := []) (by kernel_rfl) (by kernel_rfl) (by kernel_rfl) allP0 ?_
            refine seqQ_norm ?_
            refine W_cond (o := .tmp 44) (b := (decide (x17.2.1 < a3)) && (decide (x17.1 < (List.length a1 : Int)))) (by kernel_rfl) (by kernel_rfl) (fun h23 => ?_) (fun h23 => ?_)
            · replace h := ofT h23 h
              refine W_skip [1, 3, 13, 14, 15] [35] (fr' := [(1, aD (.slice (.pair tI (.pair tI (.pair tI tI)))) a1), (3, aI a3), (13, .one (.slc 35)), (14, aI x17.1), (15, aI x17.2.1)]) (L' := [(35, .seq tI x17.2.2)]) (by kernel_rfl) (by kernel_rfl) ?_
              refine seqQ_norm ?_
              refine W_seq (by kernel_rfl) ?_
              refine W_block (id := 1) (by kernel_rfl) ?_
              obtain ⟨v24, h25, h⟩ := bind_of h
              refine W_region (by kernel_rfl) ?_
              refine WO_run (j := 5) (k := 5) (orcs := [(5, .val (.dat (.pair tI (.pair tI (.pair tI tI))) v24))]) (kF := [1, 3, 13, 14, 15, 50, 51]) (kL := [35]) (fr' := [(1, aD (.slice (.pair tI (.pair tI (.pair tI tI)))) a1), (3, aI a3), (13, .one (.slc 35)), (14, aI x17.1), (15, aI x17.2.1), (50, aD (.pair tI (.pair tI (.pair tI tI))) v24), (51, .one (.slc 35))]) (L' := [(35, .seq tI x17.2.2)]) (obs := [Idx a1 x17.1 v24]) rfl (by kernel_rfl) (allP1 (Idx.of h25)) ?_
              obtain ⟨r26, h27, h⟩ := bind_of h
              refine WO_lend [(1000, 35)] (us := [none, none]) (d := 52) (p := True) (j := 6) rfl ⟨by kernel_rfl, by kernel_rfl, by kernel_rfl⟩ trivial (count_Turn_ok h27) (by kernel_rfl) (by kernel_rfl) ?_
              refine WO_run (j := 7) (k := 1) (orcs := []) (kF := [1, 3, 13, 14, 15]) (kL := [35]) (fr' := [(1, aD (.slice (.pair tI (.pair tI (.pair tI tI)))) a1), (3, aI a3), (13, .one (.slc 35)), (14, aI r26.1), (15, aI x17.2.1)]) (L' := [(35, .seq tI r26.2)]) (obs := []) rfl (by kernel_rfl) allP0 ?_
              refine WO_fin [1, 3, 13, 14, 15] [35] (fr' := [(1, aD (.slice (.pair tI (.pair tI (.pair tI tI)))) a1), (3, aI a3), (13, .one (.slc 35)), (14, aI r26.1), (15, aI x17.2.1)]) (L' := [(35, .seq tI r26.2)]) (by kernel_rfl) (by kernel_rfl) ?_
              refine blockQ_norm ?_
              refine seqQ_norm ?_
              obtain rfl := Option.some.inj h
              refine W_run 3 [] [1, 3, 13, 14, 15] [35] (fr' := [(1, aD (.slice (.pair tI (.pair tI (.pair tI tI)))) a1), (3, aI a3), (13, .one (.slc 35)), (14, aI r26.1), (15, aI (w64 (x17.2.1 + (1 : Int))))]) (L' := [(35, .seq tI r26.2)]) (obs := []) (by kernel_rfl) (by kernel_rfl) (by kernel_rfl) allP0 ?_
              exact round_next' (by kernel_rfl) (by kernel_rfl)
            · replace h := ofF h23 h
              obtain rfl := Option.some.inj h
              refine W_exit (id := 0) [13, 14, 15] [35] (fr' := [(13, .one (.slc 35)), (14, aI x17.1), (15, aI x17.2.1)]) (L' := [(35, .seq tI x17.2.2)]) (by kernel_rfl) (by kernel_rfl) ?_
              refine seqQ_exit ?_
              refine round_exit ?_
              exact exQ_mk (by kernel_rfl) (by kernel_rfl)
          · intro e fr L hJ
            obtain ⟨rfl, rfl, rfl⟩ := hJ
            refine LT_keep [13, 14, 15] [35] (fr' := [(13, .one (.slc 35)), (14, aI v28.1), (15, aI v28.2.1)]) (L' := [(35, .seq tI v28.2.2)]) (by kernel_rfl) ?_
            refine blockQ_hit ?_
            refine seqQ_norm ?_
            refine W_seq (by kernel_rfl) ?_
            refine W_run 7 [] [8, 9, 10, 11] [35] (fr' := [(8, .one (.slc 35)), (9, aI v28.1), (10, aI v28.2.1), (11, aI (0 : Int))]) (L' := [(35, .seq tI v28.2.2)]) (obs := []) (by kernel_rfl) (by kernel_rfl) (by kernel_rfl) allP0 ?_
            refine seqQ_norm ?_
            obtain rfl := Option.some.inj h
            refine W_frz 35 (by kernel_rfl) ?_
            refine W_ret [8, 9, 10, 11] [] (fr' := [(8, aD (.slice tI) v28.2.2), (9, aI v28.1), (10, aI v28.2.1), (11, aI (0 : Int))]) (L' := []) (by kernel_rfl) (by kernel_rfl) ?_
            exact retQ_mk (by kernel_rfl) (by kernel_rfl) (by kernel_rfl)

noncomputable def code_Run (fuel : Nat) (a0 : Int) (a1 : (List Int)) (a2 : (List Int)) (a3 : Int) : Option ((List Int) × Int) :=
(code_Orders fuel a0 a1).bind fun r1 =>
bif r1.2 != (0 : Int) then
(some ([], r1.2))
else
((count_Run fuel a0 r1.1 a2 a3).bind fun r4 =>
some (r4.1, r4.2.2.2))
theorem code_Run_ok {fuel : Nat} {a0 : Int} {a1 : (List Int)} {a2 : (List Int)} {a3 : Int} {r : ((List Int) × Int)} (h : code_Run fuel a0 a1 a2 a3 = some r) : FnC Try.prog 15 [aI a0, aD (.slice tI) a1, aD (.slice tI) a2, aI a3] [] (.tup [.dat (.slice tI) r.1, .dat tI r.2]) [] := by
  refine fnC_of_W (B := bodyOf Try.f15) (n := 36) Try.func15 (by kernel_rfl) (by kernel_rfl) (by kernel_rfl) (by kernel_rfl) (by kernel_rfl) ?_
  intro K
  refine W_seq (by kernel_rfl) ?_
  refine W_run 2 [] [0, 1, 2, 3] [] (fr' := [(0, aI a0), (1, aD (.slice tI) a1), (2, aD (.slice tI) a2), (3, aI a3)]) (L' := []) (obs := []) (by kernel_rfl) (by kernel_rfl) (by kernel_rfl) allP0 ?_
  refine seqQ_norm ?_
  refine W_seq (by kernel_rfl) ?_
  refine W_region (by kernel_rfl) ?_
  refine WO_run (j := 2) (k := 2) (orcs := []) (kF := [0, 2, 3, 16, 17]) (kL := []) (fr' := [(0, aI a0), (2, aD (.slice tI) a2), (3, aI a3), (16, aI a0), (17, aD (.slice tI) a1)]) (L' := []) (obs := []) rfl (by kernel_rfl) allP0 ?_
  obtain ⟨r1, h2, h⟩ := bind_of h
  refine WO_call0 (us := [none, none]) (d := 18) (p := True) (j := 3) rfl ⟨by kernel_rfl, by kernel_rfl, by kernel_rfl⟩ trivial (code_Orders_ok h2) (by kernel_rfl) ?_
  refine WO_run (j := 8) (k := 5) (orcs := []) (kF := [0, 2, 3, 10, 11]) (kL := []) (fr' := [(0, aI a0), (2, aD (.slice tI) a2), (3, aI a3), (10, aD (.slice (.pair tI (.pair tI (.pair tI tI)))) r1.1), (11, aI r1.2)]) (L' := []) (obs := []) rfl (by kernel_rfl) allP0 ?_
  refine WO_fin [0, 2, 3, 10, 11] [] (fr' := [(0, aI a0), (2, aD (.slice tI) a2), (3, aI a3), (10, aD (.slice (.pair tI (.pair tI (.pair tI tI)))) r1.1), (11, aI r1.2)]) (L' := []) (by kernel_rfl) (by kernel_rfl) ?_
  refine seqQ_norm ?_
  refine W_seq (by kernel_rfl) ?_
  refine W_seq (by kernel_rfl) ?_
  refine W_run 2 [] [0, 2, 3, 10, 11, 22] [] (fr' := [(0, aI a0), (2, aD (.slice tI) a2), (3, aI a3), (10, aD (.slice (.pair tI (.pair tI (.pair tI tI)))) r1.1), (11, aI r1.2), (22, aB (r1.2 != (0 : Int)))]) (L' := []) (obs := []) (by kernel_rfl) (by kernel_rfl) (by kernel_rfl) allP0 ?_
  refine seqQ_norm ?_
  refine W_cond (o := .tmp 22) (b := r1.2 != (0 : Int)) (by kernel_rfl) (by kernel_rfl) (fun h3 => ?_) (fun h3 => ?_)
  · replace h := ofT h3 h
    refine W_seq (by kernel_rfl) ?_
    refine W_run 3 [] [8, 9] [] (fr' := [(8, .one (.nilS)), (9, aI r1.2)]) (L' := []) (obs := []) (by kernel_rfl) (by kernel_rfl) (by kernel_rfl) allP0 ?_
    refine seqQ_norm ?_
    obtain rfl := Option.some.inj h
    refine W_cnv 8 (.slice tI) (by kernel_rfl) ?_
    refine W_ret [8, 9] [] (fr' := [(8, aD (.slice tI) []), (9, aI r1.2)]) (L' := []) (by kernel_rfl) (by kernel_rfl) ?_
    refine seqQ_ret ?_
    exact retQ_mk (by kernel_rfl) (by kernel_rfl) (by kernel_rfl)
  · replace h := ofF h3 h
    refine W_skip [0, 2, 3, 10] [] (fr' := [(0, aI a0), (2, aD (.slice tI) a2), (3, aI a3), (10, aD (.slice (.pair tI (.pair tI (.pair tI tI)))) r1.1)]) (L' := []) (by kernel_rfl) (by kernel_rfl) ?_
    refine seqQ_norm ?_
    refine W_seq (by kernel_rfl) ?_
    refine W_region (by kernel_rfl) ?_
    refine WO_run (j := 4) (k := 4) (orcs := []) (kF := [25, 26, 27, 28]) (kL := []) (fr' := [(25, aI a0), (26, aD (.slice (.pair tI (.pair tI (.pair tI tI)))) r1.1), (27, aD (.slice tI) a2), (28, aI a3)]) (L' := []) (obs := []) rfl (by kernel_rfl) allP0 ?_
    obtain ⟨r4, h5, h⟩ := bind_of h
    refine WO_call0 (us := [none, none, none, none]) (d := 29) (p := True) (j := 5) rfl ⟨by kernel_rfl, by kernel_rfl, by kernel_rfl⟩ trivial (count_Run_ok h5) (by kernel_rfl) ?_
    refine WO_run (j := 14) (k := 9) (orcs := []) (kF := [11, 12]) (kL := []) (fr' := [(11, aI r4.2.2.2), (12, aD (.slice tI) r4.1)]) (L' := []) (obs := []) rfl (by kernel_rfl) allP0 ?_
    refine WO_fin [11, 12] [] (fr' := [(11, aI r4.2.2.2), (12, aD (.slice tI) r4.1)]) (L' := []) (by kernel_rfl) (by kernel_rfl) ?_
    refine seqQ_norm ?_
    refine W_seq (by kernel_rfl) ?_
    refine W_run 4 [] [8, 9] [] (fr' := [(8, aD (.slice tI) r4.1), (9, aI r4.2.2.2)]) (L' := []) (obs := []) (by kernel_rfl) (by kernel_rfl) (by kernel_rfl) allP0 ?_
    refine seqQ_norm ?_
    obtain rfl := Option.some.inj h
    refine W_ret [8, 9] [] (fr' := [(8, aD (.slice tI) r4.1), (9, aI r4.2.2.2)]) (L' := []) (by kernel_rfl) (by kernel_rfl) ?_
    exact retQ_mk (by kernel_rfl) (by kernel_rfl) (by kernel_rfl)

@[reducible] noncomputable def ref_Decoded_s3 (a0 : (List Int)) (x30 : (Int × (List (Int × (Int × (Int × Int)))))) (v : Bool) : Fr × LL := ([(0, aD (.slice tI) a0), (4, .one (.slc 51)), (5, aI x30.1), (28, aB v)], [(51, .seq (.pair tI (.pair tI (.pair tI tI))) x30.2)])
noncomputable def ref_Decoded_b4 (a0 : (List Int)) (x30 : (Int × (List (Int × (Int × (Int × Int)))))) : Option (Flow (Int × (List (Int × (Int × (Int × Int))))) (Esc ((List (Int × (Int × (Int × Int)))) × Bool) (List (Int × (Int × (Int × Int)))))) :=
bif decide (x30.1 < (List.length a0 : Int)) then
(((idx a0 x30.1).bind fun v70 =>
bif v70 == (1 : Int) then
((idx a0 (w64 (x30.1 + (3 : Int)))).bind fun v73 =>
some (v73 != (0 : Int)))
else
(some false)).bind fun v75 =>
bif v75 then
(some (.done (.ret ([], false))))
else
((idx a0 x30.1).bind fun v78 =>
(idx a0 (w64 (x30.1 + (1 : Int)))).bind fun v80 =>
(idx a0 (w64 (x30.1 + (2 : Int)))).bind fun v82 =>
(idx a0 (w64 (x30.1 + (3 : Int)))).bind fun v84 =>
(ck ((List.length x30.2 : Int) + 1 ≤ 4294967296)).bind fun _ =>
some (.next (w64 (x30.1 + (4 : Int)), x30.2 ++ [(v78, v80, v82, v84)]))))
else
(some (.done (.brk x30.2)))
@[reducible] noncomputable def ref_Decoded_s5 (a0 : (List Int)) (v : (Int × (List (Int × (Int × (Int × Int)))))) : Fr × LL := ([(0, aD (.slice tI) a0), (4, .one (.slc 51)), (5, aI v.1)], [(51, .seq (.pair tI (.pair tI (.pair tI tI))) v.2)])
@[reducible] noncomputable def ref_Decoded_s6 (v : ((List (Int × (Int × (Int × Int)))) × Bool)) : Fr × LL := ([(2, aD (.slice (.pair tI (.pair tI (.pair tI tI)))) v.1), (3, aB v.2)], [])
@[reducible] noncomputable def ref_Decoded_s7 (v : (List (Int × (Int × (Int × Int))))) : Fr × LL := ([(4, .one (.slc 51))], [(51, .seq (.pair tI (.pair tI (.pair tI tI))) v)])
noncomputable def ref_Decoded (fuel : Nat) (a0 : (List Int)) : Option ((List (Int × (Int × (Int × Int)))) × Bool) :=
bif (Int.tmod (List.length a0 : Int) (4 : Int)) != (0 : Int) then
(some ([], false))
else
((iter (ref_Decoded_b4 a0) fuel ((0 : Int), [])).bind fun v87 =>
match v87 with
| .ret v91 =>
(some (v91.1, v91.2))
| .brk v92 =>
(some (v92, true)))
theorem ref_Decoded_ok {fuel : Nat} {a0 : (List Int)} {r : ((List (Int × (Int × (Int × Int)))) × Bool)} (h : ref_Decoded fuel a0 = some r) : FnC Try.prog 14 [aD (.slice tI) a0] [] (.tup [.dat (.slice (.pair tI (.pair tI (.pair tI tI)))) r.1, .dat .bool r.2]) [] := by
  refine fnC_of_W (B := bodyOf Try.f14) (n := 53) Try.func14 (by kernel_rfl) (by kernel_rfl) (by kernel_rfl) (by kernel_rfl) (by kernel_rfl) ?_
  intro K
  refine W_seq (by kernel_rfl) ?_
  refine W_run 2 [] [0] [] (fr' := [(0, aD (.slice tI) a0)]) (L' := []) (obs := []) (by kernel_rfl) (by kernel_rfl) (by kernel_rfl) allP0 ?_
  refine seqQ_norm ?_
  refine W_seq (by kernel_rfl) ?_
  refine W_seq (by kernel_rfl) ?_
  refine W_run 4 [] [0, 9] [] (fr' := [(0, aD (.slice tI) a0), (9, aB ((Int.tmod (List.length a0 : Int) (4 : Int)) != (0 : Int)))]) (L' := []) (obs := [((4 : Int) ≠ 0)]) (by kernel_rfl) (by kernel_rfl) (by kernel_rfl) (allP1 (by decide)) ?_
  refine seqQ_norm ?_
  refine W_cond (o := .tmp 9) (b := (Int.tmod (List.length a0 : Int) (4 : Int)) != (0 : Int)) (by kernel_rfl) (by kernel_rfl) (fun h1 => ?_) (fun h1 => ?_)
  · replace h := ofT h1 h
    refine W_seq (by kernel_rfl) ?_
    refine W_run 2 [] [2, 3] [] (fr' := [(2, .one (.nilS)), (3, aB false)]) (L' := []) (obs := []) (by kernel_rfl) (by kernel_rfl) (by kernel_rfl) allP0 ?_
    refine seqQ_norm ?_
    obtain rfl := Option.some.inj h
    refine W_cnv 2 (.slice (.pair tI (.pair tI (.pair tI tI)))) (by kernel_rfl) ?_
    refine W_ret [2, 3] [] (fr' := [(2, aD (.slice (.pair tI (.pair tI (.pair tI tI)))) []), (3, aB false)]) (L' := []) (by kernel_rfl) (by kernel_rfl) ?_
    refine seqQ_ret ?_
    exact retQ_mk (by kernel_rfl) (by kernel_rfl) (by kernel_rfl)
  · replace h := ofF h1 h
    refine W_skip [0] [] (fr' := [(0, aD (.slice tI) a0)]) (L' := []) (by kernel_rfl) (by kernel_rfl) ?_
    refine seqQ_norm ?_
    refine W_seq (by kernel_rfl) ?_
    refine W_run 1 [] [0, 4] [] (fr' := [(0, aD (.slice tI) a0), (4, .one (.nilS))]) (L' := []) (obs := []) (by kernel_rfl) (by kernel_rfl) (by kernel_rfl) allP0 ?_
    refine seqQ_norm ?_
    refine W_seq (by kernel_rfl) ?_
    refine W_seq (by kernel_rfl) ?_
    refine W_run 1 [] [0, 4, 5] [] (fr' := [(0, aD (.slice tI) a0), (4, .one (.nilS)), (5, aI (0 : Int))]) (L' := []) (obs := []) (by kernel_rfl) (by kernel_rfl) (by kernel_rfl) allP0 ?_
    refine seqQ_norm ?_
    refine W_block (id := 0) (by kernel_rfl) ?_
    obtain ⟨v87, h88, h⟩ := bind_of h
    refine W_mine 4 51 (.pair tI (.pair tI (.pair tI tI))) (by kernel_rfl) ?_
    refine W_weaken [0, 4, 5] [51] (fr' := ((ref_Decoded_s5 a0) ((0 : Int), [])).1) (L' := ((ref_Decoded_s5 a0) ((0 : Int), [])).2) (by kernel_rfl) ?_
    refine W_cutK (W_loop (S := (ref_Decoded_s5 a0)) (J := (escQ (exQ .ret ref_Decoded_s6) (exQ (.exit 0) ref_Decoded_s7))) (by kernel_rfl) ?_ fuel _ v87 h88) ?_
    · rintro x30 s h
      refine W_seq (by kernel_rfl) ?_
      refine W_seq (by kernel_rfl) ?_
      refine W_run 4 [] [0, 4, 5, 13] [51] (fr' := [(0, aD (.slice tI) a0), (4, .one (.slc 51)), (5, aI x30.1), (13, aB (decide (x30.1 < (List.length a0 : Int))))]) (L' := [(51, .seq (.pair tI (.pair tI (.pair tI tI))) x30.2)]) (obs := []) (by kernel_rfl) (by kernel_rfl) (by kernel_rfl) allP0 ?_
      refine seqQ_norm ?_
      refine W_cond (o := .tmp 13) (b := decide (x30.1 < (List.length a0 : Int))) (by kernel_rfl) (by kernel_rfl) (fun h59 => ?_) (fun h59 => ?_)
      · replace h := ofT h59 h
        refine W_skip [0, 4, 5] [51] (fr' := [(0, aD (.slice tI) a0), (4, .one (.slc 51)), (5, aI x30.1)]) (L' := [(51, .seq (.pair tI (.pair tI (.pair tI tI))) x30.2)]) (by kernel_rfl) (by kernel_rfl) ?_
        refine seqQ_norm ?_
        refine W_seq (by kernel_rfl) ?_
        refine W_block (id := 1) (by kernel_rfl) ?_
        refine W_seq (by kernel_rfl) ?_
        refine W_seq (by kernel_rfl) ?_
        obtain ⟨v75, h76, h⟩ := bind_of h
        refine W_cutK (Q' := (exQ .normal (ref_Decoded_s3 a0 x30)) v75) ?_ ?_
        · replace h := h76
          obtain ⟨v70, h71, h⟩ := bind_of h
          refine W_region (by kernel_rfl) ?_
          refine WO_run (j := 6) (k := 6) (orcs := [(5, .val (.dat tI v70))]) (kF := [0, 4, 5, 21]) (kL := [51]) (fr' := [(0, aD (.slice tI) a0), (4, .one (.slc 51)), (5, aI x30.1), (21, aB (v70 == (1 : Int)))]) (L' := [(51, .seq (.pair tI (.pair tI (.pair tI tI))) x30.2)]) (obs := [Idx a0 x30.1 v70]) rfl (by kernel_rfl) (allP1 (Idx.of h71)) ?_
          rcases Bool.eq_false_or_eq_true (v70 == (1 : Int)) with h72 | h72
          · replace h := ofT h72 h
            obtain ⟨v73, h74, h⟩ := bind_of h
            refine WO_run (j := 13) (k := 7) (orcs := [(12, .known true), (14, .known true), (16, .known true), (18, .known true), (19, .val (.dat tI v73)), (20, .known true), (22, .known true), (25, .val (.dat .bool true))]) (kF := [0, 4, 5, 28]) (kL := [51]) (fr' := [(0, aD (.slice tI) a0), (4, .one (.slc 51)), (5, aI x30.1), (28, aB (v73 != (0 : Int)))]) (L' := [(51, .seq (.pair tI (.pair tI (.pair tI tI))) x30.2)]) (obs := [((v70 == (1 : Int)) = true), ((v70 == (1 : Int)) = true), ((v70 == (1 : Int)) = true), ((v70 == (1 : Int)) = true), Idx a0 (w64 (x30.1 + (3 : Int))) v73, ((v70 == (1 : Int)) = true), ((v70 == (1 : Int)) = true), ((v70 == (1 : Int)) = true)]) rfl (by kernel_rfl) (allP2 h72 (allP2 h72 (allP2 h72 (allP2 h72 (allP2 (Idx.of h74) (allP2 h72 (allP2 h72 (allP1 h72)))))))) ?_
            obtain rfl := Option.some.inj h
            refine WO_fin [0, 4, 5, 28] [51] (fr' := [(0, aD (.slice tI) a0), (4, .one (.slc 51)), (5, aI x30.1), (28, aB (v73 != (0 : Int)))]) (L' := [(51, .seq (.pair tI (.pair tI (.pair tI tI))) x30.2)]) (by kernel_rfl) (by kernel_rfl) ?_
            exact exQ_mk (by kernel_rfl) (by kernel_rfl)
          · replace h := ofF h72 h
            refine WO_run (j := 13) (k := 7) (orcs := [(12, .known false), (14, .known false), (16, .known false), (18, .known false), (20, .known false), (22, .known false), (25, .val (.dat .bool false))]) (kF := [0, 4, 5, 28]) (kL := [51]) (fr' := [(0, aD (.slice tI) a0), (4, .one (.slc 51)), (5, aI x30.1), (28, aB false)]) (L' := [(51, .seq (.pair tI (.pair tI (.pair tI tI))) x30.2)]) (obs := [((v70 == (1 : Int)) = false), ((v70 == (1 : Int)) = false), ((v70 == (1 : Int)) = false), ((v70 == (1 : Int)) = false), ((v70 == (1 : Int)) = false), ((v70 == (1 : Int)) = false), ((v70 == (1 : Int)) = false)]) rfl (by kernel_rfl) (allP2 h72 (allP2 h72 (allP2 h72 (allP2 h72 (allP2 h72 (allP2 h72 (allP1 h72))))))) ?_
            obtain rfl := Option.some.inj h
            refine WO_fin [0, 4, 5, 28] [51] (fr' := [(0, aD (.slice tI) a0), (4, .one (.slc 51)), (5, aI x30.1), (28, aB false)]) (L' := [(51, .seq (.pair tI (.pair tI (.pair tI tI))) x30.2)]) (by kernel_rfl) (by kernel_rfl) ?_
            exact exQ_mk (by kernel_rfl) (by kernel_rfl)
        · intro e fr L hJ
          obtain ⟨rfl, rfl, rfl⟩ := hJ
          refine LT_keep [0, 4, 5, 28] [51] (fr' := [(0, aD (.slice tI) a0), (4, .one (.slc 51)), (5, aI x30.1), (28, aB v75)]) (L' := [(51, .seq (.pair tI (.pair tI (.pair tI tI))) x30.2)]) (by kernel_rfl) ?_
          refine seqQ_norm ?_
          refine W_cond (o := .tmp 28) (b := v75) (by kernel_rfl) (by kernel_rfl) (fun h77 => ?_) (fun h77 => ?_)
          · replace h := ofT h77 h
            refine W_seq (by kernel_rfl) ?_
            refine W_run 2 [] [2, 3] [] (fr' := [(2, .one (.nilS)), (3, aB false)]) (L' := []) (obs := []) (by kernel_rfl) (by kernel_rfl) (by kernel_rfl) allP0 ?_
            refine seqQ_norm ?_
            obtain rfl := Option.some.inj h
            refine W_cnv 2 (.slice (.pair tI (.pair tI (.pair tI tI)))) (by kernel_rfl) ?_
            refine W_ret [2, 3] [] (fr' := [(2, aD (.slice (.pair tI (.pair tI (.pair tI tI)))) []), (3, aB false)]) (L' := []) (by kernel_rfl) (by kernel_rfl) ?_
            refine seqQ_ret ?_
            refine blockQ_ret ?_
            refine seqQ_ret ?_
            refine round_ret ?_
            refine escQ_ret ?_
            exact exQ_mk (by kernel_rfl) (by kernel_rfl)
          · replace h := ofF h77 h
            refine W_skip [0, 4, 5] [51] (fr' := [(0, aD (.slice tI) a0), (4, .one (.slc 51)), (5, aI x30.1)]) (L' := [(51, .seq (.pair tI (.pair tI (.pair tI tI))) x30.2)]) (by kernel_rfl) (by kernel_rfl) ?_
            refine seqQ_norm ?_
            obtain ⟨v78, h79, h⟩ := bind_of h
            obtain ⟨v80, h81, h⟩ := bind_of h
            obtain ⟨v82, h83, h⟩ := bind_of h
            obtain ⟨v84, h85, h⟩ := bind_of h
            obtain ⟨_, h86, h⟩ := bind_of h
            replace h86 := ck_some h86
            refine W_draw3 20 [0] [(7, .val (.dat tI v78)), (17, .val (.dat tI v80)), (27, .val (.dat tI v82)), (37, .val (.dat tI v84))] [] [0, 4, 5] [51] (fr' := [(0, aD (.slice tI) a0), (4, .one (.slc 51)), (5, aI x30.1)]) (L' := [(51, .seq (.pair tI (.pair tI (.pair tI tI))) (x30.2 ++ [(v78, v80, v82, v84)]))]) (out := [(29, .one (.slc 51)), (30, aD (.slice tI) a0), (31, aI x30.1), (32, .one (.dptr tI v78)), (33, aI v78), (34, aD (.slice tI) a0), (35, aI x30.1), (36, aI (w64 (x30.1 + (1 : Int)))), (37, .one (.dptr tI v80)), (38, aI v80), (39, aD (.slice tI) a0), (40, aI x30.1), (41, aI (w64 (x30.1 + (2 : Int)))), (42, .one (.dptr tI v82)), (43, aI v82), (44, aD (.slice tI) a0), (45, aI x30.1), (46, aI (w64 (x30.1 + (3 : Int)))), (47, .one (.dptr tI v84)), (48, aI v84)]) (obs := [Idx a0 x30.1 v78, Idx a0 (w64 (x30.1 + (1 : Int))) v80, Idx a0 (w64 (x30.1 + (2 : Int))) v82, Idx a0 (w64 (x30.1 + (3 : Int))) v84]) (obs2 := [SmallLen (List.length x30.2 + List.length [(v78, v80, v82, v84)])]) (calls := []) (by kernel_rfl) (by kernel_rfl) (by kernel_rfl) (by kernel_rfl) (allP2 (Idx.of h79) (allP2 (Idx.of h81) (allP2 (Idx.of h83) (allP1 (Idx.of h85))))) allC0 (by kernel_rfl) (allP1 h86) ?_
            refine blockQ_norm ?_
            refine seqQ_norm ?_
            obtain rfl := Option.some.inj h
            refine W_run 3 [] [0, 4, 5] [51] (fr' := [(0, aD (.slice tI) a0), (4, .one (.slc 51)), (5, aI (w64 (x30.1 + (4 : Int))))]) (L' := [(51, .seq (.pair tI (.pair tI (.pair tI tI))) (x30.2 ++ [(v78, v80, v82, v84)]))]) (obs := []) (by kernel_rfl) (by kernel_rfl) (by kernel_rfl) allP0 ?_
            exact round_next' (by kernel_rfl) (by kernel_rfl)
      · replace h := ofF h59 h
        obtain rfl := Option.some.inj h
        refine W_exit (id := 0) [4] [51] (fr' := [(4, .one (.slc 51))]) (L' := [(51, .seq (.pair tI (.pair tI (.pair tI tI))) x30.2)]) (by kernel_rfl) (by kernel_rfl) ?_
        refine seqQ_exit ?_
        refine round_exit ?_
        refine escQ_brk ?_
        exact exQ_mk (by kernel_rfl) (by kernel_rfl)
    · intro e fr L hJ
      rcases v87 with v91 | v92
      · obtain ⟨rfl, rfl, rfl⟩ := hJ
        obtain rfl := Option.some.inj h
        refine LT_keep [2, 3] [] (fr' := [(2, aD (.slice (.pair tI (.pair tI (.pair tI tI)))) v91.1), (3, aB v91.2)]) (L' := []) (by kernel_rfl) ?_
        refine blockQ_ret ?_
        refine seqQ_ret ?_
        exact retQ_mk (by kernel_rfl) (by kernel_rfl) (by kernel_rfl)
      · obtain ⟨rfl, rfl, rfl⟩ := hJ
        refine LT_keep [4] [51] (fr' := [(4, .one (.slc 51))]) (L' := [(51, .seq (.pair tI (.pair tI (.pair tI tI))) v92)]) (by kernel_rfl) ?_
        refine blockQ_hit ?_
        refine seqQ_norm ?_
        refine W_seq (by kernel_rfl) ?_
        refine W_run 3 [] [2, 3] [51] (fr' := [(2, .one (.slc 51)), (3, aB true)]) (L' := [(51, .seq (.pair tI (.pair tI (.pair tI tI))) v92)]) (obs := []) (by kernel_rfl) (by kernel_rfl) (by kernel_rfl) allP0 ?_
        refine seqQ_norm ?_
        obtain rfl := Option.some.inj h
        refine W_frz 51 (by kernel_rfl) ?_
        refine W_ret [2, 3] [] (fr' := [(2, aD (.slice (.pair tI (.pair tI (.pair tI tI)))) v92), (3, aB true)]) (L' := []) (by kernel_rfl) (by kernel_rfl) ?_
        exact retQ_mk (by kernel_rfl) (by kernel_rfl) (by kernel_rfl)

noncomputable def ref_Within (a0 : Int) (a1 : Int) (a2 : Int) : Option Bool :=
some ((decide (a0 ≤ a1)) && (decide (a1 ≤ a2)))
theorem ref_Within_ok {a0 : Int} {a1 : Int} {a2 : Int} {r : Bool} (h : ref_Within a0 a1 a2 = some r) : FnC Try.prog 20 [aI a0, aI a1, aI a2] [] (aB r) [] := by
  refine fnC_of_W (B := bodyOf Try.f20) (n := 15) Try.func20 (by kernel_rfl) (by kernel_rfl) (by kernel_rfl) (by kernel_rfl) (by kernel_rfl) ?_
  intro K
  refine W_seq (by kernel_rfl) ?_
  refine W_run 1 [] [0, 1, 2] [] (fr' := [(0, aI a0), (1, aI a1), (2, aI a2)]) (L' := []) (obs := []) (by kernel_rfl) (by kernel_rfl) (by kernel_rfl) allP0 ?_
  refine seqQ_norm ?_
  refine W_seq (by kernel_rfl) ?_
  refine W_run 9 [] [6] [] (fr' := [(6, aB ((decide (a0 ≤ a1)) && (decide (a1 ≤ a2))))]) (L' := []) (obs := []) (by kernel_rfl) (by kernel_rfl) (by kernel_rfl) allP0 ?_
  refine seqQ_norm ?_
  obtain rfl := Option.some.inj h
  refine W_ret [6] [] (fr' := [(6, aB ((decide (a0 ≤ a1)) && (decide (a1 ≤ a2))))]) (L' := []) (by kernel_rfl) (by kernel_rfl) ?_
  exact retQ_mk (by kernel_rfl) (by kernel_rfl) (by kernel_rfl)

noncomputable def ref_Inside_b1 (a0 : Int) (i11 : Int) (v14 : Int) (x12 : Unit) : Option (Flow Unit (Esc Bool Unit)) :=
bif (decide (v14 < (0 : Int))) || (decide (v14 ≥ a0)) then
(some (.done (.ret false)))
else
(some (.next ()))
@[reducible] noncomputable def ref_Inside_s2 (a0 : Int) (a1 : (List Int)) (v : Int × Unit) : Fr × LL := ([(0, aI a0), (7, aD (.slice tI) a1), (8, aI (List.length a1 : Int)), (9, aI v.1)], [])
@[reducible] noncomputable def ref_Inside_s3 (v : Bool) : Fr × LL := ([(4, aB v)], [])
@[reducible] noncomputable def ref_Inside_s4 (v : Unit) : Fr × LL := ([], [])
noncomputable def ref_Inside (a0 : Int) (a1 : (List Int)) : Option Bool :=
(forL (ref_Inside_b1 a0) (fun x12 => (.brk ())) a1 0 ()).bind fun v19 =>
match v19 with
| .ret v24 =>
(some v24)
| .brk v25 =>
(some true)
theorem ref_Inside_ok {a0 : Int} {a1 : (List Int)} {r : Bool} (h : ref_Inside a0 a1 = some r) : FnC Try.prog 25 [aI a0, aD (.slice tI) a1] [] (aB r) [] := by
  refine fnC_of_W (B := bodyOf Try.f25) (n := 21) Try.func25 (by kernel_rfl) (by kernel_rfl) (by kernel_rfl) (by kernel_rfl) (by kernel_rfl) ?_
  intro K
  refine W_seq (by kernel_rfl) ?_
  refine W_run 1 [] [0, 1] [] (fr' := [(0, aI a0), (1, aD (.slice tI) a1)]) (L' := []) (obs := []) (by kernel_rfl) (by kernel_rfl) (by kernel_rfl) allP0 ?_
  refine seqQ_norm ?_
  refine W_seq (by kernel_rfl) ?_
  refine W_seq (by kernel_rfl) ?_
  refine W_run 3 [] [0, 7, 8, 9] [] (fr' := [(0, aI a0), (7, aD (.slice tI) a1), (8, aI (List.length a1 : Int)), (9, aI (0 : Int))]) (L' := []) (obs := []) (by kernel_rfl) (by kernel_rfl) (by kernel_rfl) allP0 ?_
  refine seqQ_norm ?_
  refine W_block (id := 0) (by kernel_rfl) ?_
  obtain ⟨v19, h20, h⟩ := bind_of h
  refine W_len (t := 7) (u := tI) (xs := a1) (by kernel_rfl) (fun h23 => ?_)
  obtain ⟨h21, h22⟩ := forL_iter h23 h20
  refine W_weaken [0, 7, 8, 9] [] (fr' := ((ref_Inside_s2 a0 a1) ((0 : Int), ())).1) (L' := ((ref_Inside_s2 a0 a1) ((0 : Int), ())).2) (by kernel_rfl) ?_
  refine W_cutK (W_loop (S := (ref_Inside_s2 a0 a1)) (J := (escQ (exQ .ret ref_Inside_s3) (exQ (.exit 0) ref_Inside_s4))) (by kernel_rfl) ?_ h21 _ v19 h22) ?_
  · rintro ⟨i11, x12⟩ s h
    refine W_seq (by kernel_rfl) ?_
    refine W_run 1 [] [0, 7, 8, 9, 10] [] (fr' := [(0, aI a0), (7, aD (.slice tI) a1), (8, aI (List.length a1 : Int)), (9, aI i11), (10, aB (decide (i11 < (List.length a1 : Int))))]) (L' := []) (obs := []) (by kernel_rfl) (by kernel_rfl) (by kernel_rfl) allP0 ?_
    refine seqQ_norm ?_
    refine W_seq (by kernel_rfl) ?_
    refine W_cond (o := .tmp 10) (b := decide (i11 < (List.length a1 : Int))) (by kernel_rfl) (by kernel_rfl) (fun h16 => ?_) (fun h16 => ?_)
    · replace h := stepL_true h16 h
      obtain ⟨v14, _, h15, h, rfl⟩ := h
      refine W_skip [0, 7, 8, 9] [] (fr' := [(0, aI a0), (7, aD (.slice tI) a1), (8, aI (List.length a1 : Int)), (9, aI i11)]) (L' := []) (by kernel_rfl) (by kernel_rfl) ?_
      refine seqQ_norm ?_
      refine W_seq (by kernel_rfl) ?_
      refine W_block (id := 1) (by kernel_rfl) ?_
      refine W_seq (by kernel_rfl) ?_
      refine W_run 3 [(1, .val (.dat tI v14))] [0, 6, 7, 8, 9] [] (fr' := [(0, aI a0), (6, aI v14), (7, aD (.slice tI) a1), (8, aI (List.length a1 : Int)), (9, aI i11)]) (L' := []) (obs := [Idx a1 i11 v14]) (by kernel_rfl) (by kernel_rfl) (by kernel_rfl) (allP1 (Idx.of h15)) ?_
      refine seqQ_norm ?_
      refine W_seq (by kernel_rfl) ?_
      refine W_run 7 [] [0, 7, 8, 9, 19] [] (fr' := [(0, aI a0), (7, aD (.slice tI) a1), (8, aI (List.length a1 : Int)), (9, aI i11), (19, aB ((decide (v14 < (0 : Int))) || (decide (v14 ≥ a0))))]) (L' := []) (obs := []) (by kernel_rfl) (by kernel_rfl) (by kernel_rfl) allP0 ?_
      refine seqQ_norm ?_
      refine W_cond (o := .tmp 19) (b := (decide (v14 < (0 : Int))) || (decide (v14 ≥ a0))) (by kernel_rfl) (by kernel_rfl) (fun h17 => ?_) (fun h17 => ?_)
      · replace h := ofT h17 h
        refine W_seq (by kernel_rfl) ?_
        refine W_run 1 [] [4] [] (fr' := [(4, aB false)]) (L' := []) (obs := []) (by kernel_rfl) (by kernel_rfl) (by kernel_rfl) allP0 ?_
        refine seqQ_norm ?_
        obtain rfl := Option.some.inj h
        refine W_ret [4] [] (fr' := [(4, aB false)]) (L' := []) (by kernel_rfl) (by kernel_rfl) ?_
        refine blockQ_ret ?_
        refine seqQ_ret ?_
        refine round_ret ?_
        refine escQ_ret ?_
        exact exQ_mk (by kernel_rfl) (by kernel_rfl)
      · replace h := ofF h17 h
        refine W_skip [0, 7, 8, 9] [] (fr' := [(0, aI a0), (7, aD (.slice tI) a1), (8, aI (List.length a1 : Int)), (9, aI i11)]) (L' := []) (by kernel_rfl) (by kernel_rfl) ?_
        refine blockQ_norm ?_
        refine seqQ_norm ?_
        obtain rfl := Option.some.inj h
        refine W_run 2 [] [0, 7, 8, 9] [] (fr' := [(0, aI a0), (7, aD (.slice tI) a1), (8, aI (List.length a1 : Int)), (9, aI (w64 (i11 + (1 : Int))))]) (L' := []) (obs := []) (by kernel_rfl) (by kernel_rfl) (by kernel_rfl) allP0 ?_
        exact round_next' (by kernel_rfl) (by kernel_rfl)
    · obtain rfl := stepL_false h16 h
      refine W_exit (id := 0) [] [] (fr' := []) (L' := []) (by kernel_rfl) (by kernel_rfl) ?_
      refine seqQ_exit ?_
      refine round_exit ?_
      refine escQ_brk ?_
      exact exQ_mk (by kernel_rfl) (by kernel_rfl)
  · intro e fr L hJ
    rcases v19 with v24 | v25
    · obtain ⟨rfl, rfl, rfl⟩ := hJ
      obtain rfl := Option.some.inj h
      refine LT_keep [4] [] (fr' := [(4, aB v24)]) (L' := []) (by kernel_rfl) ?_
      refine blockQ_ret ?_
      refine seqQ_ret ?_
      exact retQ_mk (by kernel_rfl) (by kernel_rfl) (by kernel_rfl)
    · obtain ⟨rfl, rfl, rfl⟩ := hJ
      refine LT_keep [] [] (fr' := []) (L' := []) (by kernel_rfl) ?_
      refine blockQ_hit ?_
      refine seqQ_norm ?_
      refine W_seq (by kernel_rfl) ?_
      refine W_run 1 [] [4] [] (fr' := [(4, aB true)]) (L' := []) (obs := []) (by kernel_rfl) (by kernel_rfl) (by kernel_rfl) allP0 ?_
      refine seqQ_norm ?_
      obtain rfl := Option.some.inj h
      refine W_ret [4] [] (fr' := [(4, aB true)]) (L' := []) (by kernel_rfl) (by kernel_rfl) ?_
      exact retQ_mk (by kernel_rfl) (by kernel_rfl) (by kernel_rfl)

noncomputable def ref_OrdersCheck_g7 (a1 : (List (Int × (Int × (Int × Int))))) (v72 : (Int × (Int × (Int × Int)))) : Option Bool :=
(ref_Inside (w64 ((List.length a1 : Int) + (1 : Int))) [v72.2.2.1]).bind fun r96 =>
bif !r96 then
(some true)
else
(bif v72.1 == (2 : Int) then
((ref_Inside (w64 ((List.length a1 : Int) + (1 : Int))) [v72.2.2.2]).bind fun r100 =>
some (!r100))
else
(some false))
@[reducible] noncomputable def ref_OrdersCheck_s8 (a0 : Int) (a1 : (List (Int × (Int × (Int × Int))))) (i69 : Int) (v : Bool) : Fr × LL := ([(0, aI a0), (1, aD (.slice (.pair tI (.pair tI (.pair tI tI)))) a1), (7, aD (.slice (.pair tI (.pair tI (.pair tI tI)))) a1), (8, aI (List.length a1 : Int)), (9, aI i69), (49, aB v)], [])
@[reducible] noncomputable def ref_OrdersCheck_s9 (a0 : Int) (a1 : (List (Int × (Int × (Int × Int))))) (i69 : Int) (v72 : (Int × (Int × (Int × Int)))) (v : Bool) : Fr × LL := ([(0, aI a0), (1, aD (.slice (.pair tI (.pair tI (.pair tI tI)))) a1), (6, .one (.ptr 6 0)), (7, aD (.slice (.pair tI (.pair tI (.pair tI tI)))) a1), (8, aI (List.length a1 : Int)), (9, aI i69), (20, aB v)], [(6, .one (.pair tI (.pair tI (.pair tI tI))) v72)])
noncomputable def ref_OrdersCheck_b10 (a0 : Int) (a1 : (List (Int × (Int × (Int × Int))))) (i69 : Int) (v72 : (Int × (Int × (Int × Int)))) (x70 : Unit) : Option (Flow Unit (Esc Int Unit)) :=
(bif v72.1 != (1 : Int) then
(some (v72.1 != (2 : Int)))
else
(some false)).bind fun v78 =>
bif v78 then
(some (.done (.ret (6 : Int))))
else
((ref_Inside a0 [v72.2.1]).bind fun r81 =>
bif !r81 then
(some (.done (.ret (2 : Int))))
else
((ref_OrdersCheck_g7 a1 v72).bind fun v102 =>
bif v102 then
(some (.done (.ret (3 : Int))))
else
(some (.next ()))))
@[reducible] noncomputable def ref_OrdersCheck_s11 (a0 : Int) (a1 : (List (Int × (Int × (Int × Int))))) (v : Int × Unit) : Fr × LL := ([(0, aI a0), (1, aD (.slice (.pair tI (.pair tI (.pair tI tI)))) a1), (7, aD (.slice (.pair tI (.pair tI (.pair tI tI)))) a1), (8, aI (List.length a1 : Int)), (9, aI v.1)], [])
@[reducible] noncomputable def ref_OrdersCheck_s12 (v : Int) : Fr × LL := ([(4, aI v)], [])
@[reducible] noncomputable def ref_OrdersCheck_s13 (v : Unit) : Fr × LL := ([], [])
noncomputable def ref_OrdersCheck (a0 : Int) (a1 : (List (Int × (Int × (Int × Int))))) : Option Int :=
(forL (ref_OrdersCheck_b10 a0 a1) (fun x70 => (.brk ())) a1 0 ()).bind fun v106 =>
match v106 with
| .ret v111 =>
(some v111)
| .brk v112 =>
(some (0 : Int))
theorem ref_OrdersCheck_ok {a0 : Int} {a1 : (List (Int × (Int × (Int × Int))))} {r : Int} (h : ref_OrdersCheck a0 a1 = some r) : FnC Try.prog 21 [aI a0, aD (.slice (.pair tI (.pair tI (.pair tI tI)))) a1] [] (aI r) [] := by
  refine fnC_of_W (B := bodyOf Try.f21) (n := 51) Try.func21 (by kernel_rfl) (by kernel_rfl) (by kernel_rfl) (by kernel_rfl) (by kernel_rfl) ?_
  intro K
  refine W_seq (by kernel_rfl) ?_
  refine W_run 1 [] [0, 1] [] (fr' := [(0, aI a0), (1, aD (.slice (.pair tI (.pair tI (.pair tI tI)))) a1)]) (L' := []) (obs := []) (by kernel_rfl) (by kernel_rfl) (by kernel_rfl) allP0 ?_
  refine seqQ_norm ?_
  refine W_seq (by kernel_rfl) ?_
  refine W_seq (by kernel_rfl) ?_
  refine W_run 3 [] [0, 1, 7, 8, 9] [] (fr' := [(0, aI a0), (1, aD (.slice (.pair tI (.pair tI (.pair tI tI)))) a1), (7, aD (.slice (.pair tI (.pair tI (.pair tI tI)))) a1), (8, aI (List.length a1 : Int)), (9, aI (0 : Int))]) (L' := []) (obs := []) (by kernel_rfl) (by kernel_rfl) (by kernel_rfl) allP0 ?_
  refine seqQ_norm ?_
  refine W_block (id := 0) (by kernel_rfl) ?_
  obtain ⟨v106, h107, h⟩ := bind_of h
  refine W_len (t := 7) (u := (.pair tI (.pair tI (.pair tI tI)))) (xs := a1) (by kernel_rfl) (fun h110 => ?_)
  obtain ⟨h108, h109⟩ := forL_iter h110 h107
  refine W_weaken [0, 1, 7, 8, 9] [] (fr' := ((ref_OrdersCheck_s11 a0 a1) ((0 : Int), ())).1) (L' := ((ref_OrdersCheck_s11 a0 a1) ((0 : Int), ())).2) (by kernel_rfl) ?_
  refine W_cutK (W_loop (S := (ref_OrdersCheck_s11 a0 a1)) (J := (escQ (exQ .ret ref_OrdersCheck_s12) (exQ (.exit 0) ref_OrdersCheck_s13))) (by kernel_rfl) ?_ h108 _ v106 h109) ?_
  · rintro ⟨i69, x70⟩ s h
    refine W_seq (by kernel_rfl) ?_
    refine W_run 1 [] [0, 1, 7, 8, 9, 10] [] (fr' := [(0, aI a0), (1, aD (.slice (.pair tI (.pair tI (.pair tI tI)))) a1), (7, aD (.slice (.pair tI (.pair tI (.pair tI tI)))) a1), (8, aI (List.length a1 : Int)), (9, aI i69), (10, aB (decide (i69 < (List.length a1 : Int))))]) (L' := []) (obs := []) (by kernel_rfl) (by kernel_rfl) (by kernel_rfl) allP0 ?_
    refine seqQ_norm ?_
    refine W_seq (by kernel_rfl) ?_
    refine W_cond (o := .tmp 10) (b := decide (i69 < (List.length a1 : Int))) (by kernel_rfl) (by kernel_rfl) (fun h74 => ?_) (fun h74 => ?_)
    · replace h := stepL_true h74 h
      obtain ⟨v72, _, h73, h, rfl⟩ := h
      refine W_skip [0, 1, 7, 8, 9] [] (fr' := [(0, aI a0), (1, aD (.slice (.pair tI (.pair tI (.pair tI tI)))) a1), (7, aD (.slice (.pair tI (.pair tI (.pair tI tI)))) a1), (8, aI (List.length a1 : Int)), (9, aI i69)]) (L' := []) (by kernel_rfl) (by kernel_rfl) ?_
      refine seqQ_norm ?_
      refine W_seq (by kernel_rfl) ?_
      refine W_block (id := 1) (by kernel_rfl) ?_
      refine W_seq (by kernel_rfl) ?_
      refine W_run 4 [(1, .val (.dat (.pair tI (.pair tI (.pair tI tI))) v72)), (5, .typed)] [0, 1, 6, 7, 8, 9] [6] (fr' := [(0, aI a0), (1, aD (.slice (.pair tI (.pair tI (.pair tI tI)))) a1), (6, .one (.ptr 6 0)), (7, aD (.slice (.pair tI (.pair tI (.pair tI tI)))) a1), (8, aI (List.length a1 : Int)), (9, aI i69)]) (L' := [(6, .one (.pair tI (.pair tI (.pair tI tI))) v72)]) (obs := [Idx a1 i69 v72, True]) (by kernel_rfl) (by kernel_rfl) (by kernel_rfl) (allP2 (Idx.of h73) (allP1 trivial)) ?_
      refine seqQ_norm ?_
      refine W_seq (by kernel_rfl) ?_
      refine W_seq (by kernel_rfl) ?_
      obtain ⟨v78, h79, h⟩ := bind_of h
      refine W_cutK (Q' := (exQ .normal (ref_OrdersCheck_s9 a0 a1 i69 v72)) v78) ?_ ?_
      · replace h := h79
        refine W_region (by kernel_rfl) ?_
        refine WO_run (j := 4) (k := 4) (orcs := []) (kF := [0, 1, 6, 7, 8, 9, 16]) (kL := [6]) (fr' := [(0, aI a0), (1, aD (.slice (.pair tI (.pair tI (.pair tI tI)))) a1), (6, .one (.ptr 6 0)), (7, aD (.slice (.pair tI (.pair tI (.pair tI tI)))) a1), (8, aI (List.length a1 : Int)), (9, aI i69), (16, aB (v72.1 != (1 : Int)))]) (L' := [(6, .one (.pair tI (.pair tI (.pair tI tI))) v72)]) (obs := []) rfl (by kernel_rfl) allP0 ?_
        rcases Bool.eq_false_or_eq_true (v72.1 != (1 : Int)) with h77 | h77
        · replace h := ofT h77 h
          refine WO_run (j := 8) (k := 4) (orcs := [(8, .known true), (10, .known true), (12, .known true), (15, .val (.dat .bool true))]) (kF := [0, 1, 6, 7, 8, 9, 20]) (kL := [6]) (fr' := [(0, aI a0), (1, aD (.slice (.pair tI (.pair tI (.pair tI tI)))) a1), (6, .one (.ptr 6 0)), (7, aD (.slice (.pair tI (.pair tI (.pair tI tI)))) a1), (8, aI (List.length a1 : Int)), (9, aI i69), (20, aB (v72.1 != (2 : Int)))]) (L' := [(6, .one (.pair tI (.pair tI (.pair tI tI))) v72)]) (obs := [((v72.1 != (1 : Int)) = true), ((v72.1 != (1 : Int)) = true), ((v72.1 != (1 : Int)) = true), ((v72.1 != (1 : Int)) = true)]) rfl (by kernel_rfl) (allP2 h77 (allP2 h77 (allP2 h77 (allP1 h77)))) ?_
          obtain rfl := Option.some.inj h
          refine WO_fin [0, 1, 6, 7, 8, 9, 20] [6] (fr' := [(0, aI a0), (1, aD (.slice (.pair tI (.pair tI (.pair tI tI)))) a1), (6, .one (.ptr 6 0)), (7, aD (.slice (.pair tI (.pair tI (.pair tI tI)))) a1), (8, aI (List.length a1 : Int)), (9, aI i69), (20, aB (v72.1 != (2 : Int)))]) (L' := [(6, .one (.pair tI (.pair tI (.pair tI tI))) v72)]) (by kernel_rfl) (by kernel_rfl) ?_
          exact exQ_mk (by kernel_rfl) (by kernel_rfl)
        · replace h := ofF h77 h
          refine WO_run (j := 8) (k := 4) (orcs := [(8, .known false), (10, .known false), (12, .known false), (15, .val (.dat .bool false))]) (kF := [0, 1, 6, 7, 8, 9, 20]) (kL := [6]) (fr' := [(0, aI a0), (1, aD (.slice (.pair tI (.pair tI (.pair tI tI)))) a1), (6, .one (.ptr 6 0)), (7, aD (.slice (.pair tI (.pair tI (.pair tI tI)))) a1), (8, aI (List.length a1 : Int)), (9, aI i69), (20, aB false)]) (L' := [(6, .one (.pair tI (.pair tI (.pair tI tI))) v72)]) (obs := [((v72.1 != (1 : Int)) = false), ((v72.1 != (1 : Int)) = false), ((v72.1 != (1 : Int)) = false), ((v72.1 != (1 : Int)) = false)]) rfl (by kernel_rfl) (allP2 h77 (allP2 h77 (allP2 h77 (allP1 h77)))) ?_
          obtain rfl := Option.some.inj h
          refine WO_fin [0, 1, 6, 7, 8, 9, 20] [6] (fr' := [(0, aI a0), (1, aD (.slice (.pair tI (.pair tI (.pair tI tI)))) a1), (6, .one (.ptr 6 0)), (7, aD (.slice (.pair tI (.pair tI (.pair tI tI)))) a1), (8, aI (List.length a1 : Int)), (9, aI i69), (20, aB false)]) (L' := [(6, .one (.pair tI (.pair tI (.pair tI tI))) v72)]) (by kernel_rfl) (by kernel_rfl) ?_
          exact exQ_mk (by kernel_rfl) (by kernel_rfl)
      · intro e fr L hJ
        obtain ⟨rfl, rfl, rfl⟩ := hJ
        refine LT_keep [0, 1, 6, 7, 8, 9, 20] [6] (fr' := [(0, aI a0), (1, aD (.slice (.pair tI (.pair tI (.pair tI tI)))) a1), (6, .one (.ptr 6 0)), (7, aD (.slice (.pair tI (.pair tI (.pair tI tI)))) a1), (8, aI (List.length a1 : Int)), (9, aI i69), (20, aB v78)]) (L' := [(6, .one (.pair tI (.pair tI (.pair tI tI))) v72)]) (by kernel_rfl) ?_
        refine seqQ_norm ?_
        refine W_cond (o := .tmp 20) (b := v78) (by kernel_rfl) (by kernel_rfl) (fun h80 => ?_) (fun h80 => ?_)
        · replace h := ofT h80 h
          refine W_seq (by kernel_rfl) ?_
          refine W_run 1 [] [4] [] (fr' := [(4, aI (6 : Int))]) (L' := []) (obs := []) (by kernel_rfl) (by kernel_rfl) (by kernel_rfl) allP0 ?_
          refine seqQ_norm ?_
          obtain rfl := Option.some.inj h
          refine W_ret [4] [] (fr' := [(4, aI (6 : Int))]) (L' := []) (by kernel_rfl) (by kernel_rfl) ?_
          refine seqQ_ret ?_
          refine blockQ_ret ?_
          refine seqQ_ret ?_
          refine round_ret ?_
          refine escQ_ret ?_
          exact exQ_mk (by kernel_rfl) (by kernel_rfl)
        · replace h := ofF h80 h
          refine W_skip [0, 1, 6, 7, 8, 9] [6] (fr' := [(0, aI a0), (1, aD (.slice (.pair tI (.pair tI (.pair tI tI)))) a1), (6, .one (.ptr 6 0)), (7, aD (.slice (.pair tI (.pair tI (.pair tI tI)))) a1), (8, aI (List.length a1 : Int)), (9, aI i69)]) (L' := [(6, .one (.pair tI (.pair tI (.pair tI tI))) v72)]) (by kernel_rfl) (by kernel_rfl) ?_
          refine seqQ_norm ?_
          refine W_seq (by kernel_rfl) ?_
          refine W_seq (by kernel_rfl) ?_
          refine W_region (by kernel_rfl) ?_
          refine WO_run (j := 4) (k := 4) (orcs := []) (kF := [0, 1, 6, 7, 8, 9, 21, 24]) (kL := [6, 24]) (fr' := [(0, aI a0), (1, aD (.slice (.pair tI (.pair tI (.pair tI tI)))) a1), (6, .one (.ptr 6 0)), (7, aD (.slice (.pair tI (.pair tI (.pair tI tI)))) a1), (8, aI (List.length a1 : Int)), (9, aI i69), (21, aI a0), (24, .one (.slc 24))]) (L' := [(6, .one (.pair tI (.pair tI (.pair tI tI))) v72), (24, .seq tI [v72.2.1])]) (obs := []) rfl (by kernel_rfl) allP0 ?_
          obtain ⟨r81, h82, h⟩ := bind_of h
          refine WO_frz 24 (by kernel_rfl) ?_
          refine WO_call0 (us := [none, none]) (d := 25) (p := True) (j := 5) rfl ⟨by kernel_rfl, by kernel_rfl, by kernel_rfl⟩ trivial (ref_Inside_ok h82) (by kernel_rfl) ?_
          refine WO_run (j := 6) (k := 1) (orcs := []) (kF := [0, 1, 6, 7, 8, 9, 26]) (kL := [6]) (fr' := [(0, aI a0), (1, aD (.slice (.pair tI (.pair tI (.pair tI tI)))) a1), (6, .one (.ptr 6 0)), (7, aD (.slice (.pair tI (.pair tI (.pair tI tI)))) a1), (8, aI (List.length a1 : Int)), (9, aI i69), (26, aB (!r81))]) (L' := [(6, .one (.pair tI (.pair tI (.pair tI tI))) v72)]) (obs := []) rfl (by kernel_rfl) allP0 ?_
          refine WO_fin [0, 1, 6, 7, 8, 9, 26] [6] (fr' := [(0, aI a0), (1, aD (.slice (.pair tI (.pair tI (.pair tI tI)))) a1), (6, .one (.ptr 6 0)), (7, aD (.slice (.pair tI (.pair tI (.pair tI tI)))) a1), (8, aI (List.length a1 : Int)), (9, aI i69), (26, aB (!r81))]) (L' := [(6, .one (.pair tI (.pair tI (.pair tI tI))) v72)]) (by kernel_rfl) (by kernel_rfl) ?_
          refine seqQ_norm ?_
          refine W_cond (o := .tmp 26) (b := !r81) (by kernel_rfl) (by kernel_rfl) (fun h83 => ?_) (fun h83 => ?_)
          · replace h := ofT h83 h
            refine W_seq (by kernel_rfl) ?_
            refine W_run 1 [] [4] [] (fr' := [(4, aI (2 : Int))]) (L' := []) (obs := []) (by kernel_rfl) (by kernel_rfl) (by kernel_rfl) allP0 ?_
            refine seqQ_norm ?_
            obtain rfl := Option.some.inj h
            refine W_ret [4] [] (fr' := [(4, aI (2 : Int))]) (L' := []) (by kernel_rfl) (by kernel_rfl) ?_
            refine seqQ_ret ?_
            refine blockQ_ret ?_
            refine seqQ_ret ?_
            refine round_ret ?_
            refine escQ_ret ?_
            exact exQ_mk (by kernel_rfl) (by kernel_rfl)
          · replace h := ofF h83 h
            refine W_skip [0, 1, 6, 7, 8, 9] [6] (fr' := [(0, aI a0), (1, aD (.slice (.pair tI (.pair tI (.pair tI tI)))) a1), (6, .one (.ptr 6 0)), (7, aD (.slice (.pair tI (.pair tI (.pair tI tI)))) a1), (8, aI (List.length a1 : Int)), (9, aI i69)]) (L' := [(6, .one (.pair tI (.pair tI (.pair tI tI))) v72)]) (by kernel_rfl) (by kernel_rfl) ?_
            refine seqQ_norm ?_
            refine W_seq (by kernel_rfl) ?_
            obtain ⟨v102, h103, h⟩ := bind_of h
            refine W_cutK (Q' := (exQ .normal (ref_OrdersCheck_s8 a0 a1 i69)) v102) ?_ ?_
            · replace h := h103
              refine W_region (by kernel_rfl) ?_
              refine WO_run (j := 6) (k := 6) (orcs := []) (kF := [0, 1, 6, 7, 8, 9, 29, 32]) (kL := [6, 32]) (fr' := [(0, aI a0), (1, aD (.slice (.pair tI (.pair tI (.pair tI tI)))) a1), (6, .one (.ptr 6 0)), (7, aD (.slice (.pair tI (.pair tI (.pair tI tI)))) a1), (8, aI (List.length a1 : Int)), (9, aI i69), (29, aI (w64 ((List.length a1 : Int) + (1 : Int)))), (32, .one (.slc 32))]) (L' := [(6, .one (.pair tI (.pair tI (.pair tI tI))) v72), (32, .seq tI [v72.2.2.1])]) (obs := []) rfl (by kernel_rfl) allP0 ?_
              obtain ⟨r96, h97, h⟩ := bind_of h
              refine WO_frz 32 (by kernel_rfl) ?_
              refine WO_call0 (us := [none, none]) (d := 33) (p := True) (j := 7) rfl ⟨by kernel_rfl, by kernel_rfl, by kernel_rfl⟩ trivial (ref_Inside_ok h97) (by kernel_rfl) ?_
              refine WO_run (j := 9) (k := 2) (orcs := []) (kF := [0, 1, 6, 7, 8, 9, 35]) (kL := [6]) (fr' := [(0, aI a0), (1, aD (.slice (.pair tI (.pair tI (.pair tI tI)))) a1), (6, .one (.ptr 6 0)), (7, aD (.slice (.pair tI (.pair tI (.pair tI tI)))) a1), (8, aI (List.length a1 : Int)), (9, aI i69), (35, aB (!r96))]) (L' := [(6, .one (.pair tI (.pair tI (.pair tI tI))) v72)]) (obs := []) rfl (by kernel_rfl) allP0 ?_
              rcases Bool.eq_false_or_eq_true (!r96) with h98 | h98
              · replace h := ofT h98 h
                refine WO_run (j := 23) (k := 14) (orcs := [(18, .known true), (20, .known true), (22, .known true), (24, .known true), (26, .known true), (28, .known true), (30, .known true), (32, .known true), (34, .known true), (36, .known true), (38, .known true), (40, .known true), (42, .known true), (45, .val (.dat .bool true))]) (kF := [0, 1, 7, 8, 9, 49]) (kL := [6]) (fr' := [(0, aI a0), (1, aD (.slice (.pair tI (.pair tI (.pair tI tI)))) a1), (7, aD (.slice (.pair tI (.pair tI (.pair tI tI)))) a1), (8, aI (List.length a1 : Int)), (9, aI i69), (49, aB true)]) (L' := [(6, .one (.pair tI (.pair tI (.pair tI tI))) v72)]) (obs := [((!r96) = true), ((!r96) = true), ((!r96) = true), ((!r96) = true), ((!r96) = true), ((!r96) = true)]) rfl (by kernel_rfl) (allP2 h98 (allP2 h98 (allP2 h98 (allP2 h98 (allP2 h98 (allP1 h98)))))) ?_
                obtain rfl := Option.some.inj h
                refine WO_fin [0, 1, 7, 8, 9, 49] [] (fr' := [(0, aI a0), (1, aD (.slice (.pair tI (.pair tI (.pair tI tI)))) a1), (7, aD (.slice (.pair tI (.pair tI (.pair tI tI)))) a1), (8, aI (List.length a1 : Int)), (9, aI i69), (49, aB true)]) (L' := []) (by kernel_rfl) (by kernel_rfl) ?_
                exact exQ_mk (by kernel_rfl) (by kernel_rfl)
              · replace h := ofF h98 h
                refine WO_run (j := 13) (k := 4) (orcs := [(18, .known false), (20, .known false), (22, .known false), (24, .known false)]) (kF := [0, 1, 6, 7, 8, 9, 35, 39]) (kL := [6]) (fr' := [(0, aI a0), (1, aD (.slice (.pair tI (.pair tI (.pair tI tI)))) a1), (6, .one (.ptr 6 0)), (7, aD (.slice (.pair tI (.pair tI (.pair tI tI)))) a1), (8, aI (List.length a1 : Int)), (9, aI i69), (35, aB (!r96)), (39, aB (v72.1 == (2 : Int)))]) (L' := [(6, .one (.pair tI (.pair tI (.pair tI tI))) v72)]) (obs := [((!r96) = false), ((!r96) = false), ((!r96) = false), ((!r96) = false)]) rfl (by kernel_rfl) (allP2 h98 (allP2 h98 (allP2 h98 (allP1 h98)))) ?_
                rcases Bool.eq_false_or_eq_true (v72.1 == (2 : Int)) with h99 | h99
                · replace h := ofT h99 h
                  refine WO_run (j := 19) (k := 6) (orcs := [(26, .known true), (28, .known true), (30, .known true), (32, .known true), (34, .known true), (36, .known true)]) (kF := [0, 1, 7, 8, 9, 35, 39, 42, 45]) (kL := [6, 45]) (fr' := [(0, aI a0), (1, aD (.slice (.pair tI (.pair tI (.pair tI tI)))) a1), (7, aD (.slice (.pair tI (.pair tI (.pair tI tI)))) a1), (8, aI (List.length a1 : Int)), (9, aI i69), (35, aB (!r96)), (39, aB (v72.1 == (2 : Int))), (42, aI (w64 ((List.length a1 : Int) + (1 : Int)))), (45, .one (.slc 45))]) (L' := [(6, .one (.pair tI (.pair tI (.pair tI tI))) v72), (45, .seq tI [v72.2.2.2])]) (obs := [((v72.1 == (2 : Int)) = true), ((v72.1 == (2 : Int)) = true), ((v72.1 == (2 : Int)) = true), ((v72.1 == (2 : Int)) = true), ((v72.1 == (2 : Int)) = true), ((v72.1 == (2 : Int)) = true)]) rfl (by kernel_rfl) (allP2 h99 (allP2 h99 (allP2 h99 (allP2 h99 (allP2 h99 (allP1 h99)))))) ?_
                  obtain ⟨r100, h101, h⟩ := bind_of h
                  refine WO_frz 45 (by kernel_rfl) ?_
                  refine WO_call0 (us := [none, none]) (d := 46) (p := ((v72.1 == (2 : Int)) = true)) (j := 20) rfl ⟨by kernel_rfl, by kernel_rfl, by kernel_rfl⟩ h99 (ref_Inside_ok h101) (by kernel_rfl) ?_
                  refine WO_run (j := 23) (k := 3) (orcs := [(40, .known true), (42, .known false), (43, .val (.dat .bool true)), (45, .val (.dat .bool false))]) (kF := [0, 1, 7, 8, 9, 49]) (kL := [6]) (fr' := [(0, aI a0), (1, aD (.slice (.pair tI (.pair tI (.pair tI tI)))) a1), (7, aD (.slice (.pair tI (.pair tI (.pair tI tI)))) a1), (8, aI (List.length a1 : Int)), (9, aI i69), (49, aB (!r100))]) (L' := [(6, .one (.pair tI (.pair tI (.pair tI tI))) v72)]) (obs := [((v72.1 == (2 : Int)) = true), ((!r96) = false), ((v72.1 == (2 : Int)) = true), ((!r96) = false)]) rfl (by kernel_rfl) (allP2 h99 (allP2 h98 (allP2 h99 (allP1 h98)))) ?_
                  obtain rfl := Option.some.inj h
                  refine WO_fin [0, 1, 7, 8, 9, 49] [] (fr' := [(0, aI a0), (1, aD (.slice (.pair tI (.pair tI (.pair tI tI)))) a1), (7, aD (.slice (.pair tI (.pair tI (.pair tI tI)))) a1), (8, aI (List.length a1 : Int)), (9, aI i69), (49, aB (!r100))]) (L' := []) (by kernel_rfl) (by kernel_rfl) ?_
                  exact exQ_mk (by kernel_rfl) (by kernel_rfl)
                · replace h := ofF h99 h
                  refine WO_run (j := 23) (k := 10) (orcs := [(26, .known false), (28, .known false), (30, .known false), (32, .known false), (34, .known false), (36, .known false), (38, .known false), (40, .known false), (42, .known false), (43, .val (.dat .bool false)), (45, .val (.dat .bool false))]) (kF := [0, 1, 7, 8, 9, 49]) (kL := [6]) (fr' := [(0, aI a0), (1, aD (.slice (.pair tI (.pair tI (.pair tI tI)))) a1), (7, aD (.slice (.pair tI (.pair tI (.pair tI tI)))) a1), (8, aI (List.length a1 : Int)), (9, aI i69), (49, aB false)]) (L' := [(6, .one (.pair tI (.pair tI (.pair tI tI))) v72)]) (obs := [((v72.1 == (2 : Int)) = false), ((v72.1 == (2 : Int)) = false), ((v72.1 == (2 : Int)) = false), ((v72.1 == (2 : Int)) = false), ((v72.1 == (2 : Int)) = false), ((v72.1 == (2 : Int)) = false), ((v72.1 == (2 : Int)) = false), ((v72.1 == (2 : Int)) = false), ((!r96) = false), ((v72.1 == (2 : Int)) = false), ((!r96) = false)]) rfl (by kernel_rfl) (allP2 h99 (allP2 h99 (allP2 h99 (allP2 h99 (allP2 h99 (allP2 h99 (allP2 h99 (allP2 h99 (allP2 h98 (allP2 h99 (allP1 h98))))))))))) ?_
                  obtain rfl := Option.some.inj h
                  refine WO_fin [0, 1, 7, 8, 9, 49] [] (fr' := [(0, aI a0), (1, aD (.slice (.pair tI (.pair tI (.pair tI tI)))) a1), (7, aD (.slice (.pair tI (.pair tI (.pair tI tI)))) a1), (8, aI (List.length a1 : Int)), (9, aI i69), (49, aB false)]) (L' := []) (by kernel_rfl) (by kernel_rfl) ?_
                  exact exQ_mk (by kernel_rfl) (by kernel_rfl)
            · intro e fr L hJ
              obtain ⟨rfl, rfl, rfl⟩ := hJ
              refine LT_keep [0, 1, 7, 8, 9, 49] [] (fr' := [(0, aI a0), (1, aD (.slice (.pair tI (.pair tI (.pair tI tI)))) a1), (7, aD (.slice (.pair tI (.pair tI (.pair tI tI)))) a1), (8, aI (List.length a1 : Int)), (9, aI i69), (49, aB v102)]) (L' := []) (by kernel_rfl) ?_
              refine seqQ_norm ?_
              refine W_cond (o := .tmp 49) (b := v102) (by kernel_rfl) (by kernel_rfl) (fun h104 => ?_) (fun h104 => ?_)
              · replace h := ofT h104 h
                refine W_seq (by kernel_rfl) ?_
                refine W_run 1 [] [4] [] (fr' := [(4, aI (3 : Int))]) (L' := []) (obs := []) (by kernel_rfl) (by kernel_rfl) (by kernel_rfl) allP0 ?_
                refine seqQ_norm ?_
                obtain rfl := Option.some.inj h
                refine W_ret [4] [] (fr' := [(4, aI (3 : Int))]) (L' := []) (by kernel_rfl) (by kernel_rfl) ?_
                refine blockQ_ret ?_
                refine seqQ_ret ?_
                refine round_ret ?_
                refine escQ_ret ?_
                exact exQ_mk (by kernel_rfl) (by kernel_rfl)
              · replace h := ofF h104 h
                refine W_skip [0, 1, 7, 8, 9] [] (fr' := [(0, aI a0), (1, aD (.slice (.pair tI (.pair tI (.pair tI tI)))) a1), (7, aD (.slice (.pair tI (.pair tI (.pair tI tI)))) a1), (8, aI (List.length a1 : Int)), (9, aI i69)]) (L' := []) (by kernel_rfl) (by kernel_rfl) ?_
                refine blockQ_norm ?_
                refine seqQ_norm ?_
                obtain rfl := Option.some.inj h
                refine W_run 2 [] [0, 1, 7, 8, 9] [] (fr' := [(0, aI a0), (1, aD (.slice (.pair tI (.pair tI (.pair tI tI)))) a1), (7, aD (.slice (.pair tI (.pair tI (.pair tI tI)))) a1), (8, aI (List.length a1 : Int)), (9, aI (w64 (i69 + (1 : Int))))]) (L' := []) (obs := []) (by kernel_rfl) (by kernel_rfl) (by kernel_rfl) allP0 ?_
                exact round_next' (by kernel_rfl) (by kernel_rfl)
    · obtain rfl := stepL_false h74 h
      refine W_exit (id := 0) [] [] (fr' := []) (L' := []) (by kernel_rfl) (by kernel_rfl) ?_
      refine seqQ_exit ?_
      refine round_exit ?_
      refine escQ_brk ?_
      exact exQ_mk (by kernel_rfl) (by kernel_rfl)
  · intro e fr L hJ
    rcases v106 with v111 | v112
    · obtain ⟨rfl, rfl, rfl⟩ := hJ
      obtain rfl := Option.some.inj h
      refine LT_keep [4] [] (fr' := [(4, aI v111)]) (L' := []) (by kernel_rfl) ?_
      refine blockQ_ret ?_
      refine seqQ_ret ?_
      exact retQ_mk (by kernel_rfl) (by kernel_rfl) (by kernel_rfl)
    · obtain ⟨rfl, rfl, rfl⟩ := hJ
      refine LT_keep [] [] (fr' := []) (L' := []) (by kernel_rfl) ?_
      refine blockQ_hit ?_
      refine seqQ_norm ?_
      refine W_seq (by kernel_rfl) ?_
      refine W_run 1 [] [4] [] (fr' := [(4, aI (0 : Int))]) (L' := []) (obs := []) (by kernel_rfl) (by kernel_rfl) (by kernel_rfl) allP0 ?_
      refine seqQ_norm ?_
      obtain rfl := Option.some.inj h
      refine W_ret [4] [] (fr' := [(4, aI (0 : Int))]) (L' := []) (by kernel_rfl) (by kernel_rfl) ?_
      exact retQ_mk (by kernel_rfl) (by kernel_rfl) (by kernel_rfl)

noncomputable def ref_CountCheck_g1 (a0 : Int) (a1 : (List (Int × (Int × (Int × Int))))) : Option Bool :=
(ref_Within (1 : Int) a0 (4 : Int)).bind fun r11 =>
bif !r11 then
(some true)
else
((ref_Within (1 : Int) (List.length a1 : Int) (12 : Int)).bind fun r14 =>
some (!r14))
@[reducible] noncomputable def ref_CountCheck_s2 (a0 : Int) (a1 : (List (Int × (Int × (Int × Int))))) (v : Bool) : Fr × LL := ([(0, aI a0), (1, aD (.slice (.pair tI (.pair tI (.pair tI tI)))) a1), (13, aB v)], [])
noncomputable def ref_CountCheck (a0 : Int) (a1 : (List (Int × (Int × (Int × Int))))) : Option Int :=
(ref_CountCheck_g1 a0 a1).bind fun v16 =>
bif v16 then
(some (1 : Int))
else
((ref_OrdersCheck a0 a1).bind fun r19 =>
some r19)
theorem ref_CountCheck_ok {a0 : Int} {a1 : (List (Int × (Int × (Int × Int))))} {r : Int} (h : ref_CountCheck a0 a1 = some r) : FnC Try.prog 24 [aI a0, aD (.slice (.pair tI (.pair tI (.pair tI tI)))) a1] [] (aI r) [] := by
  refine fnC_of_W (B := bodyOf Try.f24) (n := 17) Try.func24 (by kernel_rfl) (by kernel_rfl) (by kernel_rfl) (by kernel_rfl) (by kernel_rfl) ?_
  intro K
  refine W_seq (by kernel_rfl) ?_
  refine W_run 1 [] [0, 1] [] (fr' := [(0, aI a0), (1, aD (.slice (.pair tI (.pair tI (.pair tI tI)))) a1)]) (L' := []) (obs := []) (by kernel_rfl) (by kernel_rfl) (by kernel_rfl) allP0 ?_
  refine seqQ_norm ?_
  refine W_seq (by kernel_rfl) ?_
  refine W_seq (by kernel_rfl) ?_
  obtain ⟨v16, h17, h⟩ := bind_of h
  refine W_cutK (Q' := (exQ .normal (ref_CountCheck_s2 a0 a1)) v16) ?_ ?_
  · replace h := h17
    refine W_region (by kernel_rfl) ?_
    refine WO_run (j := 1) (k := 1) (orcs := []) (kF := [0, 1, 5]) (kL := []) (fr' := [(0, aI a0), (1, aD (.slice (.pair tI (.pair tI (.pair tI tI)))) a1), (5, aI a0)]) (L' := []) (obs := []) rfl (by kernel_rfl) allP0 ?_
    obtain ⟨r11, h12, h⟩ := bind_of h
    refine WO_call0 (us := [none, none, none]) (d := 6) (p := True) (j := 2) rfl ⟨by kernel_rfl, by kernel_rfl, by kernel_rfl⟩ trivial (ref_Within_ok h12) (by kernel_rfl) ?_
    refine WO_run (j := 4) (k := 2) (orcs := []) (kF := [0, 1, 8]) (kL := []) (fr' := [(0, aI a0), (1, aD (.slice (.pair tI (.pair tI (.pair tI tI)))) a1), (8, aB (!r11))]) (L' := []) (obs := []) rfl (by kernel_rfl) allP0 ?_
    rcases Bool.eq_false_or_eq_true (!r11) with h13 | h13
    · replace h := ofT h13 h
      refine WO_run (j := 9) (k := 5) (orcs := [(8, .known true), (10, .known true), (12, .known true), (14, .known true), (17, .val (.dat .bool true))]) (kF := [0, 1, 13]) (kL := []) (fr' := [(0, aI a0), (1, aD (.slice (.pair tI (.pair tI (.pair tI tI)))) a1), (13, aB true)]) (L' := []) (obs := [((!r11) = true), ((!r11) = true), ((!r11) = true), ((!r11) = true), ((!r11) = true)]) rfl (by kernel_rfl) (allP2 h13 (allP2 h13 (allP2 h13 (allP2 h13 (allP1 h13))))) ?_
      obtain rfl := Option.some.inj h
      refine WO_fin [0, 1, 13] [] (fr' := [(0, aI a0), (1, aD (.slice (.pair tI (.pair tI (.pair tI tI)))) a1), (13, aB true)]) (L' := []) (by kernel_rfl) (by kernel_rfl) ?_
      exact exQ_mk (by kernel_rfl) (by kernel_rfl)
    · replace h := ofF h13 h
      refine WO_run (j := 6) (k := 2) (orcs := [(8, .known false), (10, .known false)]) (kF := [0, 1, 8, 10]) (kL := []) (fr' := [(0, aI a0), (1, aD (.slice (.pair tI (.pair tI (.pair tI tI)))) a1), (8, aB (!r11)), (10, aI (List.length a1 : Int))]) (L' := []) (obs := [((!r11) = false), ((!r11) = false)]) rfl (by kernel_rfl) (allP2 h13 (allP1 h13)) ?_
      obtain ⟨r14, h15, h⟩ := bind_of h
      refine WO_call0 (us := [none, none, none]) (d := 11) (p := ((!r11) = false)) (j := 7) rfl ⟨by kernel_rfl, by kernel_rfl, by kernel_rfl⟩ h13 (ref_Within_ok h15) (by kernel_rfl) ?_
      refine WO_run (j := 9) (k := 2) (orcs := [(14, .known false), (17, .val (.dat .bool false))]) (kF := [0, 1, 13]) (kL := []) (fr' := [(0, aI a0), (1, aD (.slice (.pair tI (.pair tI (.pair tI tI)))) a1), (13, aB (!r14))]) (L' := []) (obs := [((!r11) = false), ((!r11) = false)]) rfl (by kernel_rfl) (allP2 h13 (allP1 h13)) ?_
      obtain rfl := Option.some.inj h
      refine WO_fin [0, 1, 13] [] (fr' := [(0, aI a0), (1, aD (.slice (.pair tI (.pair tI (.pair tI tI)))) a1), (13, aB (!r14))]) (L' := []) (by kernel_rfl) (by kernel_rfl) ?_
      exact exQ_mk (by kernel_rfl) (by kernel_rfl)
  · intro e fr L hJ
    obtain ⟨rfl, rfl, rfl⟩ := hJ
    refine LT_keep [0, 1, 13] [] (fr' := [(0, aI a0), (1, aD (.slice (.pair tI (.pair tI (.pair tI tI)))) a1), (13, aB v16)]) (L' := []) (by kernel_rfl) ?_
    refine seqQ_norm ?_
    refine W_cond (o := .tmp 13) (b := v16) (by kernel_rfl) (by kernel_rfl) (fun h18 => ?_) (fun h18 => ?_)
    · replace h := ofT h18 h
      refine W_seq (by kernel_rfl) ?_
      refine W_run 1 [] [4] [] (fr' := [(4, aI (1 : Int))]) (L' := []) (obs := []) (by kernel_rfl) (by kernel_rfl) (by kernel_rfl) allP0 ?_
      refine seqQ_norm ?_
      obtain rfl := Option.some.inj h
      refine W_ret [4] [] (fr' := [(4, aI (1 : Int))]) (L' := []) (by kernel_rfl) (by kernel_rfl) ?_
      refine seqQ_ret ?_
      exact retQ_mk (by kernel_rfl) (by kernel_rfl) (by kernel_rfl)
    · replace h := ofF h18 h
      refine W_skip [0, 1] [] (fr' := [(0, aI a0), (1, aD (.slice (.pair tI (.pair tI (.pair tI tI)))) a1)]) (L' := []) (by kernel_rfl) (by kernel_rfl) ?_
      refine seqQ_norm ?_
      refine W_seq (by kernel_rfl) ?_
      refine W_region (by kernel_rfl) ?_
      refine WO_run (j := 2) (k := 2) (orcs := []) (kF := [14, 15]) (kL := []) (fr' := [(14, aI a0), (15, aD (.slice (.pair tI (.pair tI (.pair tI tI)))) a1)]) (L' := []) (obs := []) rfl (by kernel_rfl) allP0 ?_
      obtain ⟨r19, h20, h⟩ := bind_of h
      refine WO_call0 (us := [none, none]) (d := 16) (p := True) (j := 3) rfl ⟨by kernel_rfl, by kernel_rfl, by kernel_rfl⟩ trivial (ref_OrdersCheck_ok h20) (by kernel_rfl) ?_
      refine WO_run (j := 4) (k := 1) (orcs := []) (kF := [4]) (kL := []) (fr' := [(4, aI r19)]) (L' := []) (obs := []) rfl (by kernel_rfl) allP0 ?_
      refine WO_fin [4] [] (fr' := [(4, aI r19)]) (L' := []) (by kernel_rfl) (by kernel_rfl) ?_
      refine seqQ_norm ?_
      obtain rfl := Option.some.inj h
      refine W_ret [4] [] (fr' := [(4, aI r19)]) (L' := []) (by kernel_rfl) (by kernel_rfl) ?_
      exact retQ_mk (by kernel_rfl) (by kernel_rfl) (by kernel_rfl)

noncomputable def ref_DigitsCheck (fuel : Nat) (a0 : Int) (a1 : (List Int)) : Option Int :=
(ref_Decoded fuel a1).bind fun r1 =>
bif !r1.2 then
(some (3 : Int))
else
((ref_CountCheck a0 r1.1).bind fun r4 =>
some r4)
theorem ref_DigitsCheck_ok {fuel : Nat} {a0 : Int} {a1 : (List Int)} {r : Int} (h : ref_DigitsCheck fuel a0 a1 = some r) : FnC Try.prog 13 [aI a0, aD (.slice tI) a1] [] (aI r) [] := by
  refine fnC_of_W (B := bodyOf Try.f13) (n := 17) Try.func13 (by kernel_rfl) (by kernel_rfl) (by kernel_rfl) (by kernel_rfl) (by kernel_rfl) ?_
  intro K
  refine W_seq (by kernel_rfl) ?_
  refine W_run 1 [] [0, 1] [] (fr' := [(0, aI a0), (1, aD (.slice tI) a1)]) (L' := []) (obs := []) (by kernel_rfl) (by kernel_rfl) (by kernel_rfl) allP0 ?_
  refine seqQ_norm ?_
  refine W_seq (by kernel_rfl) ?_
  refine W_region (by kernel_rfl) ?_
  refine WO_run (j := 1) (k := 1) (orcs := []) (kF := [0, 8]) (kL := []) (fr' := [(0, aI a0), (8, aD (.slice tI) a1)]) (L' := []) (obs := []) rfl (by kernel_rfl) allP0 ?_
  obtain ⟨r1, h2, h⟩ := bind_of h
  refine WO_call0 (us := [none]) (d := 9) (p := True) (j := 2) rfl ⟨by kernel_rfl, by kernel_rfl, by kernel_rfl⟩ trivial (ref_Decoded_ok h2) (by kernel_rfl) ?_
  refine WO_run (j := 7) (k := 5) (orcs := []) (kF := [0, 5, 6]) (kL := []) (fr' := [(0, aI a0), (5, aD (.slice (.pair tI (.pair tI (.pair tI tI)))) r1.1), (6, aB r1.2)]) (L' := []) (obs := []) rfl (by kernel_rfl) allP0 ?_
  refine WO_fin [0, 5, 6] [] (fr' := [(0, aI a0), (5, aD (.slice (.pair tI (.pair tI (.pair tI tI)))) r1.1), (6, aB r1.2)]) (L' := []) (by kernel_rfl) (by kernel_rfl) ?_
  refine seqQ_norm ?_
  refine W_seq (by kernel_rfl) ?_
  refine W_seq (by kernel_rfl) ?_
  refine W_run 2 [] [0, 5, 13] [] (fr' := [(0, aI a0), (5, aD (.slice (.pair tI (.pair tI (.pair tI tI)))) r1.1), (13, aB (!r1.2))]) (L' := []) (obs := []) (by kernel_rfl) (by kernel_rfl) (by kernel_rfl) allP0 ?_
  refine seqQ_norm ?_
  refine W_cond (o := .tmp 13) (b := !r1.2) (by kernel_rfl) (by kernel_rfl) (fun h3 => ?_) (fun h3 => ?_)
  · replace h := ofT h3 h
    refine W_seq (by kernel_rfl) ?_
    refine W_run 1 [] [4] [] (fr' := [(4, aI (3 : Int))]) (L' := []) (obs := []) (by kernel_rfl) (by kernel_rfl) (by kernel_rfl) allP0 ?_
    refine seqQ_norm ?_
    obtain rfl := Option.some.inj h
    refine W_ret [4] [] (fr' := [(4, aI (3 : Int))]) (L' := []) (by kernel_rfl) (by kernel_rfl) ?_
    refine seqQ_ret ?_
    exact retQ_mk (by kernel_rfl) (by kernel_rfl) (by kernel_rfl)
  · replace h := ofF h3 h
    refine W_skip [0, 5] [] (fr' := [(0, aI a0), (5, aD (.slice (.pair tI (.pair tI (.pair tI tI)))) r1.1)]) (L' := []) (by kernel_rfl) (by kernel_rfl) ?_
    refine seqQ_norm ?_
    refine W_seq (by kernel_rfl) ?_
    refine W_region (by kernel_rfl) ?_
    refine WO_run (j := 2) (k := 2) (orcs := []) (kF := [14, 15]) (kL := []) (fr' := [(14, aI a0), (15, aD (.slice (.pair tI (.pair tI (.pair tI tI)))) r1.1)]) (L' := []) (obs := []) rfl (by kernel_rfl) allP0 ?_
    obtain ⟨r4, h5, h⟩ := bind_of h
    refine WO_call0 (us := [none, none]) (d := 16) (p := True) (j := 3) rfl ⟨by kernel_rfl, by kernel_rfl, by kernel_rfl⟩ trivial (ref_CountCheck_ok h5) (by kernel_rfl) ?_
    refine WO_run (j := 4) (k := 1) (orcs := []) (kF := [4]) (kL := []) (fr' := [(4, aI r4)]) (L' := []) (obs := []) rfl (by kernel_rfl) allP0 ?_
    refine WO_fin [4] [] (fr' := [(4, aI r4)]) (L' := []) (by kernel_rfl) (by kernel_rfl) ?_
    refine seqQ_norm ?_
    obtain rfl := Option.some.inj h
    refine W_ret [4] [] (fr' := [(4, aI r4)]) (L' := []) (by kernel_rfl) (by kernel_rfl) ?_
    exact retQ_mk (by kernel_rfl) (by kernel_rfl) (by kernel_rfl)

noncomputable def ref_HaveCheck_b1 (i16 : Int) (v19 : Int) (x17 : Unit) : Option (Flow Unit (Esc Int Unit)) :=
(ref_Within (0 : Int) v19 (20 : Int)).bind fun r22 =>
bif !r22 then
(some (.done (.ret (4 : Int))))
else
(some (.next ()))
@[reducible] noncomputable def ref_HaveCheck_s2 (a1 : (List Int)) (a2 : Int) (v : Int × Unit) : Fr × LL := ([(2, aI a2), (13, aD (.slice tI) a1), (14, aI (List.length a1 : Int)), (15, aI v.1)], [])
@[reducible] noncomputable def ref_HaveCheck_s3 (v : Int) : Fr × LL := ([(6, aI v)], [])
@[reducible] noncomputable def ref_HaveCheck_s4 (a2 : Int) (v : Unit) : Fr × LL := ([(2, aI a2)], [])
noncomputable def ref_HaveCheck (a0 : Int) (a1 : (List Int)) (a2 : Int) : Option Int :=
bif (List.length a1 : Int) != a0 then
(some (3 : Int))
else
((forL ref_HaveCheck_b1 (fun x17 => (.brk ())) a1 0 ()).bind fun v26 =>
match v26 with
| .ret v31 =>
(some v31)
| .brk v32 =>
((ref_Within (0 : Int) a2 (400 : Int)).bind fun r33 =>
bif !r33 then
(some (7 : Int))
else
(some (0 : Int))))
theorem ref_HaveCheck_ok {a0 : Int} {a1 : (List Int)} {a2 : Int} {r : Int} (h : ref_HaveCheck a0 a1 a2 = some r) : FnC Try.prog 16 [aI a0, aD (.slice tI) a1, aI a2] [] (aI r) [] := by
  refine fnC_of_W (B := bodyOf Try.f16) (n := 26) Try.func16 (by kernel_rfl) (by kernel_rfl) (by kernel_rfl) (by kernel_rfl) (by kernel_rfl) ?_
  intro K
  refine W_seq (by kernel_rfl) ?_
  refine W_run 1 [] [0, 1, 2] [] (fr' := [(0, aI a0), (1, aD (.slice tI) a1), (2, aI a2)]) (L' := []) (obs := []) (by kernel_rfl) (by kernel_rfl) (by kernel_rfl) allP0 ?_
  refine seqQ_norm ?_
  refine W_seq (by kernel_rfl) ?_
  refine W_seq (by kernel_rfl) ?_
  refine W_run 4 [] [1, 2, 12] [] (fr' := [(1, aD (.slice tI) a1), (2, aI a2), (12, aB ((List.length a1 : Int) != a0))]) (L' := []) (obs := []) (by kernel_rfl) (by kernel_rfl) (by kernel_rfl) allP0 ?_
  refine seqQ_norm ?_
  refine W_cond (o := .tmp 12) (b := (List.length a1 : Int) != a0) (by kernel_rfl) (by kernel_rfl) (fun h1 => ?_) (fun h1 => ?_)
  · replace h := ofT h1 h
    refine W_seq (by kernel_rfl) ?_
    refine W_run 1 [] [6] [] (fr' := [(6, aI (3 : Int))]) (L' := []) (obs := []) (by kernel_rfl) (by kernel_rfl) (by kernel_rfl) allP0 ?_
    refine seqQ_norm ?_
    obtain rfl := Option.some.inj h
    refine W_ret [6] [] (fr' := [(6, aI (3 : Int))]) (L' := []) (by kernel_rfl) (by kernel_rfl) ?_
    refine seqQ_ret ?_
    exact retQ_mk (by kernel_rfl) (by kernel_rfl) (by kernel_rfl)
  · replace h := ofF h1 h
    refine W_skip [1, 2] [] (fr' := [(1, aD (.slice tI) a1), (2, aI a2)]) (L' := []) (by kernel_rfl) (by kernel_rfl) ?_
    refine seqQ_norm ?_
    refine W_seq (by kernel_rfl) ?_
    refine W_seq (by kernel_rfl) ?_
    refine W_run 3 [] [2, 13, 14, 15] [] (fr' := [(2, aI a2), (13, aD (.slice tI) a1), (14, aI (List.length a1 : Int)), (15, aI (0 : Int))]) (L' := []) (obs := []) (by kernel_rfl) (by kernel_rfl) (by kernel_rfl) allP0 ?_
    refine seqQ_norm ?_
    refine W_block (id := 0) (by kernel_rfl) ?_
    obtain ⟨v26, h27, h⟩ := bind_of h
    refine W_len (t := 13) (u := tI) (xs := a1) (by kernel_rfl) (fun h30 => ?_)
    obtain ⟨h28, h29⟩ := forL_iter h30 h27
    refine W_weaken [2, 13, 14, 15] [] (fr' := ((ref_HaveCheck_s2 a1 a2) ((0 : Int), ())).1) (L' := ((ref_HaveCheck_s2 a1 a2) ((0 : Int), ())).2) (by kernel_rfl) ?_
    refine W_cutK (W_loop (S := (ref_HaveCheck_s2 a1 a2)) (J := (escQ (exQ .ret ref_HaveCheck_s3) (exQ (.exit 0) (ref_HaveCheck_s4 a2)))) (by kernel_rfl) ?_ h28 _ v26 h29) ?_
    · rintro ⟨i16, x17⟩ s h
      refine W_seq (by kernel_rfl) ?_
      refine W_run 1 [] [2, 13, 14, 15, 16] [] (fr' := [(2, aI a2), (13, aD (.slice tI) a1), (14, aI (List.length a1 : Int)), (15, aI i16), (16, aB (decide (i16 < (List.length a1 : Int))))]) (L' := []) (obs := []) (by kernel_rfl) (by kernel_rfl) (by kernel_rfl) allP0 ?_
      refine seqQ_norm ?_
      refine W_seq (by kernel_rfl) ?_
      refine W_cond (o := .tmp 16) (b := decide (i16 < (List.length a1 : Int))) (by kernel_rfl) (by kernel_rfl) (fun h21 => ?_) (fun h21 => ?_)
      · replace h := stepL_true h21 h
        obtain ⟨v19, _, h20, h, rfl⟩ := h
        refine W_skip [2, 13, 14, 15] [] (fr' := [(2, aI a2), (13, aD (.slice tI) a1), (14, aI (List.length a1 : Int)), (15, aI i16)]) (L' := []) (by kernel_rfl) (by kernel_rfl) ?_
        refine seqQ_norm ?_
        refine W_seq (by kernel_rfl) ?_
        refine W_block (id := 1) (by kernel_rfl) ?_
        refine W_seq (by kernel_rfl) ?_
        refine W_run 3 [(1, .val (.dat tI v19))] [2, 8, 13, 14, 15] [] (fr' := [(2, aI a2), (8, aI v19), (13, aD (.slice tI) a1), (14, aI (List.length a1 : Int)), (15, aI i16)]) (L' := []) (obs := [Idx a1 i16 v19]) (by kernel_rfl) (by kernel_rfl) (by kernel_rfl) (allP1 (Idx.of h20)) ?_
        refine seqQ_norm ?_
        refine W_seq (by kernel_rfl) ?_
        refine W_region (by kernel_rfl) ?_
        refine WO_run (j := 1) (k := 1) (orcs := []) (kF := [2, 13, 14, 15, 19]) (kL := []) (fr' := [(2, aI a2), (13, aD (.slice tI) a1), (14, aI (List.length a1 : Int)), (15, aI i16), (19, aI v19)]) (L' := []) (obs := []) rfl (by kernel_rfl) allP0 ?_
        obtain ⟨r22, h23, h⟩ := bind_of h
        refine WO_call0 (us := [none, none, none]) (d := 20) (p := True) (j := 2) rfl ⟨by kernel_rfl, by kernel_rfl, by kernel_rfl⟩ trivial (ref_Within_ok h23) (by kernel_rfl) ?_
        refine WO_run (j := 3) (k := 1) (orcs := []) (kF := [2, 13, 14, 15, 21]) (kL := []) (fr' := [(2, aI a2), (13, aD (.slice tI) a1), (14, aI (List.length a1 : Int)), (15, aI i16), (21, aB (!r22))]) (L' := []) (obs := []) rfl (by kernel_rfl) allP0 ?_
        refine WO_fin [2, 13, 14, 15, 21] [] (fr' := [(2, aI a2), (13, aD (.slice tI) a1), (14, aI (List.length a1 : Int)), (15, aI i16), (21, aB (!r22))]) (L' := []) (by kernel_rfl) (by kernel_rfl) ?_
        refine seqQ_norm ?_
        refine W_cond (o := .tmp 21) (b := !r22) (by kernel_rfl) (by kernel_rfl) (fun h24 => ?_) (fun h24 => ?_)
        · replace h := ofT h24 h
          refine W_seq (by kernel_rfl) ?_
          refine W_run 1 [] [6] [] (fr' := [(6, aI (4 : Int))]) (L' := []) (obs := []) (by kernel_rfl) (by kernel_rfl) (by kernel_rfl) allP0 ?_
          refine seqQ_norm ?_
          obtain rfl := Option.some.inj h
          refine W_ret [6] [] (fr' := [(6, aI (4 : Int))]) (L' := []) (by kernel_rfl) (by kernel_rfl) ?_
          refine blockQ_ret ?_
          refine seqQ_ret ?_
          refine round_ret ?_
          refine escQ_ret ?_
          exact exQ_mk (by kernel_rfl) (by kernel_rfl)
        · replace h := ofF h24 h
          refine W_skip [2, 13, 14, 15] [] (fr' := [(2, aI a2), (13, aD (.slice tI) a1), (14, aI (List.length a1 : Int)), (15, aI i16)]) (L' := []) (by kernel_rfl) (by kernel_rfl) ?_
          refine blockQ_norm ?_
          refine seqQ_norm ?_
          obtain rfl := Option.some.inj h
          refine W_run 2 [] [2, 13, 14, 15] [] (fr' := [(2, aI a2), (13, aD (.slice tI) a1), (14, aI (List.length a1 : Int)), (15, aI (w64 (i16 + (1 : Int))))]) (L' := []) (obs := []) (by kernel_rfl) (by kernel_rfl) (by kernel_rfl) allP0 ?_
          exact round_next' (by kernel_rfl) (by kernel_rfl)
      · obtain rfl := stepL_false h21 h
        refine W_exit (id := 0) [2] [] (fr' := [(2, aI a2)]) (L' := []) (by kernel_rfl) (by kernel_rfl) ?_
        refine seqQ_exit ?_
        refine round_exit ?_
        refine escQ_brk ?_
        exact exQ_mk (by kernel_rfl) (by kernel_rfl)
    · intro e fr L hJ
      rcases v26 with v31 | v32
      · obtain ⟨rfl, rfl, rfl⟩ := hJ
        obtain rfl := Option.some.inj h
        refine LT_keep [6] [] (fr' := [(6, aI v31)]) (L' := []) (by kernel_rfl) ?_
        refine blockQ_ret ?_
        refine seqQ_ret ?_
        exact retQ_mk (by kernel_rfl) (by kernel_rfl) (by kernel_rfl)
      · obtain ⟨rfl, rfl, rfl⟩ := hJ
        refine LT_keep [2] [] (fr' := [(2, aI a2)]) (L' := []) (by kernel_rfl) ?_
        refine blockQ_hit ?_
        refine seqQ_norm ?_
        refine W_seq (by kernel_rfl) ?_
        refine W_seq (by kernel_rfl) ?_
        refine W_region (by kernel_rfl) ?_
        refine WO_run (j := 1) (k := 1) (orcs := []) (kF := [23]) (kL := []) (fr' := [(23, aI a2)]) (L' := []) (obs := []) rfl (by kernel_rfl) allP0 ?_
        obtain ⟨r33, h34, h⟩ := bind_of h
        refine WO_call0 (us := [none, none, none]) (d := 24) (p := True) (j := 2) rfl ⟨by kernel_rfl, by kernel_rfl, by kernel_rfl⟩ trivial (ref_Within_ok h34) (by kernel_rfl) ?_
        refine WO_run (j := 3) (k := 1) (orcs := []) (kF := [25]) (kL := []) (fr' := [(25, aB (!r33))]) (L' := []) (obs := []) rfl (by kernel_rfl) allP0 ?_
        refine WO_fin [25] [] (fr' := [(25, aB (!r33))]) (L' := []) (by kernel_rfl) (by kernel_rfl) ?_
        refine seqQ_norm ?_
        refine W_cond (o := .tmp 25) (b := !r33) (by kernel_rfl) (by kernel_rfl) (fun h35 => ?_) (fun h35 => ?_)
        · replace h := ofT h35 h
          refine W_seq (by kernel_rfl) ?_
          refine W_run 1 [] [6] [] (fr' := [(6, aI (7 : Int))]) (L' := []) (obs := []) (by kernel_rfl) (by kernel_rfl) (by kernel_rfl) allP0 ?_
          refine seqQ_norm ?_
          obtain rfl := Option.some.inj h
          refine W_ret [6] [] (fr' := [(6, aI (7 : Int))]) (L' := []) (by kernel_rfl) (by kernel_rfl) ?_
          refine seqQ_ret ?_
          exact retQ_mk (by kernel_rfl) (by kernel_rfl) (by kernel_rfl)
        · replace h := ofF h35 h
          refine W_skip [] [] (fr' := []) (L' := []) (by kernel_rfl) (by kernel_rfl) ?_
          refine seqQ_norm ?_
          refine W_seq (by kernel_rfl) ?_
          refine W_run 1 [] [6] [] (fr' := [(6, aI (0 : Int))]) (L' := []) (obs := []) (by kernel_rfl) (by kernel_rfl) (by kernel_rfl) allP0 ?_
          refine seqQ_norm ?_
          obtain rfl := Option.some.inj h
          refine W_ret [6] [] (fr' := [(6, aI (0 : Int))]) (L' := []) (by kernel_rfl) (by kernel_rfl) ?_
          exact retQ_mk (by kernel_rfl) (by kernel_rfl) (by kernel_rfl)

noncomputable def ref_Counted_b1 (a0 : (List (Int × (Int × (Int × Int))))) (a3 : Int) (x12 : (Int × Int × (List Int))) : Option (Flow (Int × Int × (List Int)) (Int × Int × (List Int))) :=
bif (decide (x12.2.1 < a3)) && (decide (x12.1 < (List.length a0 : Int))) then
((idx a0 x12.1).bind fun v23 =>
bif v23.1 == (1 : Int) then
((idx x12.2.2 v23.2.1).bind fun v26 =>
some (.next (v23.2.2.1, w64 (x12.2.1 + (1 : Int)), List.set x12.2.2 (Int.toNat v23.2.1) (w64 (v26 + (1 : Int))))))
else
((idx x12.2.2 v23.2.1).bind fun v28 =>
bif decide (v28 > (0 : Int)) then
(some (.next (v23.2.2.1, w64 (x12.2.1 + (1 : Int)), List.set x12.2.2 (Int.toNat v23.2.1) (w64 (v28 - (1 : Int))))))
else
(some (.next (v23.2.2.2, w64 (x12.2.1 + (1 : Int)), x12.2.2)))))
else
(some (.done (x12.1, x12.2.1, x12.2.2)))
@[reducible] noncomputable def ref_Counted_s2 (a0 : (List (Int × (Int × (Int × Int))))) (a3 : Int) (v : (Int × Int × (List Int))) : Fr × LL := ([(0, aD (.slice (.pair tI (.pair tI (.pair tI tI)))) a0), (2, aI v.1), (3, aI a3), (11, .one (.slc 14)), (12, aI v.2.1)], [(14, .seq tI v.2.2)])
@[reducible] noncomputable def ref_Counted_s3 (v : (Int × Int × (List Int))) : Fr × LL := ([(2, aI v.1), (11, .one (.slc 14)), (12, aI v.2.1)], [(14, .seq tI v.2.2)])
noncomputable def ref_Counted (fuel : Nat) (a0 : (List (Int × (Int × (Int × Int))))) (a1 : (List Int)) (a2 : Int) (a3 : Int) : Option ((List Int) × Int × Int) :=
(ck ((0 : Int) + (List.length a1 : Int) ≤ 4294967296)).bind fun _ =>
(iter (ref_Counted_b1 a0 a3) fuel (a2, (0 : Int), [] ++ a1)).bind fun v31 =>
some (v31.2.2, v31.1, v31.2.1)
theorem ref_Counted_ok {fuel : Nat} {a0 : (List (Int × (Int × (Int × Int))))} {a1 : (List Int)} {a2 : Int} {a3 : Int} {r : ((List Int) × Int × Int)} (h : ref_Counted fuel a0 a1 a2 a3 = some r) : FnC Try.prog 17 [aD (.slice (.pair tI (.pair tI (.pair tI tI)))) a0, aD (.slice tI) a1, aI a2, aI a3] [] (.tup [.dat (.slice tI) r.1, .dat tI r.2.1, .dat tI r.2.2]) [] := by
  refine fnC_of_W (B := bodyOf Try.f17) (n := 70) Try.func17 (by kernel_rfl) (by kernel_rfl) (by kernel_rfl) (by kernel_rfl) (by kernel_rfl) ?_
  intro K
  refine W_seq (by kernel_rfl) ?_
  refine W_run 3 [] [0, 1, 2, 3] [] (fr' := [(0, aD (.slice (.pair tI (.pair tI (.pair tI tI)))) a0), (1, aD (.slice tI) a1), (2, aI a2), (3, aI a3)]) (L' := []) (obs := []) (by kernel_rfl) (by kernel_rfl) (by kernel_rfl) allP0 ?_
  refine seqQ_norm ?_
  refine W_seq (by kernel_rfl) ?_
  obtain ⟨_, h1, h⟩ := bind_of h
  replace h1 := ck_some h1
  refine W_run 4 [] [0, 2, 3, 11] [14] (fr' := [(0, aD (.slice (.pair tI (.pair tI (.pair tI tI)))) a0), (2, aI a2), (3, aI a3), (11, .one (.slc 14))]) (L' := [(14, .seq tI ([] ++ a1))]) (obs := [SmallLen (List.length ([] : (List Int)) + List.length a1)]) (by kernel_rfl) (by kernel_rfl) (by kernel_rfl) (allP1 h1) ?_
  refine seqQ_norm ?_
  refine W_seq (by kernel_rfl) ?_
  refine W_run 1 [] [0, 2, 3, 11, 12] [14] (fr' := [(0, aD (.slice (.pair tI (.pair tI (.pair tI tI)))) a0), (2, aI a2), (3, aI a3), (11, .one (.slc 14)), (12, aI (0 : Int))]) (L' := [(14, .seq tI ([] ++ a1))]) (obs := []) (by kernel_rfl) (by kernel_rfl) (by kernel_rfl) allP0 ?_
  refine seqQ_norm ?_
  refine W_seq (by kernel_rfl) ?_
  refine W_block (id := 0) (by kernel_rfl) ?_
  obtain ⟨v31, h32, h⟩ := bind_of h
  refine W_weaken [0, 2, 3, 11, 12] [14] (fr' := ((ref_Counted_s2 a0 a3) (a2, (0 : Int), [] ++ a1)).1) (L' := ((ref_Counted_s2 a0 a3) (a2, (0 : Int), [] ++ a1)).2) (by kernel_rfl) ?_
  refine W_cutK (W_loop (S := (ref_Counted_s2 a0 a3)) (J := (exQ (.exit 0) ref_Counted_s3)) (by kernel_rfl) ?_ fuel _ v31 h32) ?_
  · rintro x12 s h
    refine W_seq (by kernel_rfl) ?_
    refine W_seq (by kernel_rfl) ?_
    refine W_run 9 [] [0, 2, 3, 11, 12, 25] [14] (fr' := [(0, aD (.slice (.pair tI (.pair tI (.pair tI tI)))) a0), (2, aI x12.1), (3, aI a3), (11, .one (.slc 14)), (12, aI x12.2.1), (25, aB ((decide (x12.2.1 < a3)) && (decide (x12.1 < (List.length a0 : Int)))))]) (L' := [(14, .seq tI x12.2.2)]) (obs := []) (by kernel_rfl) (by kernel_rfl) (by kernel_rfl) allP0 ?_
    refine seqQ_norm ?_
    refine W_cond (o := .tmp 25) (b := (decide (x12.2.1 < a3)) && (decide (x12.1 < (List.length a0 : Int)))) (by kernel_rfl) (by kernel_rfl) (fun h22 => ?_) (fun h22 => ?_)
    · replace h := ofT h22 h
      refine W_skip [0, 2, 3, 11, 12] [14] (fr' := [(0, aD (.slice (.pair tI (.pair tI (.pair tI tI)))) a0), (2, aI x12.1), (3, aI a3), (11, .one (.slc 14)), (12, aI x12.2.1)]) (L' := [(14, .seq tI x12.2.2)]) (by kernel_rfl) (by kernel_rfl) ?_
      refine seqQ_norm ?_
      refine W_block (id := 1) (by kernel_rfl) ?_
      refine W_seq (by kernel_rfl) ?_
      obtain ⟨v23, h24, h⟩ := bind_of h
      refine W_run 6 [(5, .val (.dat (.pair tI (.pair tI (.pair tI tI))) v23)), (9, .typed)] [0, 3, 11, 12, 13] [14, 13] (fr' := [(0, aD (.slice (.pair tI (.pair tI (.pair tI tI)))) a0), (3, aI a3), (11, .one (.slc 14)), (12, aI x12.2.1), (13, .one (.ptr 13 0))]) (L' := [(14, .seq tI x12.2.2), (13, .one (.pair tI (.pair tI (.pair tI tI))) v23)]) (obs := [Idx a0 x12.1 v23, True]) (by kernel_rfl) (by kernel_rfl) (by kernel_rfl) (allP2 (Idx.of h24) (allP1 trivial)) ?_
      refine seqQ_norm ?_
      refine W_seq (by kernel_rfl) ?_
      refine W_run 3 [] [0, 3, 11, 12, 13] [14, 13] (fr' := [(0, aD (.slice (.pair tI (.pair tI (.pair tI tI)))) a0), (3, aI a3), (11, .one (.slc 14)), (12, aI (w64 (x12.2.1 + (1 : Int)))), (13, .one (.ptr 13 0))]) (L' := [(14, .seq tI x12.2.2), (13, .one (.pair tI (.pair tI (.pair tI tI))) v23)]) (obs := []) (by kernel_rfl) (by kernel_rfl) (by kernel_rfl) allP0 ?_
      refine seqQ_norm ?_
      refine W_seq (by kernel_rfl) ?_
      refine W_run 3 [] [0, 3, 11, 12, 13, 34] [14, 13] (fr' := [(0, aD (.slice (.pair tI (.pair tI (.pair tI tI)))) a0), (3, aI a3), (11, .one (.slc 14)), (12, aI (w64 (x12.2.1 + (1 : Int)))), (13, .one (.ptr 13 0)), (34, aB (v23.1 == (1 : Int)))]) (L' := [(14, .seq tI x12.2.2), (13, .one (.pair tI (.pair tI (.pair tI tI))) v23)]) (obs := []) (by kernel_rfl) (by kernel_rfl) (by kernel_rfl) allP0 ?_
      refine seqQ_norm ?_
      refine W_cond (o := .tmp 34) (b := v23.1 == (1 : Int)) (by kernel_rfl) (by kernel_rfl) (fun h25 => ?_) (fun h25 => ?_)
      · replace h := ofT h25 h
        refine W_seq (by kernel_rfl) ?_
        obtain ⟨v26, h27, h⟩ := bind_of h
        refine W_draw2 9 [(15, .val (.dat tI v26))] [] [0, 3, 11, 12, 13] [14, 13] (fr' := [(0, aD (.slice (.pair tI (.pair tI (.pair tI tI)))) a0), (3, aI a3), (11, .one (.slc 14)), (12, aI (w64 (x12.2.1 + (1 : Int)))), (13, .one (.ptr 13 0))]) (L' := [(14, .seq tI (List.set x12.2.2 (Int.toNat v23.2.1) (w64 (v26 + (1 : Int))))), (13, .one (.pair tI (.pair tI (.pair tI tI))) v23)]) (out := [(35, .one (.slc 14)), (36, .one (.ptr 13 1)), (37, aI v23.2.1), (38, .one (.slc 14)), (39, .one (.ptr 13 1)), (40, aI v23.2.1), (41, .one (.eptr 14 1 v23.2.1 0)), (42, aI v26), (43, aI (w64 (v26 + (1 : Int))))]) (obs := [InR v23.2.1 (List.length x12.2.2), Idx x12.2.2 v23.2.1 v26]) (obs2 := [InR v23.2.1 (List.length x12.2.2), InR v23.2.1 (List.length x12.2.2)]) (calls := []) (by kernel_rfl) (by kernel_rfl) (by kernel_rfl) (by kernel_rfl) (allP2 (InR.of h27) (allP1 (Idx.of h27))) allC0 (by kernel_rfl) (allP2 (InR.of h27) (allP1 (InR.of h27))) ?_
        refine seqQ_norm ?_
        obtain rfl := Option.some.inj h
        refine W_run 3 [] [0, 2, 3, 11, 12] [14] (fr' := [(0, aD (.slice (.pair tI (.pair tI (.pair tI tI)))) a0), (2, aI v23.2.2.1), (3, aI a3), (11, .one (.slc 14)), (12, aI (w64 (x12.2.1 + (1 : Int))))]) (L' := [(14, .seq tI (List.set x12.2.2 (Int.toNat v23.2.1) (w64 (v26 + (1 : Int)))))]) (obs := []) (by kernel_rfl) (by kernel_rfl) (by kernel_rfl) allP0 ?_
        refine blockQ_norm ?_
        exact round_next' (by kernel_rfl) (by kernel_rfl)
      · replace h := ofF h25 h
        refine W_seq (by kernel_rfl) ?_
        obtain ⟨v28, h29, h⟩ := bind_of h
        refine W_run 6 [(9, .val (.dat tI v28))] [0, 3, 11, 12, 13, 52] [14, 13] (fr' := [(0, aD (.slice (.pair tI (.pair tI (.pair tI tI)))) a0), (3, aI a3), (11, .one (.slc 14)), (12, aI (w64 (x12.2.1 + (1 : Int)))), (13, .one (.ptr 13 0)), (52, aB (decide (v28 > (0 : Int))))]) (L' := [(14, .seq tI x12.2.2), (13, .one (.pair tI (.pair tI (.pair tI tI))) v23)]) (obs := [InR v23.2.1 (List.length x12.2.2), Idx x12.2.2 v23.2.1 v28]) (by kernel_rfl) (by kernel_rfl) (by kernel_rfl) (allP2 (InR.of h29) (allP1 (Idx.of h29))) ?_
        refine seqQ_norm ?_
        refine W_cond (o := .tmp 52) (b := decide (v28 > (0 : Int))) (by kernel_rfl) (by kernel_rfl) (fun h30 => ?_) (fun h30 => ?_)
        · replace h := ofT h30 h
          refine W_seq (by kernel_rfl) ?_
          refine W_draw2 9 [(15, .val (.dat tI v28))] [] [0, 3, 11, 12, 13] [14, 13] (fr' := [(0, aD (.slice (.pair tI (.pair tI (.pair tI tI)))) a0), (3, aI a3), (11, .one (.slc 14)), (12, aI (w64 (x12.2.1 + (1 : Int)))), (13, .one (.ptr 13 0))]) (L' := [(14, .seq tI (List.set x12.2.2 (Int.toNat v23.2.1) (w64 (v28 - (1 : Int))))), (13, .one (.pair tI (.pair tI (.pair tI tI))) v23)]) (out := [(53, .one (.slc 14)), (54, .one (.ptr 13 1)), (55, aI v23.2.1), (56, .one (.slc 14)), (57, .one (.ptr 13 1)), (58, aI v23.2.1), (59, .one (.eptr 14 1 v23.2.1 0)), (60, aI v28), (61, aI (w64 (v28 - (1 : Int))))]) (obs := [InR v23.2.1 (List.length x12.2.2), Idx x12.2.2 v23.2.1 v28]) (obs2 := [InR v23.2.1 (List.length x12.2.2), InR v23.2.1 (List.length x12.2.2)]) (calls := []) (by kernel_rfl) (by kernel_rfl) (by kernel_rfl) (by kernel_rfl) (allP2 (InR.of h29) (allP1 (Idx.of h29))) allC0 (by kernel_rfl) (allP2 (InR.of h29) (allP1 (InR.of h29))) ?_
          refine seqQ_norm ?_
          obtain rfl := Option.some.inj h
          refine W_run 3 [] [0, 2, 3, 11, 12] [14] (fr' := [(0, aD (.slice (.pair tI (.pair tI (.pair tI tI)))) a0), (2, aI v23.2.2.1), (3, aI a3), (11, .one (.slc 14)), (12, aI (w64 (x12.2.1 + (1 : Int))))]) (L' := [(14, .seq tI (List.set x12.2.2 (Int.toNat v23.2.1) (w64 (v28 - (1 : Int)))))]) (obs := []) (by kernel_rfl) (by kernel_rfl) (by kernel_rfl) allP0 ?_
          refine blockQ_norm ?_
          exact round_next' (by kernel_rfl) (by kernel_rfl)
        · replace h := ofF h30 h
          obtain rfl := Option.some.inj h
          refine W_run 3 [] [0, 2, 3, 11, 12] [14] (fr' := [(0, aD (.slice (.pair tI (.pair tI (.pair tI tI)))) a0), (2, aI v23.2.2.2), (3, aI a3), (11, .one (.slc 14)), (12, aI (w64 (x12.2.1 + (1 : Int))))]) (L' := [(14, .seq tI x12.2.2)]) (obs := []) (by kernel_rfl) (by kernel_rfl) (by kernel_rfl) allP0 ?_
          refine blockQ_norm ?_
          exact round_next' (by kernel_rfl) (by kernel_rfl)
    · replace h := ofF h22 h
      obtain rfl := Option.some.inj h
      refine W_exit (id := 0) [2, 11, 12] [14] (fr' := [(2, aI x12.1), (11, .one (.slc 14)), (12, aI x12.2.1)]) (L' := [(14, .seq tI x12.2.2)]) (by kernel_rfl) (by kernel_rfl) ?_
      refine seqQ_exit ?_
      refine round_exit ?_
      exact exQ_mk (by kernel_rfl) (by kernel_rfl)
  · intro e fr L hJ
    obtain ⟨rfl, rfl, rfl⟩ := hJ
    refine LT_keep [2, 11, 12] [14] (fr' := [(2, aI v31.1), (11, .one (.slc 14)), (12, aI v31.2.1)]) (L' := [(14, .seq tI v31.2.2)]) (by kernel_rfl) ?_
    refine blockQ_hit ?_
    refine seqQ_norm ?_
    refine W_seq (by kernel_rfl) ?_
    refine W_run 6 [] [8, 9, 10] [14] (fr' := [(8, .one (.slc 14)), (9, aI v31.1), (10, aI v31.2.1)]) (L' := [(14, .seq tI v31.2.2)]) (obs := []) (by kernel_rfl) (by kernel_rfl) (by kernel_rfl) allP0 ?_
    refine seqQ_norm ?_
    obtain rfl := Option.some.inj h
    refine W_frz 14 (by kernel_rfl) ?_
    refine W_ret [8, 9, 10] [] (fr' := [(8, aD (.slice tI) v31.2.2), (9, aI v31.1), (10, aI v31.2.1)]) (L' := []) (by kernel_rfl) (by kernel_rfl) ?_
    exact retQ_mk (by kernel_rfl) (by kernel_rfl) (by kernel_rfl)

noncomputable def ref_Ints_b1 (a1 : (List Int)) (i16 : Int) (v19 : Int) (x17 : Unit) : Option (Flow Unit (Esc Bool Unit)) :=
(idx a1 i16).bind fun v22 =>
bif v19 != v22 then
(some (.done (.ret false)))
else
(some (.next ()))
@[reducible] noncomputable def ref_Ints_s2 (a0 : (List Int)) (a1 : (List Int)) (v : Int × Unit) : Fr × LL := ([(0, aD (.slice tI) a0), (1, aD (.slice tI) a1), (5, aI v.1)], [])
@[reducible] noncomputable def ref_Ints_s3 (v : Bool) : Fr × LL := ([(4, aB v)], [])
@[reducible] noncomputable def ref_Ints_s4 (v : Unit) : Fr × LL := ([], [])
noncomputable def ref_Ints (a0 : (List Int)) (a1 : (List Int)) : Option Bool :=
bif (List.length a0 : Int) != (List.length a1 : Int) then
(some false)
else
((forL (ref_Ints_b1 a1) (fun x17 => (.brk ())) a0 0 ()).bind fun v26 =>
match v26 with
| .ret v31 =>
(some v31)
| .brk v32 =>
(some true))
theorem ref_Ints_ok {a0 : (List Int)} {a1 : (List Int)} {r : Bool} (h : ref_Ints a0 a1 = some r) : FnC Try.prog 18 [aD (.slice tI) a0, aD (.slice tI) a1] [] (aB r) [] := by
  refine fnC_of_W (B := bodyOf Try.f18) (n := 26) Try.func18 (by kernel_rfl) (by kernel_rfl) (by kernel_rfl) (by kernel_rfl) (by kernel_rfl) ?_
  intro K
  refine W_seq (by kernel_rfl) ?_
  refine W_run 1 [] [0, 1] [] (fr' := [(0, aD (.slice tI) a0), (1, aD (.slice tI) a1)]) (L' := []) (obs := []) (by kernel_rfl) (by kernel_rfl) (by kernel_rfl) allP0 ?_
  refine seqQ_norm ?_
  refine W_seq (by kernel_rfl) ?_
  refine W_seq (by kernel_rfl) ?_
  refine W_run 5 [] [0, 1, 10] [] (fr' := [(0, aD (.slice tI) a0), (1, aD (.slice tI) a1), (10, aB ((List.length a0 : Int) != (List.length a1 : Int)))]) (L' := []) (obs := []) (by kernel_rfl) (by kernel_rfl) (by kernel_rfl) allP0 ?_
  refine seqQ_norm ?_
  refine W_cond (o := .tmp 10) (b := (List.length a0 : Int) != (List.length a1 : Int)) (by kernel_rfl) (by kernel_rfl) (fun h1 => ?_) (fun h1 => ?_)
  · replace h := ofT h1 h
    refine W_seq (by kernel_rfl) ?_
    refine W_run 1 [] [4] [] (fr' := [(4, aB false)]) (L' := []) (obs := []) (by kernel_rfl) (by kernel_rfl) (by kernel_rfl) allP0 ?_
    refine seqQ_norm ?_
    obtain rfl := Option.some.inj h
    refine W_ret [4] [] (fr' := [(4, aB false)]) (L' := []) (by kernel_rfl) (by kernel_rfl) ?_
    refine seqQ_ret ?_
    exact retQ_mk (by kernel_rfl) (by kernel_rfl) (by kernel_rfl)
  · replace h := ofF h1 h
    refine W_skip [0, 1] [] (fr' := [(0, aD (.slice tI) a0), (1, aD (.slice tI) a1)]) (L' := []) (by kernel_rfl) (by kernel_rfl) ?_
    refine seqQ_norm ?_
    refine W_seq (by kernel_rfl) ?_
    refine W_seq (by kernel_rfl) ?_
    refine W_run 1 [] [0, 1, 5] [] (fr' := [(0, aD (.slice tI) a0), (1, aD (.slice tI) a1), (5, aI (0 : Int))]) (L' := []) (obs := []) (by kernel_rfl) (by kernel_rfl) (by kernel_rfl) allP0 ?_
    refine seqQ_norm ?_
    refine W_block (id := 0) (by kernel_rfl) ?_
    obtain ⟨v26, h27, h⟩ := bind_of h
    refine W_len (t := 0) (u := tI) (xs := a0) (by kernel_rfl) (fun h30 => ?_)
    obtain ⟨h28, h29⟩ := forL_iter h30 h27
    refine W_weaken [0, 1, 5] [] (fr' := ((ref_Ints_s2 a0 a1) ((0 : Int), ())).1) (L' := ((ref_Ints_s2 a0 a1) ((0 : Int), ())).2) (by kernel_rfl) ?_
    refine W_cutK (W_loop (S := (ref_Ints_s2 a0 a1)) (J := (escQ (exQ .ret ref_Ints_s3) (exQ (.exit 0) ref_Ints_s4))) (by kernel_rfl) ?_ h28 _ v26 h29) ?_
    · rintro ⟨i16, x17⟩ s h
      refine W_seq (by kernel_rfl) ?_
      refine W_seq (by kernel_rfl) ?_
      refine W_run 4 [] [0, 1, 5, 14] [] (fr' := [(0, aD (.slice tI) a0), (1, aD (.slice tI) a1), (5, aI i16), (14, aB (decide (i16 < (List.length a0 : Int))))]) (L' := []) (obs := []) (by kernel_rfl) (by kernel_rfl) (by kernel_rfl) allP0 ?_
      refine seqQ_norm ?_
      refine W_cond (o := .tmp 14) (b := decide (i16 < (List.length a0 : Int))) (by kernel_rfl) (by kernel_rfl) (fun h21 => ?_) (fun h21 => ?_)
      · replace h := stepL_true h21 h
        obtain ⟨v19, _, h20, h, rfl⟩ := h
        refine W_skip [0, 1, 5] [] (fr' := [(0, aD (.slice tI) a0), (1, aD (.slice tI) a1), (5, aI i16)]) (L' := []) (by kernel_rfl) (by kernel_rfl) ?_
        refine seqQ_norm ?_
        refine W_seq (by kernel_rfl) ?_
        refine W_block (id := 1) (by kernel_rfl) ?_
        refine W_seq (by kernel_rfl) ?_
        obtain ⟨v22, h23, h⟩ := bind_of h
        refine W_draw2 9 [(5, .val (.dat tI v19)), (13, .val (.dat tI v22))] [] [0, 1, 5, 25] [] (fr' := [(0, aD (.slice tI) a0), (1, aD (.slice tI) a1), (5, aI i16), (25, aB (v19 != v22))]) (L' := []) (out := [(17, aD (.slice tI) a0), (18, aI i16), (19, .one (.dptr tI v19)), (20, aI v19), (21, aD (.slice tI) a1), (22, aI i16), (23, .one (.dptr tI v22)), (24, aI v22), (25, aB (v19 != v22))]) (obs := [Idx a0 i16 v19, Idx a1 i16 v22]) (obs2 := []) (calls := []) (by kernel_rfl) (by kernel_rfl) (by kernel_rfl) (by kernel_rfl) (allP2 (Idx.of h20) (allP1 (Idx.of h23))) allC0 (by kernel_rfl) allP0 ?_
        refine seqQ_norm ?_
        refine W_cond (o := .tmp 25) (b := v19 != v22) (by kernel_rfl) (by kernel_rfl) (fun h24 => ?_) (fun h24 => ?_)
        · replace h := ofT h24 h
          refine W_seq (by kernel_rfl) ?_
          refine W_run 1 [] [4] [] (fr' := [(4, aB false)]) (L' := []) (obs := []) (by kernel_rfl) (by kernel_rfl) (by kernel_rfl) allP0 ?_
          refine seqQ_norm ?_
          obtain rfl := Option.some.inj h
          refine W_ret [4] [] (fr' := [(4, aB false)]) (L' := []) (by kernel_rfl) (by kernel_rfl) ?_
          refine blockQ_ret ?_
          refine seqQ_ret ?_
          refine round_ret ?_
          refine escQ_ret ?_
          exact exQ_mk (by kernel_rfl) (by kernel_rfl)
        · replace h := ofF h24 h
          refine W_skip [0, 1, 5] [] (fr' := [(0, aD (.slice tI) a0), (1, aD (.slice tI) a1), (5, aI i16)]) (L' := []) (by kernel_rfl) (by kernel_rfl) ?_
          refine blockQ_norm ?_
          refine seqQ_norm ?_
          obtain rfl := Option.some.inj h
          refine W_run 3 [] [0, 1, 5] [] (fr' := [(0, aD (.slice tI) a0), (1, aD (.slice tI) a1), (5, aI (w64 (i16 + (1 : Int))))]) (L' := []) (obs := []) (by kernel_rfl) (by kernel_rfl) (by kernel_rfl) allP0 ?_
          exact round_next' (by kernel_rfl) (by kernel_rfl)
      · obtain rfl := stepL_false h21 h
        refine W_exit (id := 0) [] [] (fr' := []) (L' := []) (by kernel_rfl) (by kernel_rfl) ?_
        refine seqQ_exit ?_
        refine round_exit ?_
        refine escQ_brk ?_
        exact exQ_mk (by kernel_rfl) (by kernel_rfl)
    · intro e fr L hJ
      rcases v26 with v31 | v32
      · obtain ⟨rfl, rfl, rfl⟩ := hJ
        obtain rfl := Option.some.inj h
        refine LT_keep [4] [] (fr' := [(4, aB v31)]) (L' := []) (by kernel_rfl) ?_
        refine blockQ_ret ?_
        refine seqQ_ret ?_
        exact retQ_mk (by kernel_rfl) (by kernel_rfl) (by kernel_rfl)
      · obtain ⟨rfl, rfl, rfl⟩ := hJ
        refine LT_keep [] [] (fr' := []) (L' := []) (by kernel_rfl) ?_
        refine blockQ_hit ?_
        refine seqQ_norm ?_
        refine W_seq (by kernel_rfl) ?_
        refine W_run 1 [] [4] [] (fr' := [(4, aB true)]) (L' := []) (obs := []) (by kernel_rfl) (by kernel_rfl) (by kernel_rfl) allP0 ?_
        refine seqQ_norm ?_
        obtain rfl := Option.some.inj h
        refine W_ret [4] [] (fr' := [(4, aB true)]) (L' := []) (by kernel_rfl) (by kernel_rfl) ?_
        exact retQ_mk (by kernel_rfl) (by kernel_rfl) (by kernel_rfl)

@[reducible] noncomputable def law_CodeRuns_s1 (v : Bool) : Fr × LL := ([(8, aB v)], [])
@[reducible] noncomputable def law_CodeRuns_s2 (a1 : (List Int)) (a2 : (List Int)) (a3 : Int) (r1 : ((List Int) × Int)) (v : Int) : Fr × LL := ([(1, aD (.slice tI) a1), (2, aD (.slice tI) a2), (3, aI a3), (9, aD (.slice tI) r1.1), (10, aI r1.2), (11, aI v)], [])
noncomputable def law_CodeRuns (fuel : Nat) (a0 : Int) (a1 : (List Int)) (a2 : (List Int)) (a3 : Int) : Option Bool :=
(code_Run fuel a0 a1 a2 a3).bind fun r1 =>
(ref_DigitsCheck fuel a0 a1).bind fun r3 =>
(bif r3 == (0 : Int) then
((ref_HaveCheck a0 a2 a3).bind fun r12 =>
some r12)
else
(some r3)).bind fun v14 =>
bif v14 != (0 : Int) then
(some ((r1.2 == v14) && ((List.length r1.1 : Int) == (0 : Int))))
else
((ref_Decoded fuel a1).bind fun r17 =>
(ref_Counted fuel r17.1 a2 (0 : Int) a3).bind fun r19 =>
(bif r1.2 == (0 : Int) then
((ref_Ints r1.1 r19.1).bind fun r28 =>
some r28)
else
(some false)).bind fun v30 =>
some v30)
theorem law_CodeRuns_ok {fuel : Nat} {a0 : Int} {a1 : (List Int)} {a2 : (List Int)} {a3 : Int} {r : Bool} (h : law_CodeRuns fuel a0 a1 a2 a3 = some r) : FnC Try.prog 4 [aI a0, aD (.slice tI) a1, aD (.slice tI) a2, aI a3] [] (aB r) [] := by
  refine fnC_of_W (B := bodyOf Try.f4) (n := 64) Try.func4 (by kernel_rfl) (by kernel_rfl) (by kernel_rfl) (by kernel_rfl) (by kernel_rfl) ?_
  intro K
  refine W_seq (by kernel_rfl) ?_
  refine W_run 1 [] [0, 1, 2, 3] [] (fr' := [(0, aI a0), (1, aD (.slice tI) a1), (2, aD (.slice tI) a2), (3, aI a3)]) (L' := []) (obs := []) (by kernel_rfl) (by kernel_rfl) (by kernel_rfl) allP0 ?_
  refine seqQ_norm ?_
  refine W_seq (by kernel_rfl) ?_
  refine W_region (by kernel_rfl) ?_
  refine WO_run (j := 4) (k := 4) (orcs := []) (kF := [0, 1, 2, 3, 18, 19, 20, 21]) (kL := []) (fr' := [(0, aI a0), (1, aD (.slice tI) a1), (2, aD (.slice tI) a2), (3, aI a3), (18, aI a0), (19, aD (.slice tI) a1), (20, aD (.slice tI) a2), (21, aI a3)]) (L' := []) (obs := []) rfl (by kernel_rfl) allP0 ?_
  obtain ⟨r1, h2, h⟩ := bind_of h
  refine WO_call0 (us := [none, none, none, none]) (d := 22) (p := True) (j := 5) rfl ⟨by kernel_rfl, by kernel_rfl, by kernel_rfl⟩ trivial (code_Run_ok h2) (by kernel_rfl) ?_
  refine WO_run (j := 10) (k := 5) (orcs := []) (kF := [0, 1, 2, 3, 9, 10]) (kL := []) (fr' := [(0, aI a0), (1, aD (.slice tI) a1), (2, aD (.slice tI) a2), (3, aI a3), (9, aD (.slice tI) r1.1), (10, aI r1.2)]) (L' := []) (obs := []) rfl (by kernel_rfl) allP0 ?_
  refine WO_fin [0, 1, 2, 3, 9, 10] [] (fr' := [(0, aI a0), (1, aD (.slice tI) a1), (2, aD (.slice tI) a2), (3, aI a3), (9, aD (.slice tI) r1.1), (10, aI r1.2)]) (L' := []) (by kernel_rfl) (by kernel_rfl) ?_
  refine seqQ_norm ?_
  refine W_seq (by kernel_rfl) ?_
  refine W_region (by kernel_rfl) ?_
  refine WO_run (j := 2) (k := 2) (orcs := []) (kF := [0, 1, 2, 3, 9, 10, 25, 26]) (kL := []) (fr' := [(0, aI a0), (1, aD (.slice tI) a1), (2, aD (.slice tI) a2), (3, aI a3), (9, aD (.slice tI) r1.1), (10, aI r1.2), (25, aI a0), (26, aD (.slice tI) a1)]) (L' := []) (obs := []) rfl (by kernel_rfl) allP0 ?_
  obtain ⟨r3, h4, h⟩ := bind_of h
  refine WO_call0 (us := [none, none]) (d := 27) (p := True) (j := 3) rfl ⟨by kernel_rfl, by kernel_rfl, by kernel_rfl⟩ trivial (ref_DigitsCheck_ok h4) (by kernel_rfl) ?_
  refine WO_run (j := 4) (k := 1) (orcs := []) (kF := [0, 1, 2, 3, 9, 10, 11]) (kL := []) (fr' := [(0, aI a0), (1, aD (.slice tI) a1), (2, aD (.slice tI) a2), (3, aI a3), (9, aD (.slice tI) r1.1), (10, aI r1.2), (11, aI r3)]) (L' := []) (obs := []) rfl (by kernel_rfl) allP0 ?_
  refine WO_fin [0, 1, 2, 3, 9, 10, 11] [] (fr' := [(0, aI a0), (1, aD (.slice tI) a1), (2, aD (.slice tI) a2), (3, aI a3), (9, aD (.slice tI) r1.1), (10, aI r1.2), (11, aI r3)]) (L' := []) (by kernel_rfl) (by kernel_rfl) ?_
  refine seqQ_norm ?_
  refine W_seq (by kernel_rfl) ?_
  obtain ⟨v14, h15, h⟩ := bind_of h
  refine W_cutK (Q' := (exQ .normal (law_CodeRuns_s2 a1 a2 a3 r1)) v14) ?_ ?_
  · replace h := h15
    refine W_seq (by kernel_rfl) ?_
    refine W_run 2 [] [0, 1, 2, 3, 9, 10, 11, 29] [] (fr' := [(0, aI a0), (1, aD (.slice tI) a1), (2, aD (.slice tI) a2), (3, aI a3), (9, aD (.slice tI) r1.1), (10, aI r1.2), (11, aI r3), (29, aB (r3 == (0 : Int)))]) (L' := []) (obs := []) (by kernel_rfl) (by kernel_rfl) (by kernel_rfl) allP0 ?_
    refine seqQ_norm ?_
    refine W_cond (o := .tmp 29) (b := r3 == (0 : Int)) (by kernel_rfl) (by kernel_rfl) (fun h11 => ?_) (fun h11 => ?_)
    · replace h := ofT h11 h
      refine W_region (by kernel_rfl) ?_
      refine WO_run (j := 3) (k := 3) (orcs := []) (kF := [1, 2, 3, 9, 10, 11, 30, 31, 32]) (kL := []) (fr' := [(1, aD (.slice tI) a1), (2, aD (.slice tI) a2), (3, aI a3), (9, aD (.slice tI) r1.1), (10, aI r1.2), (11, aI r3), (30, aI a0), (31, aD (.slice tI) a2), (32, aI a3)]) (L' := []) (obs := []) rfl (by kernel_rfl) allP0 ?_
      obtain ⟨r12, h13, h⟩ := bind_of h
      refine WO_call0 (us := [none, none, none]) (d := 33) (p := True) (j := 4) rfl ⟨by kernel_rfl, by kernel_rfl, by kernel_rfl⟩ trivial (ref_HaveCheck_ok h13) (by kernel_rfl) ?_
      refine WO_run (j := 5) (k := 1) (orcs := []) (kF := [1, 2, 3, 9, 10, 11]) (kL := []) (fr' := [(1, aD (.slice tI) a1), (2, aD (.slice tI) a2), (3, aI a3), (9, aD (.slice tI) r1.1), (10, aI r1.2), (11, aI r12)]) (L' := []) (obs := []) rfl (by kernel_rfl) allP0 ?_
      obtain rfl := Option.some.inj h
      refine WO_fin [1, 2, 3, 9, 10, 11] [] (fr' := [(1, aD (.slice tI) a1), (2, aD (.slice tI) a2), (3, aI a3), (9, aD (.slice tI) r1.1), (10, aI r1.2), (11, aI r12)]) (L' := []) (by kernel_rfl) (by kernel_rfl) ?_
      exact exQ_mk (by kernel_rfl) (by kernel_rfl)
    · replace h := ofF h11 h
      obtain rfl := Option.some.inj h
      refine W_skip [1, 2, 3, 9, 10, 11] [] (fr' := [(1, aD (.slice tI) a1), (2, aD (.slice tI) a2), (3, aI a3), (9, aD (.slice tI) r1.1), (10, aI r1.2), (11, aI r3)]) (L' := []) (by kernel_rfl) (by kernel_rfl) ?_
      exact exQ_mk (by kernel_rfl) (by kernel_rfl)
  · intro e fr L hJ
    obtain ⟨rfl, rfl, rfl⟩ := hJ
    refine LT_keep [1, 2, 3, 9, 10, 11] [] (fr' := [(1, aD (.slice tI) a1), (2, aD (.slice tI) a2), (3, aI a3), (9, aD (.slice tI) r1.1), (10, aI r1.2), (11, aI v14)]) (L' := []) (by kernel_rfl) ?_
    refine seqQ_norm ?_
    refine W_seq (by kernel_rfl) ?_
    refine W_seq (by kernel_rfl) ?_
    refine W_run 2 [] [1, 2, 3, 9, 10, 11, 35] [] (fr' := [(1, aD (.slice tI) a1), (2, aD (.slice tI) a2), (3, aI a3), (9, aD (.slice tI) r1.1), (10, aI r1.2), (11, aI v14), (35, aB (v14 != (0 : Int)))]) (L' := []) (obs := []) (by kernel_rfl) (by kernel_rfl) (by kernel_rfl) allP0 ?_
    refine seqQ_norm ?_
    refine W_cond (o := .tmp 35) (b := v14 != (0 : Int)) (by kernel_rfl) (by kernel_rfl) (fun h16 => ?_) (fun h16 => ?_)
    · replace h := ofT h16 h
      refine W_seq (by kernel_rfl) ?_
      refine W_run 9 [] [8] [] (fr' := [(8, aB ((r1.2 == v14) && ((List.length r1.1 : Int) == (0 : Int))))]) (L' := []) (obs := []) (by kernel_rfl) (by kernel_rfl) (by kernel_rfl) allP0 ?_
      refine seqQ_norm ?_
      obtain rfl := Option.some.inj h
      refine W_ret [8] [] (fr' := [(8, aB ((r1.2 == v14) && ((List.length r1.1 : Int) == (0 : Int))))]) (L' := []) (by kernel_rfl) (by kernel_rfl) ?_
      refine seqQ_ret ?_
      exact retQ_mk (by kernel_rfl) (by kernel_rfl) (by kernel_rfl)
    · replace h := ofF h16 h
      refine W_skip [1, 2, 3, 9, 10] [] (fr' := [(1, aD (.slice tI) a1), (2, aD (.slice tI) a2), (3, aI a3), (9, aD (.slice tI) r1.1), (10, aI r1.2)]) (L' := []) (by kernel_rfl) (by kernel_rfl) ?_
      refine seqQ_norm ?_
      refine W_seq (by kernel_rfl) ?_
      refine W_region (by kernel_rfl) ?_
      refine WO_run (j := 1) (k := 1) (orcs := []) (kF := [2, 3, 9, 10, 45]) (kL := []) (fr' := [(2, aD (.slice tI) a2), (3, aI a3), (9, aD (.slice tI) r1.1), (10, aI r1.2), (45, aD (.slice tI) a1)]) (L' := []) (obs := []) rfl (by kernel_rfl) allP0 ?_
      obtain ⟨r17, h18, h⟩ := bind_of h
      refine WO_call0 (us := [none]) (d := 46) (p := True) (j := 2) rfl ⟨by kernel_rfl, by kernel_rfl, by kernel_rfl⟩ trivial (ref_Decoded_ok h18) (by kernel_rfl) ?_
      refine WO_run (j := 7) (k := 5) (orcs := []) (kF := [2, 3, 9, 10, 12]) (kL := []) (fr' := [(2, aD (.slice tI) a2), (3, aI a3), (9, aD (.slice tI) r1.1), (10, aI r1.2), (12, aD (.slice (.pair tI (.pair tI (.pair tI tI)))) r17.1)]) (L' := []) (obs := []) rfl (by kernel_rfl) allP0 ?_
      refine WO_fin [2, 3, 9, 10, 12] [] (fr' := [(2, aD (.slice tI) a2), (3, aI a3), (9, aD (.slice tI) r1.1), (10, aI r1.2), (12, aD (.slice (.pair tI (.pair tI (.pair tI tI)))) r17.1)]) (L' := []) (by kernel_rfl) (by kernel_rfl) ?_
      refine seqQ_norm ?_
      refine W_seq (by kernel_rfl) ?_
      refine W_region (by kernel_rfl) ?_
      refine WO_run (j := 3) (k := 3) (orcs := []) (kF := [9, 10, 50, 51, 52]) (kL := []) (fr' := [(9, aD (.slice tI) r1.1), (10, aI r1.2), (50, aD (.slice (.pair tI (.pair tI (.pair tI tI)))) r17.1), (51, aD (.slice tI) a2), (52, aI a3)]) (L' := []) (obs := []) rfl (by kernel_rfl) allP0 ?_
      obtain ⟨r19, h20, h⟩ := bind_of h
      refine WO_call0 (us := [none, none, none, none]) (d := 53) (p := True) (j := 4) rfl ⟨by kernel_rfl, by kernel_rfl, by kernel_rfl⟩ trivial (ref_Counted_ok h20) (by kernel_rfl) ?_
      refine WO_run (j := 11) (k := 7) (orcs := []) (kF := [9, 10, 14]) (kL := []) (fr' := [(9, aD (.slice tI) r1.1), (10, aI r1.2), (14, aD (.slice tI) r19.1)]) (L' := []) (obs := []) rfl (by kernel_rfl) allP0 ?_
      refine WO_fin [9, 10, 14] [] (fr' := [(9, aD (.slice tI) r1.1), (10, aI r1.2), (14, aD (.slice tI) r19.1)]) (L' := []) (by kernel_rfl) (by kernel_rfl) ?_
      refine seqQ_norm ?_
      refine W_seq (by kernel_rfl) ?_
      obtain ⟨v30, h31, h⟩ := bind_of h
      refine W_cutK (Q' := (exQ .normal law_CodeRuns_s1) v30) ?_ ?_
      · replace h := h31
        refine W_region (by kernel_rfl) ?_
        refine WO_run (j := 3) (k := 3) (orcs := []) (kF := [9, 14, 59]) (kL := []) (fr' := [(9, aD (.slice tI) r1.1), (14, aD (.slice tI) r19.1), (59, aB (r1.2 == (0 : Int)))]) (L' := []) (obs := []) rfl (by kernel_rfl) allP0 ?_
        rcases Bool.eq_false_or_eq_true (r1.2 == (0 : Int)) with h27 | h27
        · replace h := ofT h27 h
          refine WO_run (j := 5) (k := 2) (orcs := [(6, .known true), (8, .known true)]) (kF := [59, 60, 61]) (kL := []) (fr' := [(59, aB (r1.2 == (0 : Int))), (60, aD (.slice tI) r1.1), (61, aD (.slice tI) r19.1)]) (L' := []) (obs := [((r1.2 == (0 : Int)) = true), ((r1.2 == (0 : Int)) = true)]) rfl (by kernel_rfl) (allP2 h27 (allP1 h27)) ?_
          obtain ⟨r28, h29, h⟩ := bind_of h
          refine WO_call0 (us := [none, none]) (d := 62) (p := ((r1.2 == (0 : Int)) = true)) (j := 6) rfl ⟨by kernel_rfl, by kernel_rfl, by kernel_rfl⟩ h27 (ref_Ints_ok h29) (by kernel_rfl) ?_
          refine WO_run (j := 8) (k := 2) (orcs := [(13, .val (.dat .bool true))]) (kF := [8]) (kL := []) (fr' := [(8, aB r28)]) (L' := []) (obs := [((r1.2 == (0 : Int)) = true)]) rfl (by kernel_rfl) (allP1 h27) ?_
          obtain rfl := Option.some.inj h
          refine WO_fin [8] [] (fr' := [(8, aB r28)]) (L' := []) (by kernel_rfl) (by kernel_rfl) ?_
          exact exQ_mk (by kernel_rfl) (by kernel_rfl)
        · replace h := ofF h27 h
          refine WO_run (j := 8) (k := 5) (orcs := [(6, .known false), (8, .known false), (10, .known false), (13, .val (.dat .bool false))]) (kF := [8]) (kL := []) (fr' := [(8, aB false)]) (L' := []) (obs := [((r1.2 == (0 : Int)) = false), ((r1.2 == (0 : Int)) = false), ((r1.2 == (0 : Int)) = false), ((r1.2 == (0 : Int)) = false)]) rfl (by kernel_rfl) (allP2 h27 (allP2 h27 (allP2 h27 (allP1 h27)))) ?_
          obtain rfl := Option.some.inj h
          refine WO_fin [8] [] (fr' := [(8, aB false)]) (L' := []) (by kernel_rfl) (by kernel_rfl) ?_
          exact exQ_mk (by kernel_rfl) (by kernel_rfl)
      · intro e fr L hJ
        obtain ⟨rfl, rfl, rfl⟩ := hJ
        refine LT_keep [8] [] (fr' := [(8, aB v30)]) (L' := []) (by kernel_rfl) ?_
        refine seqQ_norm ?_
        obtain rfl := Option.some.inj h
        refine W_ret [8] [] (fr' := [(8, aB v30)]) (L' := []) (by kernel_rfl) (by kernel_rfl) ?_
        exact retQ_mk (by kernel_rfl) (by kernel_rfl) (by kernel_rfl)
end Go.Proofs.Ytbjfglckfknheaa.codeRuns
