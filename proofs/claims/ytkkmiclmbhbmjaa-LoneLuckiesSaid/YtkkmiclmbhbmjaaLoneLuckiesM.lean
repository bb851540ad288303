/- What the functions that LoneLuckies calls compute, as models, and that they compute it: written by a program of mine. -/
import Derived.Test.YtkkmiclmbhbmjaaProg
import Derived.Test.YtkkmiclmbhbmjaaSl5
set_option linter.all false
set_option maxRecDepth 100000
namespace Go.Proofs.Ytkkmiclmbhbmjaa.loneLuckies
open Go Go.Sl
noncomputable def lone_wrong_1 (a0 : Int) (c0 : Int) : Option Bool :=
(ck (0 ≤ c0)).bind fun _ =>
some ((bShr .u32 a0 c0) != (0 : Int))
theorem lone_wrong_1_ok {a0 : Int} {c0 : Int} {r : Bool} (h : lone_wrong_1 a0 c0 = some r) : FnC Try.prog 76 [aD (.int .u32) a0, .one (.ptr 1000 0)] [(1000, .cells [.dat tI c0])] (aB r) [(1000, .cells [.dat tI c0])] := by
  refine fnC_of_W (B := bodyOf Try.f76) (n := 8) Try.func76 (by kernel_rfl) (by kernel_rfl) (by kernel_rfl) (by kernel_rfl) (by kernel_rfl) ?_
  intro K
  refine W_seq (by kernel_rfl) ?_
  refine W_run 1 [] [0, 1] [1000] (fr' := [(0, aD (.int .u32) a0), (1, .one (.ptr 1000 0))]) (L' := [(1000, .cells [.dat tI c0])]) (obs := []) (by kernel_rfl) (by kernel_rfl) (by kernel_rfl) allP0 ?_
  refine seqQ_norm ?_
  refine W_seq (by kernel_rfl) ?_
  obtain ⟨_, h1, h⟩ := bind_of h
  replace h1 := ck_some h1
  refine W_run 5 [] [3] [1000] (fr' := [(3, aB ((bShr .u32 a0 c0) != (0 : Int)))]) (L' := [(1000, .cells [.dat tI c0])]) (obs := [(0 ≤ c0)]) (by kernel_rfl) (by kernel_rfl) (by kernel_rfl) (allP1 h1) ?_
  refine seqQ_norm ?_
  obtain rfl := Option.some.inj h
  refine W_ret [3] [1000] (fr' := [(3, aB ((bShr .u32 a0 c0) != (0 : Int)))]) (L' := [(1000, .cells [.dat tI c0])]) (by kernel_rfl) (by kernel_rfl) ?_
  exact retQ_mk (by kernel_rfl) (by kernel_rfl) (by kernel_rfl)

noncomputable def slices_IndexFunc_Luint32uint32_with_lone_wrong_1_b1 (c0 : Int) (i15 : Int) (v18 : Int) (x16 : Unit) : Option (Flow Unit (Esc Int Unit)) :=
(lone_wrong_1 v18 c0).bind fun r21 =>
bif r21 then
(some (.done (.ret i15)))
else
(some (.next ()))
@[reducible] noncomputable def slices_IndexFunc_Luint32uint32_with_lone_wrong_1_s2 (a0 : (List Int)) (c0 : Int) (v : Int × Unit) : Fr × LL := ([(0, aD (.slice (.int .u32)) a0), (1, .one (.fn 76 [(1000, 0)])), (7, aI (List.length a0 : Int)), (8, aI v.1)], [(1000, .cells [.dat tI c0])])
@[reducible] noncomputable def slices_IndexFunc_Luint32uint32_with_lone_wrong_1_s3 (c0 : Int) (v : Int) : Fr × LL := ([(4, aI v)], [(1000, .cells [.dat tI c0])])
@[reducible] noncomputable def slices_IndexFunc_Luint32uint32_with_lone_wrong_1_s4 (c0 : Int) (v : Unit) : Fr × LL := ([], [(1000, .cells [.dat tI c0])])
noncomputable def slices_IndexFunc_Luint32uint32_with_lone_wrong_1 (a0 : (List Int)) (c0 : Int) : Option Int :=
(forL (slices_IndexFunc_Luint32uint32_with_lone_wrong_1_b1 c0) (fun x16 => (.brk ())) a0 0 ()).bind fun v25 =>
match v25 with
| .ret v30 =>
(some v30)
| .brk v31 =>
(some (-1 : Int))
theorem slices_IndexFunc_Luint32uint32_with_lone_wrong_1_ok {a0 : (List Int)} {c0 : Int} {r : Int} (h : slices_IndexFunc_Luint32uint32_with_lone_wrong_1 a0 c0 = some r) : FnC Try.prog 77 [aD (.slice (.int .u32)) a0, .one (.fn 76 [(1000, 0)])] [(1000, .cells [.dat tI c0])] (aI r) [(1000, .cells [.dat tI c0])] := by
  refine fnC_of_W (B := bodyOf Try.f77) (n := 19) Try.func77 (by kernel_rfl) (by kernel_rfl) (by kernel_rfl) (by kernel_rfl) (by kernel_rfl) ?_
  intro K
  refine W_seq (by kernel_rfl) ?_
  refine W_run 1 [] [0, 1] [1000] (fr' := [(0, aD (.slice (.int .u32)) a0), (1, .one (.fn 76 [(1000, 0)]))]) (L' := [(1000, .cells [.dat tI c0])]) (obs := []) (by kernel_rfl) (by kernel_rfl) (by kernel_rfl) allP0 ?_
  refine seqQ_norm ?_
  refine W_seq (by kernel_rfl) ?_
  refine W_seq (by kernel_rfl) ?_
  refine W_run 3 [] [0, 1, 7, 8] [1000] (fr' := [(0, aD (.slice (.int .u32)) a0), (1, .one (.fn 76 [(1000, 0)])), (7, aI (List.length a0 : Int)), (8, aI (0 : Int))]) (L' := [(1000, .cells [.dat tI c0])]) (obs := []) (by kernel_rfl) (by kernel_rfl) (by kernel_rfl) allP0 ?_
  refine seqQ_norm ?_
  refine W_block (id := 0) (by kernel_rfl) ?_
  obtain ⟨v25, h26, h⟩ := bind_of h
  refine W_len (t := 0) (u := (.int .u32)) (xs := a0) (by kernel_rfl) (fun h29 => ?_)
  obtain ⟨h27, h28⟩ := forL_iter h29 h26
  refine W_weaken [0, 1, 7, 8] [1000] (fr' := ((slices_IndexFunc_Luint32uint32_with_lone_wrong_1_s2 a0 c0) ((0 : Int), ())).1) (L' := ((slices_IndexFunc_Luint32uint32_with_lone_wrong_1_s2 a0 c0) ((0 : Int), ())).2) (by kernel_rfl) ?_
  refine W_cutK (W_loop (S := (slices_IndexFunc_Luint32uint32_with_lone_wrong_1_s2 a0 c0)) (J := (escQ (exQ .ret (slices_IndexFunc_Luint32uint32_with_lone_wrong_1_s3 c0)) (exQ (.exit 0) (slices_IndexFunc_Luint32uint32_with_lone_wrong_1_s4 c0)))) (by kernel_rfl) ?_ h27 _ v25 h28) ?_
  · rintro ⟨i15, x16⟩ s h
    refine W_seq (by kernel_rfl) ?_
    refine W_run 1 [] [0, 1, 7, 8, 9] [1000] (fr' := [(0, aD (.slice (.int .u32)) a0), (1, .one (.fn 76 [(1000, 0)])), (7, aI (List.length a0 : Int)), (8, aI i15), (9, aB (decide (i15 < (List.length a0 : Int))))]) (L' := [(1000, .cells [.dat tI c0])]) (obs := []) (by kernel_rfl) (by kernel_rfl) (by kernel_rfl) allP0 ?_
    refine seqQ_norm ?_
    refine W_seq (by kernel_rfl) ?_
    refine W_cond (o := .tmp 9) (b := decide (i15 < (List.length a0 : Int))) (by kernel_rfl) (by kernel_rfl) (fun h20 => ?_) (fun h20 => ?_)
    · replace h := stepL_true h20 h
      obtain ⟨v18, _, h19, h, rfl⟩ := h
      refine W_skip [0, 1, 7, 8] [1000] (fr' := [(0, aD (.slice (.int .u32)) a0), (1, .one (.fn 76 [(1000, 0)])), (7, aI (List.length a0 : Int)), (8, aI i15)]) (L' := [(1000, .cells [.dat tI c0])]) (by kernel_rfl) (by kernel_rfl) ?_
      refine seqQ_norm ?_
      refine W_seq (by kernel_rfl) ?_
      refine W_block (id := 1) (by kernel_rfl) ?_
      refine W_seq (by kernel_rfl) ?_
      refine W_run 2 [] [0, 1, 5, 7, 8] [1000] (fr' := [(0, aD (.slice (.int .u32)) a0), (1, .one (.fn 76 [(1000, 0)])), (5, aI i15), (7, aI (List.length a0 : Int)), (8, aI i15)]) (L' := [(1000, .cells [.dat tI c0])]) (obs := []) (by kernel_rfl) (by kernel_rfl) (by kernel_rfl) allP0 ?_
      refine seqQ_norm ?_
      refine W_seq (by kernel_rfl) ?_
      refine W_region (by kernel_rfl) ?_
      refine WO_run (j := 5) (k := 5) (orcs := [(7, .val (.dat (.int .u32) v18))]) (kF := [0, 1, 5, 7, 8, 11, 15]) (kL := [1000]) (fr' := [(0, aD (.slice (.int .u32)) a0), (1, .one (.fn 76 [(1000, 0)])), (5, aI i15), (7, aI (List.length a0 : Int)), (8, aI i15), (11, .one (.fn 76 [(1000, 0)])), (15, aD (.int .u32) v18)]) (L' := [(1000, .cells [.dat tI c0])]) (obs := [Idx a0 i15 v18]) rfl (by kernel_rfl) (allP1 (Idx.of h19)) ?_
      obtain ⟨r21, h22, h⟩ := bind_of h
      refine WO_lend [(1000, 1000)] (us := [none, none]) (d := 16) (p := True) (j := 6) rfl ⟨by kernel_rfl, by kernel_rfl, by kernel_rfl⟩ trivial (lone_wrong_1_ok h22) (by kernel_rfl) (by kernel_rfl) ?_
      refine WO_fin [0, 1, 5, 7, 8, 16] [1000] (fr' := [(0, aD (.slice (.int .u32)) a0), (1, .one (.fn 76 [(1000, 0)])), (5, aI i15), (7, aI (List.length a0 : Int)), (8, aI i15), (16, aB r21)]) (L' := [(1000, .cells [.dat tI c0])]) (by kernel_rfl) (by kernel_rfl) ?_
      refine seqQ_norm ?_
      refine W_cond (o := .tmp 16) (b := r21) (by kernel_rfl) (by kernel_rfl) (fun h23 => ?_) (fun h23 => ?_)
      · replace h := ofT h23 h
        refine W_seq (by kernel_rfl) ?_
        refine W_run 2 [] [4] [1000] (fr' := [(4, aI i15)]) (L' := [(1000, .cells [.dat tI c0])]) (obs := []) (by kernel_rfl) (by kernel_rfl) (by kernel_rfl) allP0 ?_
        refine seqQ_norm ?_
        obtain rfl := Option.some.inj h
        refine W_ret [4] [1000] (fr' := [(4, aI i15)]) (L' := [(1000, .cells [.dat tI c0])]) (by kernel_rfl) (by kernel_rfl) ?_
        refine blockQ_ret ?_
        refine seqQ_ret ?_
        refine round_ret ?_
        refine escQ_ret ?_
        exact exQ_mk (by kernel_rfl) (by kernel_rfl)
      · replace h := ofF h23 h
        refine W_skip [0, 1, 7, 8] [1000] (fr' := [(0, aD (.slice (.int .u32)) a0), (1, .one (.fn 76 [(1000, 0)])), (7, aI (List.length a0 : Int)), (8, aI i15)]) (L' := [(1000, .cells [.dat tI c0])]) (by kernel_rfl) (by kernel_rfl) ?_
        refine blockQ_norm ?_
        refine seqQ_norm ?_
        obtain rfl := Option.some.inj h
        refine W_run 2 [] [0, 1, 7, 8] [1000] (fr' := [(0, aD (.slice (.int .u32)) a0), (1, .one (.fn 76 [(1000, 0)])), (7, aI (List.length a0 : Int)), (8, aI (w64 (i15 + (1 : Int))))]) (L' := [(1000, .cells [.dat tI c0])]) (obs := []) (by kernel_rfl) (by kernel_rfl) (by kernel_rfl) allP0 ?_
        exact round_next' (by kernel_rfl) (by kernel_rfl)
    · obtain rfl := stepL_false h20 h
      refine W_exit (id := 0) [] [1000] (fr' := []) (L' := [(1000, .cells [.dat tI c0])]) (by kernel_rfl) (by kernel_rfl) ?_
      refine seqQ_exit ?_
      refine round_exit ?_
      refine escQ_brk ?_
      exact exQ_mk (by kernel_rfl) (by kernel_rfl)
  · intro e fr L hJ
    rcases v25 with v30 | v31
    · obtain ⟨rfl, rfl, rfl⟩ := hJ
      obtain rfl := Option.some.inj h
      refine LT_keep [4] [1000] (fr' := [(4, aI v30)]) (L' := [(1000, .cells [.dat tI c0])]) (by kernel_rfl) ?_
      refine blockQ_ret ?_
      refine seqQ_ret ?_
      exact retQ_mk (by kernel_rfl) (by kernel_rfl) (by kernel_rfl)
    · obtain ⟨rfl, rfl, rfl⟩ := hJ
      refine LT_keep [] [1000] (fr' := []) (L' := [(1000, .cells [.dat tI c0])]) (by kernel_rfl) ?_
      refine blockQ_hit ?_
      refine seqQ_norm ?_
      refine W_seq (by kernel_rfl) ?_
      refine W_run 1 [] [4] [1000] (fr' := [(4, aI (-1 : Int))]) (L' := [(1000, .cells [.dat tI c0])]) (obs := []) (by kernel_rfl) (by kernel_rfl) (by kernel_rfl) allP0 ?_
      refine seqQ_norm ?_
      obtain rfl := Option.some.inj h
      refine W_ret [4] [1000] (fr' := [(4, aI (-1 : Int))]) (L' := [(1000, .cells [.dat tI c0])]) (by kernel_rfl) (by kernel_rfl) ?_
      exact retQ_mk (by kernel_rfl) (by kernel_rfl) (by kernel_rfl)

noncomputable def slices_ContainsFunc_Luint32uint32_with_lone_wrong_1 (a0 : (List Int)) (c0 : Int) : Option Bool :=
(slices_IndexFunc_Luint32uint32_with_lone_wrong_1 a0 c0).bind fun r1 =>
some (decide (r1 ≥ (0 : Int)))
theorem slices_ContainsFunc_Luint32uint32_with_lone_wrong_1_ok {a0 : (List Int)} {c0 : Int} {r : Bool} (h : slices_ContainsFunc_Luint32uint32_with_lone_wrong_1 a0 c0 = some r) : FnC Try.prog 49 [aD (.slice (.int .u32)) a0, .one (.fn 76 [(1000, 0)])] [(1000, .cells [.dat tI c0])] (aB r) [(1000, .cells [.dat tI c0])] := by
  refine fnC_of_W (B := bodyOf Try.f49) (n := 9) Try.func49 (by kernel_rfl) (by kernel_rfl) (by kernel_rfl) (by kernel_rfl) (by kernel_rfl) ?_
  intro K
  refine W_seq (by kernel_rfl) ?_
  refine W_run 1 [] [0, 1] [1000] (fr' := [(0, aD (.slice (.int .u32)) a0), (1, .one (.fn 76 [(1000, 0)]))]) (L' := [(1000, .cells [.dat tI c0])]) (obs := []) (by kernel_rfl) (by kernel_rfl) (by kernel_rfl) allP0 ?_
  refine seqQ_norm ?_
  refine W_seq (by kernel_rfl) ?_
  refine W_region (by kernel_rfl) ?_
  refine WO_run (j := 2) (k := 2) (orcs := []) (kF := [5, 6]) (kL := [1000]) (fr' := [(5, aD (.slice (.int .u32)) a0), (6, .one (.fn 76 [(1000, 0)]))]) (L' := [(1000, .cells [.dat tI c0])]) (obs := []) rfl (by kernel_rfl) allP0 ?_
  obtain ⟨r1, h2, h⟩ := bind_of h
  refine WO_lend [(1000, 1000)] (us := [none, none]) (d := 7) (p := True) (j := 3) rfl ⟨by kernel_rfl, by kernel_rfl, by kernel_rfl⟩ trivial (slices_IndexFunc_Luint32uint32_with_lone_wrong_1_ok h2) (by kernel_rfl) (by kernel_rfl) ?_
  refine WO_run (j := 5) (k := 2) (orcs := []) (kF := [4]) (kL := [1000]) (fr' := [(4, aB (decide (r1 ≥ (0 : Int))))]) (L' := [(1000, .cells [.dat tI c0])]) (obs := []) rfl (by kernel_rfl) allP0 ?_
  refine WO_fin [4] [1000] (fr' := [(4, aB (decide (r1 ≥ (0 : Int))))]) (L' := [(1000, .cells [.dat tI c0])]) (by kernel_rfl) (by kernel_rfl) ?_
  refine seqQ_norm ?_
  obtain rfl := Option.some.inj h
  refine W_ret [4] [1000] (fr' := [(4, aB (decide (r1 ≥ (0 : Int))))]) (L' := [(1000, .cells [.dat tI c0])]) (by kernel_rfl) (by kernel_rfl) ?_
  exact retQ_mk (by kernel_rfl) (by kernel_rfl) (by kernel_rfl)

noncomputable def lone_wrong_b1 (i16 : Int) (v19 : Int) (x17 : (Option (List (Int × Bool)))) : Option (Flow (Option (List (Int × Bool))) (Esc Int Unit)) :=
bif Option.getD (mGet (deqT (.int .u32)) (Option.getD x17 []) v19) false then
(some (.done (.ret (3 : Int))))
else
((ck (Option.isSome x17 = true)).bind fun _ =>
some (.next (Option.map (fun l => mPut (deqT (.int .u32)) l v19 true) x17)))
@[reducible] noncomputable def lone_wrong_s2 (a1 : (List Int)) (v : Int × (Option (List (Int × Bool)))) : Fr × LL := ([(5, .one (.slc 27)), (28, aD (.slice (.int .u32)) a1), (29, aI (List.length a1 : Int)), (30, aI v.1)], [(27, .map (.int .u32) .bool v.2)])
@[reducible] noncomputable def lone_wrong_s3 (v : Int) : Fr × LL := ([(4, aI v)], [])
@[reducible] noncomputable def lone_wrong_s4 (v : Unit) : Fr × LL := ([], [])
noncomputable def lone_wrong (a0 : Int) (a1 : (List Int)) : Option Int :=
bif (((decide (a0 < (1 : Int))) || (decide (a0 > (5 : Int)))) || (decide ((List.length a1 : Int) < (1 : Int)))) || (decide ((List.length a1 : Int) > (200 : Int))) then
(some (1 : Int))
else
((slices_ContainsFunc_Luint32uint32_with_lone_wrong_1 a1 a0).bind fun r2 =>
bif r2 then
(some (4 : Int))
else
((forL lone_wrong_b1 (fun x17 => (.brk ())) a1 0 (some [] : Option (List (Int × Bool)))).bind fun v25 =>
match v25 with
| .ret v30 =>
(some v30)
| .brk v31 =>
(some (0 : Int))))
theorem lone_wrong_ok {a0 : Int} {a1 : (List Int)} {r : Int} (h : lone_wrong a0 a1 = some r) : FnC Try.prog 48 [aI a0, aD (.slice (.int .u32)) a1] [] (aI r) [] := by
  refine fnC_of_W (B := bodyOf Try.f48) (n := 40) Try.func48 (by kernel_rfl) (by kernel_rfl) (by kernel_rfl) (by kernel_rfl) (by kernel_rfl) ?_
  intro K
  refine W_seq (by kernel_rfl) ?_
  refine W_run 2 [] [1, 2] [2] (fr' := [(1, aD (.slice (.int .u32)) a1), (2, .one (.ptr 2 0))]) (L' := [(2, .cells [.dat tI a0])]) (obs := []) (by kernel_rfl) (by kernel_rfl) (by kernel_rfl) allP0 ?_
  refine seqQ_norm ?_
  refine W_seq (by kernel_rfl) ?_
  refine W_seq (by kernel_rfl) ?_
  refine W_run 16 [] [1, 2, 23] [2] (fr' := [(1, aD (.slice (.int .u32)) a1), (2, .one (.ptr 2 0)), (23, aB ((((decide (a0 < (1 : Int))) || (decide (a0 > (5 : Int)))) || (decide ((List.length a1 : Int) < (1 : Int)))) || (decide ((List.length a1 : Int) > (200 : Int)))))]) (L' := [(2, .cells [.dat tI a0])]) (obs := []) (by kernel_rfl) (by kernel_rfl) (by kernel_rfl) allP0 ?_
  refine seqQ_norm ?_
  refine W_cond (o := .tmp 23) (b := (((decide (a0 < (1 : Int))) || (decide (a0 > (5 : Int)))) || (decide ((List.length a1 : Int) < (1 : Int)))) || (decide ((List.length a1 : Int) > (200 : Int)))) (by kernel_rfl) (by kernel_rfl) (fun h1 => ?_) (fun h1 => ?_)
  · replace h := ofT h1 h
    refine W_seq (by kernel_rfl) ?_
    refine W_run 1 [] [4] [] (fr' := [(4, aI (1 : Int))]) (L' := []) (obs := []) (by kernel_rfl) (by kernel_rfl) (by kernel_rfl) allP0 ?_
    refine seqQ_norm ?_
    obtain rfl := Option.some.inj h
    refine W_ret [4] [] (fr' := [(4, aI (1 : Int))]) (L' := []) (by kernel_rfl) (by kernel_rfl) ?_
    refine seqQ_ret ?_
    exact retQ_mk (by kernel_rfl) (by kernel_rfl) (by kernel_rfl)
  · replace h := ofF h1 h
    refine W_skip [1, 2] [2] (fr' := [(1, aD (.slice (.int .u32)) a1), (2, .one (.ptr 2 0))]) (L' := [(2, .cells [.dat tI a0])]) (by kernel_rfl) (by kernel_rfl) ?_
    refine seqQ_norm ?_
    refine W_seq (by kernel_rfl) ?_
    refine W_seq (by kernel_rfl) ?_
    refine W_region (by kernel_rfl) ?_
    refine WO_run (j := 2) (k := 2) (orcs := []) (kF := [1, 24, 25]) (kL := [2]) (fr' := [(1, aD (.slice (.int .u32)) a1), (24, aD (.slice (.int .u32)) a1), (25, .one (.fn 76 [(2, 0)]))]) (L' := [(2, .cells [.dat tI a0])]) (obs := []) rfl (by kernel_rfl) allP0 ?_
    obtain ⟨r2, h3, h⟩ := bind_of h
    refine WO_lend [(1000, 2)] (us := [none, none]) (d := 26) (p := True) (j := 3) rfl ⟨by kernel_rfl, by kernel_rfl, by kernel_rfl⟩ trivial (slices_ContainsFunc_Luint32uint32_with_lone_wrong_1_ok h3) (by kernel_rfl) (by kernel_rfl) ?_
    refine WO_fin [1, 26] [] (fr' := [(1, aD (.slice (.int .u32)) a1), (26, aB r2)]) (L' := []) (by kernel_rfl) (by kernel_rfl) ?_
    refine seqQ_norm ?_
    refine W_cond (o := .tmp 26) (b := r2) (by kernel_rfl) (by kernel_rfl) (fun h4 => ?_) (fun h4 => ?_)
    · replace h := ofT h4 h
      refine W_seq (by kernel_rfl) ?_
      refine W_run 1 [] [4] [] (fr' := [(4, aI (4 : Int))]) (L' := []) (obs := []) (by kernel_rfl) (by kernel_rfl) (by kernel_rfl) allP0 ?_
      refine seqQ_norm ?_
      obtain rfl := Option.some.inj h
      refine W_ret [4] [] (fr' := [(4, aI (4 : Int))]) (L' := []) (by kernel_rfl) (by kernel_rfl) ?_
      refine seqQ_ret ?_
      exact retQ_mk (by kernel_rfl) (by kernel_rfl) (by kernel_rfl)
    · replace h := ofF h4 h
      refine W_skip [1] [] (fr' := [(1, aD (.slice (.int .u32)) a1)]) (L' := []) (by kernel_rfl) (by kernel_rfl) ?_
      refine seqQ_norm ?_
      refine W_seq (by kernel_rfl) ?_
      refine W_run 2 [] [1, 5] [27] (fr' := [(1, aD (.slice (.int .u32)) a1), (5, .one (.slc 27))]) (L' := [(27, .map (.int .u32) .bool (some [] : Option (List (Int × Bool))))]) (obs := []) (by kernel_rfl) (by kernel_rfl) (by kernel_rfl) allP0 ?_
      refine seqQ_norm ?_
      refine W_seq (by kernel_rfl) ?_
      refine W_seq (by kernel_rfl) ?_
      refine W_run 3 [] [5, 28, 29, 30] [27] (fr' := [(5, .one (.slc 27)), (28, aD (.slice (.int .u32)) a1), (29, aI (List.length a1 : Int)), (30, aI (0 : Int))]) (L' := [(27, .map (.int .u32) .bool (some [] : Option (List (Int × Bool))))]) (obs := []) (by kernel_rfl) (by kernel_rfl) (by kernel_rfl) allP0 ?_
      refine seqQ_norm ?_
      refine W_block (id := 0) (by kernel_rfl) ?_
      obtain ⟨v25, h26, h⟩ := bind_of h
      refine W_len (t := 28) (u := (.int .u32)) (xs := a1) (by kernel_rfl) (fun h29 => ?_)
      obtain ⟨h27, h28⟩ := forL_iter h29 h26
      refine W_weaken [5, 28, 29, 30] [27] (fr' := ((lone_wrong_s2 a1) ((0 : Int), (some [] : Option (List (Int × Bool))))).1) (L' := ((lone_wrong_s2 a1) ((0 : Int), (some [] : Option (List (Int × Bool))))).2) (by kernel_rfl) ?_
      refine W_cutK (W_loop (S := (lone_wrong_s2 a1)) (J := (escQ (exQ .ret lone_wrong_s3) (exQ (.exit 0) lone_wrong_s4))) (by kernel_rfl) ?_ h27 _ v25 h28) ?_
      · rintro ⟨i16, x17⟩ s h
        refine W_seq (by kernel_rfl) ?_
        refine W_run 1 [] [5, 28, 29, 30, 31] [27] (fr' := [(5, .one (.slc 27)), (28, aD (.slice (.int .u32)) a1), (29, aI (List.length a1 : Int)), (30, aI i16), (31, aB (decide (i16 < (List.length a1 : Int))))]) (L' := [(27, .map (.int .u32) .bool x17)]) (obs := []) (by kernel_rfl) (by kernel_rfl) (by kernel_rfl) allP0 ?_
        refine seqQ_norm ?_
        refine W_seq (by kernel_rfl) ?_
        refine W_cond (o := .tmp 31) (b := decide (i16 < (List.length a1 : Int))) (by kernel_rfl) (by kernel_rfl) (fun h21 => ?_) (fun h21 => ?_)
        · replace h := stepL_true h21 h
          obtain ⟨v19, _, h20, h, rfl⟩ := h
          refine W_skip [5, 28, 29, 30] [27] (fr' := [(5, .one (.slc 27)), (28, aD (.slice (.int .u32)) a1), (29, aI (List.length a1 : Int)), (30, aI i16)]) (L' := [(27, .map (.int .u32) .bool x17)]) (by kernel_rfl) (by kernel_rfl) ?_
          refine seqQ_norm ?_
          refine W_seq (by kernel_rfl) ?_
          refine W_block (id := 1) (by kernel_rfl) ?_
          refine W_seq (by kernel_rfl) ?_
          refine W_run 3 [(1, .val (.dat (.int .u32) v19))] [5, 7, 28, 29, 30] [27] (fr' := [(5, .one (.slc 27)), (7, aD (.int .u32) v19), (28, aD (.slice (.int .u32)) a1), (29, aI (List.length a1 : Int)), (30, aI i16)]) (L' := [(27, .map (.int .u32) .bool x17)]) (obs := [Idx a1 i16 v19]) (by kernel_rfl) (by kernel_rfl) (by kernel_rfl) (allP1 (Idx.of h20)) ?_
          refine seqQ_norm ?_
          refine W_seq (by kernel_rfl) ?_
          refine W_seq (by kernel_rfl) ?_
          refine W_run 3 [] [5, 7, 28, 29, 30, 36] [27] (fr' := [(5, .one (.slc 27)), (7, aD (.int .u32) v19), (28, aD (.slice (.int .u32)) a1), (29, aI (List.length a1 : Int)), (30, aI i16), (36, aB (Option.getD (mGet (deqT (.int .u32)) (Option.getD x17 []) v19) false))]) (L' := [(27, .map (.int .u32) .bool x17)]) (obs := []) (by kernel_rfl) (by kernel_rfl) (by kernel_rfl) allP0 ?_
          refine seqQ_norm ?_
          refine W_cond (o := .tmp 36) (b := Option.getD (mGet (deqT (.int .u32)) (Option.getD x17 []) v19) false) (by kernel_rfl) (by kernel_rfl) (fun h22 => ?_) (fun h22 => ?_)
          · replace h := ofT h22 h
            refine W_seq (by kernel_rfl) ?_
            refine W_run 1 [] [4] [] (fr' := [(4, aI (3 : Int))]) (L' := []) (obs := []) (by kernel_rfl) (by kernel_rfl) (by kernel_rfl) allP0 ?_
            refine seqQ_norm ?_
            obtain rfl := Option.some.inj h
            refine W_ret [4] [] (fr' := [(4, aI (3 : Int))]) (L' := []) (by kernel_rfl) (by kernel_rfl) ?_
            refine seqQ_ret ?_
            refine blockQ_ret ?_
            refine seqQ_ret ?_
            refine round_ret ?_
            refine escQ_ret ?_
            exact exQ_mk (by kernel_rfl) (by kernel_rfl)
          · replace h := ofF h22 h
            refine W_skip [5, 7, 28, 29, 30] [27] (fr' := [(5, .one (.slc 27)), (7, aD (.int .u32) v19), (28, aD (.slice (.int .u32)) a1), (29, aI (List.length a1 : Int)), (30, aI i16)]) (L' := [(27, .map (.int .u32) .bool x17)]) (by kernel_rfl) (by kernel_rfl) ?_
            refine seqQ_norm ?_
            obtain ⟨_, h23, h⟩ := bind_of h
            replace h23 := ck_some h23
            refine W_run 3 [] [5, 28, 29, 30] [27] (fr' := [(5, .one (.slc 27)), (28, aD (.slice (.int .u32)) a1), (29, aI (List.length a1 : Int)), (30, aI i16)]) (L' := [(27, .map (.int .u32) .bool (Option.map (fun l => mPut (deqT (.int .u32)) l v19 true) x17))]) (obs := [Option.isSome x17 = true]) (by kernel_rfl) (by kernel_rfl) (by kernel_rfl) (allP1 h23) ?_
            refine blockQ_norm ?_
            refine seqQ_norm ?_
            obtain rfl := Option.some.inj h
            refine W_run 2 [] [5, 28, 29, 30] [27] (fr' := [(5, .one (.slc 27)), (28, aD (.slice (.int .u32)) a1), (29, aI (List.length a1 : Int)), (30, aI (w64 (i16 + (1 : Int))))]) (L' := [(27, .map (.int .u32) .bool (Option.map (fun l => mPut (deqT (.int .u32)) l v19 true) x17))]) (obs := []) (by kernel_rfl) (by kernel_rfl) (by kernel_rfl) allP0 ?_
            exact round_next' (by kernel_rfl) (by kernel_rfl)
        · obtain rfl := stepL_false h21 h
          refine W_exit (id := 0) [] [] (fr' := []) (L' := []) (by kernel_rfl) (by kernel_rfl) ?_
          refine seqQ_exit ?_
          refine round_exit ?_
          refine escQ_brk ?_
          exact exQ_mk (by kernel_rfl) (by kernel_rfl)
      · intro e fr L hJ
        rcases v25 with v30 | v31
        · obtain ⟨rfl, rfl, rfl⟩ := hJ
          obtain rfl := Option.some.inj h
          refine LT_keep [4] [] (fr' := [(4, aI v30)]) (L' := []) (by kernel_rfl) ?_
          refine blockQ_ret ?_
          refine seqQ_ret ?_
          exact retQ_mk (by kernel_rfl) (by kernel_rfl) (by kernel_rfl)
        · obtain ⟨rfl, rfl, rfl⟩ := hJ
          refine LT_keep [] [] (fr' := []) (L' := []) (by kernel_rfl) ?_
          refine blockQ_hit ?_
          refine seqQ_norm ?_
          refine W_seq (by kernel_rfl) ?_
          refine W_run 1 [] [4] [] (fr' := [(4, aI (0 : Int))]) (L' := []) (obs := []) (by kernel_rfl) (by kernel_rfl) (by kernel_rfl) allP0 ?_
          refine seqQ_norm ?_
          obtain rfl := Option.some.inj h
          refine W_ret [4] [] (fr' := [(4, aI (0 : Int))]) (L' := []) (by kernel_rfl) (by kernel_rfl) ?_
          exact retQ_mk (by kernel_rfl) (by kernel_rfl) (by kernel_rfl)

noncomputable def lone_choices (a0 : Int) (a1 : Int) : Option (Int × Int) :=
some (a0, a1)
theorem lone_choices_ok {a0 : Int} {a1 : Int} {r : (Int × Int)} (h : lone_choices a0 a1 = some r) : FnC Try.prog 57 [aI a0, aI a1] [] (.one (.fn 83 [(2, 0), (3, 0)])) [(2, .cells [.dat tI r.1]), (3, .cells [.dat tI r.2])] := by
  refine fnC_of_W (B := bodyOf Try.f57) (n := 6) Try.func57 (by kernel_rfl) (by kernel_rfl) (by kernel_rfl) (by kernel_rfl) (by kernel_rfl) ?_
  intro K
  refine W_seq (by kernel_rfl) ?_
  refine W_run 3 [] [2, 3] [2, 3] (fr' := [(2, .one (.ptr 2 0)), (3, .one (.ptr 3 0))]) (L' := [(2, .cells [.dat tI a0]), (3, .cells [.dat tI a1])]) (obs := []) (by kernel_rfl) (by kernel_rfl) (by kernel_rfl) allP0 ?_
  refine seqQ_norm ?_
  refine W_seq (by kernel_rfl) ?_
  refine W_run 2 [] [4] [2, 3] (fr' := [(4, .one (.fn 83 [(2, 0), (3, 0)]))]) (L' := [(2, .cells [.dat tI a0]), (3, .cells [.dat tI a1])]) (obs := []) (by kernel_rfl) (by kernel_rfl) (by kernel_rfl) allP0 ?_
  refine seqQ_norm ?_
  obtain rfl := Option.some.inj h
  refine W_ret [4] [2, 3] (fr' := [(4, .one (.fn 83 [(2, 0), (3, 0)]))]) (L' := [(2, .cells [.dat tI a0]), (3, .cells [.dat tI a1])]) (by kernel_rfl) (by kernel_rfl) ?_
  exact retQ_mk (by kernel_rfl) (by kernel_rfl) (by kernel_rfl)

noncomputable def math_bits_OnesCount32 (a0 : Int) : Option Int :=
(ck (0 ≤ bShr .u32 a0 (24 : Int) ∧ bShr .u32 a0 (24 : Int) < (ByteArray.size (ByteArray.mk #[0, 1, 1, 2, 1, 2, 2, 3, 1, 2, 2, 3, 2, 3, 3, 4, 1, 2, 2, 3, 2, 3, 3, 4, 2, 3, 3, 4, 3, 4, 4, 5, 1, 2, 2, 3, 2, 3, 3, 4, 2, 3, 3, 4, 3, 4, 4, 5, 2, 3, 3, 4, 3, 4, 4, 5, 3, 4, 4, 5, 4, 5, 5, 6, 1, 2, 2, 3, 2, 3, 3, 4, 2, 3, 3, 4, 3, 4, 4, 5, 2, 3, 3, 4, 3, 4, 4, 5, 3, 4, 4, 5, 4, 5, 5, 6, 2, 3, 3, 4, 3, 4, 4, 5, 3, 4, 4, 5, 4, 5, 5, 6, 3, 4, 4, 5, 4, 5, 5, 6, 4, 5, 5, 6, 5, 6, 6, 7, 1, 2, 2, 3, 2, 3, 3, 4, 2, 3, 3, 4, 3, 4, 4, 5, 2, 3, 3, 4, 3, 4, 4, 5, 3, 4, 4, 5, 4, 5, 5, 6, 2, 3, 3, 4, 3, 4, 4, 5, 3, 4, 4, 5, 4, 5, 5, 6, 3, 4, 4, 5, 4, 5, 5, 6, 4, 5, 5, 6, 5, 6, 6, 7, 2, 3, 3, 4, 3, 4, 4, 5, 3, 4, 4, 5, 4, 5, 5, 6, 3, 4, 4, 5, 4, 5, 5, 6, 4, 5, 5, 6, 5, 6, 6, 7, 3, 4, 4, 5, 4, 5, 5, 6, 4, 5, 5, 6, 5, 6, 6, 7, 4, 5, 5, 6, 5, 6, 6, 7, 5, 6, 6, 7, 6, 7, 7, 8]) : Int))).bind fun _ =>
(ck (0 ≤ bAnd .u32 (bShr .u32 a0 (16 : Int)) (255 : Int) ∧ bAnd .u32 (bShr .u32 a0 (16 : Int)) (255 : Int) < (ByteArray.size (ByteArray.mk #[0, 1, 1, 2, 1, 2, 2, 3, 1, 2, 2, 3, 2, 3, 3, 4, 1, 2, 2, 3, 2, 3, 3, 4, 2, 3, 3, 4, 3, 4, 4, 5, 1, 2, 2, 3, 2, 3, 3, 4, 2, 3, 3, 4, 3, 4, 4, 5, 2, 3, 3, 4, 3, 4, 4, 5, 3, 4, 4, 5, 4, 5, 5, 6, 1, 2, 2, 3, 2, 3, 3, 4, 2, 3, 3, 4, 3, 4, 4, 5, 2, 3, 3, 4, 3, 4, 4, 5, 3, 4, 4, 5, 4, 5, 5, 6, 2, 3, 3, 4, 3, 4, 4, 5, 3, 4, 4, 5, 4, 5, 5, 6, 3, 4, 4, 5, 4, 5, 5, 6, 4, 5, 5, 6, 5, 6, 6, 7, 1, 2, 2, 3, 2, 3, 3, 4, 2, 3, 3, 4, 3, 4, 4, 5, 2, 3, 3, 4, 3, 4, 4, 5, 3, 4, 4, 5, 4, 5, 5, 6, 2, 3, 3, 4, 3, 4, 4, 5, 3, 4, 4, 5, 4, 5, 5, 6, 3, 4, 4, 5, 4, 5, 5, 6, 4, 5, 5, 6, 5, 6, 6, 7, 2, 3, 3, 4, 3, 4, 4, 5, 3, 4, 4, 5, 4, 5, 5, 6, 3, 4, 4, 5, 4, 5, 5, 6, 4, 5, 5, 6, 5, 6, 6, 7, 3, 4, 4, 5, 4, 5, 5, 6, 4, 5, 5, 6, 5, 6, 6, 7, 4, 5, 5, 6, 5, 6, 6, 7, 5, 6, 6, 7, 6, 7, 7, 8]) : Int))).bind fun _ =>
(ck (0 ≤ bAnd .u32 (bShr .u32 a0 (8 : Int)) (255 : Int) ∧ bAnd .u32 (bShr .u32 a0 (8 : Int)) (255 : Int) < (ByteArray.size (ByteArray.mk #[0, 1, 1, 2, 1, 2, 2, 3, 1, 2, 2, 3, 2, 3, 3, 4, 1, 2, 2, 3, 2, 3, 3, 4, 2, 3, 3, 4, 3, 4, 4, 5, 1, 2, 2, 3, 2, 3, 3, 4, 2, 3, 3, 4, 3, 4, 4, 5, 2, 3, 3, 4, 3, 4, 4, 5, 3, 4, 4, 5, 4, 5, 5, 6, 1, 2, 2, 3, 2, 3, 3, 4, 2, 3, 3, 4, 3, 4, 4, 5, 2, 3, 3, 4, 3, 4, 4, 5, 3, 4, 4, 5, 4, 5, 5, 6, 2, 3, 3, 4, 3, 4, 4, 5, 3, 4, 4, 5, 4, 5, 5, 6, 3, 4, 4, 5, 4, 5, 5, 6, 4, 5, 5, 6, 5, 6, 6, 7, 1, 2, 2, 3, 2, 3, 3, 4, 2, 3, 3, 4, 3, 4, 4, 5, 2, 3, 3, 4, 3, 4, 4, 5, 3, 4, 4, 5, 4, 5, 5, 6, 2, 3, 3, 4, 3, 4, 4, 5, 3, 4, 4, 5, 4, 5, 5, 6, 3, 4, 4, 5, 4, 5, 5, 6, 4, 5, 5, 6, 5, 6, 6, 7, 2, 3, 3, 4, 3, 4, 4, 5, 3, 4, 4, 5, 4, 5, 5, 6, 3, 4, 4, 5, 4, 5, 5, 6, 4, 5, 5, 6, 5, 6, 6, 7, 3, 4, 4, 5, 4, 5, 5, 6, 4, 5, 5, 6, 5, 6, 6, 7, 4, 5, 5, 6, 5, 6, 6, 7, 5, 6, 6, 7, 6, 7, 7, 8]) : Int))).bind fun _ =>
(ck (0 ≤ bAnd .u32 a0 (255 : Int) ∧ bAnd .u32 a0 (255 : Int) < (ByteArray.size (ByteArray.mk #[0, 1, 1, 2, 1, 2, 2, 3, 1, 2, 2, 3, 2, 3, 3, 4, 1, 2, 2, 3, 2, 3, 3, 4, 2, 3, 3, 4, 3, 4, 4, 5, 1, 2, 2, 3, 2, 3, 3, 4, 2, 3, 3, 4, 3, 4, 4, 5, 2, 3, 3, 4, 3, 4, 4, 5, 3, 4, 4, 5, 4, 5, 5, 6, 1, 2, 2, 3, 2, 3, 3, 4, 2, 3, 3, 4, 3, 4, 4, 5, 2, 3, 3, 4, 3, 4, 4, 5, 3, 4, 4, 5, 4, 5, 5, 6, 2, 3, 3, 4, 3, 4, 4, 5, 3, 4, 4, 5, 4, 5, 5, 6, 3, 4, 4, 5, 4, 5, 5, 6, 4, 5, 5, 6, 5, 6, 6, 7, 1, 2, 2, 3, 2, 3, 3, 4, 2, 3, 3, 4, 3, 4, 4, 5, 2, 3, 3, 4, 3, 4, 4, 5, 3, 4, 4, 5, 4, 5, 5, 6, 2, 3, 3, 4, 3, 4, 4, 5, 3, 4, 4, 5, 4, 5, 5, 6, 3, 4, 4, 5, 4, 5, 5, 6, 4, 5, 5, 6, 5, 6, 6, 7, 2, 3, 3, 4, 3, 4, 4, 5, 3, 4, 4, 5, 4, 5, 5, 6, 3, 4, 4, 5, 4, 5, 5, 6, 4, 5, 5, 6, 5, 6, 6, 7, 3, 4, 4, 5, 4, 5, 5, 6, 4, 5, 5, 6, 5, 6, 6, 7, 4, 5, 5, 6, 5, 6, 6, 7, 5, 6, 6, 7, 6, 7, 7, 8]) : Int))).bind fun _ =>
some (w64 (IntKind.wrap .u8 ((IntKind.wrap .u8 ((IntKind.wrap .u8 ((sAt (ByteArray.mk #[0, 1, 1, 2, 1, 2, 2, 3, 1, 2, 2, 3, 2, 3, 3, 4, 1, 2, 2, 3, 2, 3, 3, 4, 2, 3, 3, 4, 3, 4, 4, 5, 1, 2, 2, 3, 2, 3, 3, 4, 2, 3, 3, 4, 3, 4, 4, 5, 2, 3, 3, 4, 3, 4, 4, 5, 3, 4, 4, 5, 4, 5, 5, 6, 1, 2, 2, 3, 2, 3, 3, 4, 2, 3, 3, 4, 3, 4, 4, 5, 2, 3, 3, 4, 3, 4, 4, 5, 3, 4, 4, 5, 4, 5, 5, 6, 2, 3, 3, 4, 3, 4, 4, 5, 3, 4, 4, 5, 4, 5, 5, 6, 3, 4, 4, 5, 4, 5, 5, 6, 4, 5, 5, 6, 5, 6, 6, 7, 1, 2, 2, 3, 2, 3, 3, 4, 2, 3, 3, 4, 3, 4, 4, 5, 2, 3, 3, 4, 3, 4, 4, 5, 3, 4, 4, 5, 4, 5, 5, 6, 2, 3, 3, 4, 3, 4, 4, 5, 3, 4, 4, 5, 4, 5, 5, 6, 3, 4, 4, 5, 4, 5, 5, 6, 4, 5, 5, 6, 5, 6, 6, 7, 2, 3, 3, 4, 3, 4, 4, 5, 3, 4, 4, 5, 4, 5, 5, 6, 3, 4, 4, 5, 4, 5, 5, 6, 4, 5, 5, 6, 5, 6, 6, 7, 3, 4, 4, 5, 4, 5, 5, 6, 4, 5, 5, 6, 5, 6, 6, 7, 4, 5, 5, 6, 5, 6, 6, 7, 5, 6, 6, 7, 6, 7, 7, 8]) (bShr .u32 a0 (24 : Int))) + (sAt (ByteArray.mk #[0, 1, 1, 2, 1, 2, 2, 3, 1, 2, 2, 3, 2, 3, 3, 4, 1, 2, 2, 3, 2, 3, 3, 4, 2, 3, 3, 4, 3, 4, 4, 5, 1, 2, 2, 3, 2, 3, 3, 4, 2, 3, 3, 4, 3, 4, 4, 5, 2, 3, 3, 4, 3, 4, 4, 5, 3, 4, 4, 5, 4, 5, 5, 6, 1, 2, 2, 3, 2, 3, 3, 4, 2, 3, 3, 4, 3, 4, 4, 5, 2, 3, 3, 4, 3, 4, 4, 5, 3, 4, 4, 5, 4, 5, 5, 6, 2, 3, 3, 4, 3, 4, 4, 5, 3, 4, 4, 5, 4, 5, 5, 6, 3, 4, 4, 5, 4, 5, 5, 6, 4, 5, 5, 6, 5, 6, 6, 7, 1, 2, 2, 3, 2, 3, 3, 4, 2, 3, 3, 4, 3, 4, 4, 5, 2, 3, 3, 4, 3, 4, 4, 5, 3, 4, 4, 5, 4, 5, 5, 6, 2, 3, 3, 4, 3, 4, 4, 5, 3, 4, 4, 5, 4, 5, 5, 6, 3, 4, 4, 5, 4, 5, 5, 6, 4, 5, 5, 6, 5, 6, 6, 7, 2, 3, 3, 4, 3, 4, 4, 5, 3, 4, 4, 5, 4, 5, 5, 6, 3, 4, 4, 5, 4, 5, 5, 6, 4, 5, 5, 6, 5, 6, 6, 7, 3, 4, 4, 5, 4, 5, 5, 6, 4, 5, 5, 6, 5, 6, 6, 7, 4, 5, 5, 6, 5, 6, 6, 7, 5, 6, 6, 7, 6, 7, 7, 8]) (bAnd .u32 (bShr .u32 a0 (16 : Int)) (255 : Int))))) + (sAt (ByteArray.mk #[0, 1, 1, 2, 1, 2, 2, 3, 1, 2, 2, 3, 2, 3, 3, 4, 1, 2, 2, 3, 2, 3, 3, 4, 2, 3, 3, 4, 3, 4, 4, 5, 1, 2, 2, 3, 2, 3, 3, 4, 2, 3, 3, 4, 3, 4, 4, 5, 2, 3, 3, 4, 3, 4, 4, 5, 3, 4, 4, 5, 4, 5, 5, 6, 1, 2, 2, 3, 2, 3, 3, 4, 2, 3, 3, 4, 3, 4, 4, 5, 2, 3, 3, 4, 3, 4, 4, 5, 3, 4, 4, 5, 4, 5, 5, 6, 2, 3, 3, 4, 3, 4, 4, 5, 3, 4, 4, 5, 4, 5, 5, 6, 3, 4, 4, 5, 4, 5, 5, 6, 4, 5, 5, 6, 5, 6, 6, 7, 1, 2, 2, 3, 2, 3, 3, 4, 2, 3, 3, 4, 3, 4, 4, 5, 2, 3, 3, 4, 3, 4, 4, 5, 3, 4, 4, 5, 4, 5, 5, 6, 2, 3, 3, 4, 3, 4, 4, 5, 3, 4, 4, 5, 4, 5, 5, 6, 3, 4, 4, 5, 4, 5, 5, 6, 4, 5, 5, 6, 5, 6, 6, 7, 2, 3, 3, 4, 3, 4, 4, 5, 3, 4, 4, 5, 4, 5, 5, 6, 3, 4, 4, 5, 4, 5, 5, 6, 4, 5, 5, 6, 5, 6, 6, 7, 3, 4, 4, 5, 4, 5, 5, 6, 4, 5, 5, 6, 5, 6, 6, 7, 4, 5, 5, 6, 5, 6, 6, 7, 5, 6, 6, 7, 6, 7, 7, 8]) (bAnd .u32 (bShr .u32 a0 (8 : Int)) (255 : Int))))) + (sAt (ByteArray.mk #[0, 1, 1, 2, 1, 2, 2, 3, 1, 2, 2, 3, 2, 3, 3, 4, 1, 2, 2, 3, 2, 3, 3, 4, 2, 3, 3, 4, 3, 4, 4, 5, 1, 2, 2, 3, 2, 3, 3, 4, 2, 3, 3, 4, 3, 4, 4, 5, 2, 3, 3, 4, 3, 4, 4, 5, 3, 4, 4, 5, 4, 5, 5, 6, 1, 2, 2, 3, 2, 3, 3, 4, 2, 3, 3, 4, 3, 4, 4, 5, 2, 3, 3, 4, 3, 4, 4, 5, 3, 4, 4, 5, 4, 5, 5, 6, 2, 3, 3, 4, 3, 4, 4, 5, 3, 4, 4, 5, 4, 5, 5, 6, 3, 4, 4, 5, 4, 5, 5, 6, 4, 5, 5, 6, 5, 6, 6, 7, 1, 2, 2, 3, 2, 3, 3, 4, 2, 3, 3, 4, 3, 4, 4, 5, 2, 3, 3, 4, 3, 4, 4, 5, 3, 4, 4, 5, 4, 5, 5, 6, 2, 3, 3, 4, 3, 4, 4, 5, 3, 4, 4, 5, 4, 5, 5, 6, 3, 4, 4, 5, 4, 5, 5, 6, 4, 5, 5, 6, 5, 6, 6, 7, 2, 3, 3, 4, 3, 4, 4, 5, 3, 4, 4, 5, 4, 5, 5, 6, 3, 4, 4, 5, 4, 5, 5, 6, 4, 5, 5, 6, 5, 6, 6, 7, 3, 4, 4, 5, 4, 5, 5, 6, 4, 5, 5, 6, 5, 6, 6, 7, 4, 5, 5, 6, 5, 6, 6, 7, 5, 6, 6, 7, 6, 7, 7, 8]) (bAnd .u32 a0 (255 : Int))))))
theorem math_bits_OnesCount32_ok {a0 : Int} {r : Int} (h : math_bits_OnesCount32 a0 = some r) : FnC Try.prog 79 [aD (.int .u32) a0] [] (aI r) [] := by
  refine fnC_of_W (B := bodyOf Try.f79) (n := 21) Try.func79 (by kernel_rfl) (by kernel_rfl) (by kernel_rfl) (by kernel_rfl) (by kernel_rfl) ?_
  intro K
  refine W_seq (by kernel_rfl) ?_
  refine W_run 1 [] [0] [] (fr' := [(0, aD (.int .u32) a0)]) (L' := []) (obs := []) (by kernel_rfl) (by kernel_rfl) (by kernel_rfl) allP0 ?_
  refine seqQ_norm ?_
  refine W_seq (by kernel_rfl) ?_
  obtain ⟨_, h1, h⟩ := bind_of h
  replace h1 := ck_some h1
  obtain ⟨_, h2, h⟩ := bind_of h
  replace h2 := ck_some h2
  obtain ⟨_, h3, h⟩ := bind_of h
  replace h3 := ck_some h3
  obtain ⟨_, h4, h⟩ := bind_of h
  replace h4 := ck_some h4
  refine W_draw2 18 [] [] [2] [] (fr' := [(2, aI (w64 (IntKind.wrap .u8 ((IntKind.wrap .u8 ((IntKind.wrap .u8 ((sAt (ByteArray.mk #[0, 1, 1, 2, 1, 2, 2, 3, 1, 2, 2, 3, 2, 3, 3, 4, 1, 2, 2, 3, 2, 3, 3, 4, 2, 3, 3, 4, 3, 4, 4, 5, 1, 2, 2, 3, 2, 3, 3, 4, 2, 3, 3, 4, 3, 4, 4, 5, 2, 3, 3, 4, 3, 4, 4, 5, 3, 4, 4, 5, 4, 5, 5, 6, 1, 2, 2, 3, 2, 3, 3, 4, 2, 3, 3, 4, 3, 4, 4, 5, 2, 3, 3, 4, 3, 4, 4, 5, 3, 4, 4, 5, 4, 5, 5, 6, 2, 3, 3, 4, 3, 4, 4, 5, 3, 4, 4, 5, 4, 5, 5, 6, 3, 4, 4, 5, 4, 5, 5, 6, 4, 5, 5, 6, 5, 6, 6, 7, 1, 2, 2, 3, 2, 3, 3, 4, 2, 3, 3, 4, 3, 4, 4, 5, 2, 3, 3, 4, 3, 4, 4, 5, 3, 4, 4, 5, 4, 5, 5, 6, 2, 3, 3, 4, 3, 4, 4, 5, 3, 4, 4, 5, 4, 5, 5, 6, 3, 4, 4, 5, 4, 5, 5, 6, 4, 5, 5, 6, 5, 6, 6, 7, 2, 3, 3, 4, 3, 4, 4, 5, 3, 4, 4, 5, 4, 5, 5, 6, 3, 4, 4, 5, 4, 5, 5, 6, 4, 5, 5, 6, 5, 6, 6, 7, 3, 4, 4, 5, 4, 5, 5, 6, 4, 5, 5, 6, 5, 6, 6, 7, 4, 5, 5, 6, 5, 6, 6, 7, 5, 6, 6, 7, 6, 7, 7, 8]) (bShr .u32 a0 (24 : Int))) + (sAt (ByteArray.mk #[0, 1, 1, 2, 1, 2, 2, 3, 1, 2, 2, 3, 2, 3, 3, 4, 1, 2, 2, 3, 2, 3, 3, 4, 2, 3, 3, 4, 3, 4, 4, 5, 1, 2, 2, 3, 2, 3, 3, 4, 2, 3, 3, 4, 3, 4, 4, 5, 2, 3, 3, 4, 3, 4, 4, 5, 3, 4, 4, 5, 4, 5, 5, 6, 1, 2, 2, 3, 2, 3, 3, 4, 2, 3, 3, 4, 3, 4, 4, 5, 2, 3, 3, 4, 3, 4, 4, 5, 3, 4, 4, 5, 4, 5, 5, 6, 2, 3, 3, 4, 3, 4, 4, 5, 3, 4, 4, 5, 4, 5, 5, 6, 3, 4, 4, 5, 4, 5, 5, 6, 4, 5, 5, 6, 5, 6, 6, 7, 1, 2, 2, 3, 2, 3, 3, 4, 2, 3, 3, 4, 3, 4, 4, 5, 2, 3, 3, 4, 3, 4, 4, 5, 3, 4, 4, 5, 4, 5, 5, 6, 2, 3, 3, 4, 3, 4, 4, 5, 3, 4, 4, 5, 4, 5, 5, 6, 3, 4, 4, 5, 4, 5, 5, 6, 4, 5, 5, 6, 5, 6, 6, 7, 2, 3, 3, 4, 3, 4, 4, 5, 3, 4, 4, 5, 4, 5, 5, 6, 3, 4, 4, 5, 4, 5, 5, 6, 4, 5, 5, 6, 5, 6, 6, 7, 3, 4, 4, 5, 4, 5, 5, 6, 4, 5, 5, 6, 5, 6, 6, 7, 4, 5, 5, 6, 5, 6, 6, 7, 5, 6, 6, 7, 6, 7, 7, 8]) (bAnd .u32 (bShr .u32 a0 (16 : Int)) (255 : Int))))) + (sAt (ByteArray.mk #[0, 1, 1, 2, 1, 2, 2, 3, 1, 2, 2, 3, 2, 3, 3, 4, 1, 2, 2, 3, 2, 3, 3, 4, 2, 3, 3, 4, 3, 4, 4, 5, 1, 2, 2, 3, 2, 3, 3, 4, 2, 3, 3, 4, 3, 4, 4, 5, 2, 3, 3, 4, 3, 4, 4, 5, 3, 4, 4, 5, 4, 5, 5, 6, 1, 2, 2, 3, 2, 3, 3, 4, 2, 3, 3, 4, 3, 4, 4, 5, 2, 3, 3, 4, 3, 4, 4, 5, 3, 4, 4, 5, 4, 5, 5, 6, 2, 3, 3, 4, 3, 4, 4, 5, 3, 4, 4, 5, 4, 5, 5, 6, 3, 4, 4, 5, 4, 5, 5, 6, 4, 5, 5, 6, 5, 6, 6, 7, 1, 2, 2, 3, 2, 3, 3, 4, 2, 3, 3, 4, 3, 4, 4, 5, 2, 3, 3, 4, 3, 4, 4, 5, 3, 4, 4, 5, 4, 5, 5, 6, 2, 3, 3, 4, 3, 4, 4, 5, 3, 4, 4, 5, 4, 5, 5, 6, 3, 4, 4, 5, 4, 5, 5, 6, 4, 5, 5, 6, 5, 6, 6, 7, 2, 3, 3, 4, 3, 4, 4, 5, 3, 4, 4, 5, 4, 5, 5, 6, 3, 4, 4, 5, 4, 5, 5, 6, 4, 5, 5, 6, 5, 6, 6, 7, 3, 4, 4, 5, 4, 5, 5, 6, 4, 5, 5, 6, 5, 6, 6, 7, 4, 5, 5, 6, 5, 6, 6, 7, 5, 6, 6, 7, 6, 7, 7, 8]) (bAnd .u32 (bShr .u32 a0 (8 : Int)) (255 : Int))))) + (sAt (ByteArray.mk #[0, 1, 1, 2, 1, 2, 2, 3, 1, 2, 2, 3, 2, 3, 3, 4, 1, 2, 2, 3, 2, 3, 3, 4, 2, 3, 3, 4, 3, 4, 4, 5, 1, 2, 2, 3, 2, 3, 3, 4, 2, 3, 3, 4, 3, 4, 4, 5, 2, 3, 3, 4, 3, 4, 4, 5, 3, 4, 4, 5, 4, 5, 5, 6, 1, 2, 2, 3, 2, 3, 3, 4, 2, 3, 3, 4, 3, 4, 4, 5, 2, 3, 3, 4, 3, 4, 4, 5, 3, 4, 4, 5, 4, 5, 5, 6, 2, 3, 3, 4, 3, 4, 4, 5, 3, 4, 4, 5, 4, 5, 5, 6, 3, 4, 4, 5, 4, 5, 5, 6, 4, 5, 5, 6, 5, 6, 6, 7, 1, 2, 2, 3, 2, 3, 3, 4, 2, 3, 3, 4, 3, 4, 4, 5, 2, 3, 3, 4, 3, 4, 4, 5, 3, 4, 4, 5, 4, 5, 5, 6, 2, 3, 3, 4, 3, 4, 4, 5, 3, 4, 4, 5, 4, 5, 5, 6, 3, 4, 4, 5, 4, 5, 5, 6, 4, 5, 5, 6, 5, 6, 6, 7, 2, 3, 3, 4, 3, 4, 4, 5, 3, 4, 4, 5, 4, 5, 5, 6, 3, 4, 4, 5, 4, 5, 5, 6, 4, 5, 5, 6, 5, 6, 6, 7, 3, 4, 4, 5, 4, 5, 5, 6, 4, 5, 5, 6, 5, 6, 6, 7, 4, 5, 5, 6, 5, 6, 6, 7, 5, 6, 6, 7, 6, 7, 7, 8]) (bAnd .u32 a0 (255 : Int)))))))]) (L' := []) (out := [(3, aD (.int .u32) a0), (4, aD (.int .u32) (bShr .u32 a0 (24 : Int))), (5, aD (.int .u8) (sAt (ByteArray.mk #[0, 1, 1, 2, 1, 2, 2, 3, 1, 2, 2, 3, 2, 3, 3, 4, 1, 2, 2, 3, 2, 3, 3, 4, 2, 3, 3, 4, 3, 4, 4, 5, 1, 2, 2, 3, 2, 3, 3, 4, 2, 3, 3, 4, 3, 4, 4, 5, 2, 3, 3, 4, 3, 4, 4, 5, 3, 4, 4, 5, 4, 5, 5, 6, 1, 2, 2, 3, 2, 3, 3, 4, 2, 3, 3, 4, 3, 4, 4, 5, 2, 3, 3, 4, 3, 4, 4, 5, 3, 4, 4, 5, 4, 5, 5, 6, 2, 3, 3, 4, 3, 4, 4, 5, 3, 4, 4, 5, 4, 5, 5, 6, 3, 4, 4, 5, 4, 5, 5, 6, 4, 5, 5, 6, 5, 6, 6, 7, 1, 2, 2, 3, 2, 3, 3, 4, 2, 3, 3, 4, 3, 4, 4, 5, 2, 3, 3, 4, 3, 4, 4, 5, 3, 4, 4, 5, 4, 5, 5, 6, 2, 3, 3, 4, 3, 4, 4, 5, 3, 4, 4, 5, 4, 5, 5, 6, 3, 4, 4, 5, 4, 5, 5, 6, 4, 5, 5, 6, 5, 6, 6, 7, 2, 3, 3, 4, 3, 4, 4, 5, 3, 4, 4, 5, 4, 5, 5, 6, 3, 4, 4, 5, 4, 5, 5, 6, 4, 5, 5, 6, 5, 6, 6, 7, 3, 4, 4, 5, 4, 5, 5, 6, 4, 5, 5, 6, 5, 6, 6, 7, 4, 5, 5, 6, 5, 6, 6, 7, 5, 6, 6, 7, 6, 7, 7, 8]) (bShr .u32 a0 (24 : Int)))), (6, aD (.int .u32) a0), (7, aD (.int .u32) (bShr .u32 a0 (16 : Int))), (8, aD (.int .u32) (bAnd .u32 (bShr .u32 a0 (16 : Int)) (255 : Int))), (9, aD (.int .u8) (sAt (ByteArray.mk #[0, 1, 1, 2, 1, 2, 2, 3, 1, 2, 2, 3, 2, 3, 3, 4, 1, 2, 2, 3, 2, 3, 3, 4, 2, 3, 3, 4, 3, 4, 4, 5, 1, 2, 2, 3, 2, 3, 3, 4, 2, 3, 3, 4, 3, 4, 4, 5, 2, 3, 3, 4, 3, 4, 4, 5, 3, 4, 4, 5, 4, 5, 5, 6, 1, 2, 2, 3, 2, 3, 3, 4, 2, 3, 3, 4, 3, 4, 4, 5, 2, 3, 3, 4, 3, 4, 4, 5, 3, 4, 4, 5, 4, 5, 5, 6, 2, 3, 3, 4, 3, 4, 4, 5, 3, 4, 4, 5, 4, 5, 5, 6, 3, 4, 4, 5, 4, 5, 5, 6, 4, 5, 5, 6, 5, 6, 6, 7, 1, 2, 2, 3, 2, 3, 3, 4, 2, 3, 3, 4, 3, 4, 4, 5, 2, 3, 3, 4, 3, 4, 4, 5, 3, 4, 4, 5, 4, 5, 5, 6, 2, 3, 3, 4, 3, 4, 4, 5, 3, 4, 4, 5, 4, 5, 5, 6, 3, 4, 4, 5, 4, 5, 5, 6, 4, 5, 5, 6, 5, 6, 6, 7, 2, 3, 3, 4, 3, 4, 4, 5, 3, 4, 4, 5, 4, 5, 5, 6, 3, 4, 4, 5, 4, 5, 5, 6, 4, 5, 5, 6, 5, 6, 6, 7, 3, 4, 4, 5, 4, 5, 5, 6, 4, 5, 5, 6, 5, 6, 6, 7, 4, 5, 5, 6, 5, 6, 6, 7, 5, 6, 6, 7, 6, 7, 7, 8]) (bAnd .u32 (bShr .u32 a0 (16 : Int)) (255 : Int)))), (10, aD (.int .u8) (IntKind.wrap .u8 ((sAt (ByteArray.mk #[0, 1, 1, 2, 1, 2, 2, 3, 1, 2, 2, 3, 2, 3, 3, 4, 1, 2, 2, 3, 2, 3, 3, 4, 2, 3, 3, 4, 3, 4, 4, 5, 1, 2, 2, 3, 2, 3, 3, 4, 2, 3, 3, 4, 3, 4, 4, 5, 2, 3, 3, 4, 3, 4, 4, 5, 3, 4, 4, 5, 4, 5, 5, 6, 1, 2, 2, 3, 2, 3, 3, 4, 2, 3, 3, 4, 3, 4, 4, 5, 2, 3, 3, 4, 3, 4, 4, 5, 3, 4, 4, 5, 4, 5, 5, 6, 2, 3, 3, 4, 3, 4, 4, 5, 3, 4, 4, 5, 4, 5, 5, 6, 3, 4, 4, 5, 4, 5, 5, 6, 4, 5, 5, 6, 5, 6, 6, 7, 1, 2, 2, 3, 2, 3, 3, 4, 2, 3, 3, 4, 3, 4, 4, 5, 2, 3, 3, 4, 3, 4, 4, 5, 3, 4, 4, 5, 4, 5, 5, 6, 2, 3, 3, 4, 3, 4, 4, 5, 3, 4, 4, 5, 4, 5, 5, 6, 3, 4, 4, 5, 4, 5, 5, 6, 4, 5, 5, 6, 5, 6, 6, 7, 2, 3, 3, 4, 3, 4, 4, 5, 3, 4, 4, 5, 4, 5, 5, 6, 3, 4, 4, 5, 4, 5, 5, 6, 4, 5, 5, 6, 5, 6, 6, 7, 3, 4, 4, 5, 4, 5, 5, 6, 4, 5, 5, 6, 5, 6, 6, 7, 4, 5, 5, 6, 5, 6, 6, 7, 5, 6, 6, 7, 6, 7, 7, 8]) (bShr .u32 a0 (24 : Int))) + (sAt (ByteArray.mk #[0, 1, 1, 2, 1, 2, 2, 3, 1, 2, 2, 3, 2, 3, 3, 4, 1, 2, 2, 3, 2, 3, 3, 4, 2, 3, 3, 4, 3, 4, 4, 5, 1, 2, 2, 3, 2, 3, 3, 4, 2, 3, 3, 4, 3, 4, 4, 5, 2, 3, 3, 4, 3, 4, 4, 5, 3, 4, 4, 5, 4, 5, 5, 6, 1, 2, 2, 3, 2, 3, 3, 4, 2, 3, 3, 4, 3, 4, 4, 5, 2, 3, 3, 4, 3, 4, 4, 5, 3, 4, 4, 5, 4, 5, 5, 6, 2, 3, 3, 4, 3, 4, 4, 5, 3, 4, 4, 5, 4, 5, 5, 6, 3, 4, 4, 5, 4, 5, 5, 6, 4, 5, 5, 6, 5, 6, 6, 7, 1, 2, 2, 3, 2, 3, 3, 4, 2, 3, 3, 4, 3, 4, 4, 5, 2, 3, 3, 4, 3, 4, 4, 5, 3, 4, 4, 5, 4, 5, 5, 6, 2, 3, 3, 4, 3, 4, 4, 5, 3, 4, 4, 5, 4, 5, 5, 6, 3, 4, 4, 5, 4, 5, 5, 6, 4, 5, 5, 6, 5, 6, 6, 7, 2, 3, 3, 4, 3, 4, 4, 5, 3, 4, 4, 5, 4, 5, 5, 6, 3, 4, 4, 5, 4, 5, 5, 6, 4, 5, 5, 6, 5, 6, 6, 7, 3, 4, 4, 5, 4, 5, 5, 6, 4, 5, 5, 6, 5, 6, 6, 7, 4, 5, 5, 6, 5, 6, 6, 7, 5, 6, 6, 7, 6, 7, 7, 8]) (bAnd .u32 (bShr .u32 a0 (16 : Int)) (255 : Int)))))), (11, aD (.int .u32) a0), (12, aD (.int .u32) (bShr .u32 a0 (8 : Int))), (13, aD (.int .u32) (bAnd .u32 (bShr .u32 a0 (8 : Int)) (255 : Int))), (14, aD (.int .u8) (sAt (ByteArray.mk #[0, 1, 1, 2, 1, 2, 2, 3, 1, 2, 2, 3, 2, 3, 3, 4, 1, 2, 2, 3, 2, 3, 3, 4, 2, 3, 3, 4, 3, 4, 4, 5, 1, 2, 2, 3, 2, 3, 3, 4, 2, 3, 3, 4, 3, 4, 4, 5, 2, 3, 3, 4, 3, 4, 4, 5, 3, 4, 4, 5, 4, 5, 5, 6, 1, 2, 2, 3, 2, 3, 3, 4, 2, 3, 3, 4, 3, 4, 4, 5, 2, 3, 3, 4, 3, 4, 4, 5, 3, 4, 4, 5, 4, 5, 5, 6, 2, 3, 3, 4, 3, 4, 4, 5, 3, 4, 4, 5, 4, 5, 5, 6, 3, 4, 4, 5, 4, 5, 5, 6, 4, 5, 5, 6, 5, 6, 6, 7, 1, 2, 2, 3, 2, 3, 3, 4, 2, 3, 3, 4, 3, 4, 4, 5, 2, 3, 3, 4, 3, 4, 4, 5, 3, 4, 4, 5, 4, 5, 5, 6, 2, 3, 3, 4, 3, 4, 4, 5, 3, 4, 4, 5, 4, 5, 5, 6, 3, 4, 4, 5, 4, 5, 5, 6, 4, 5, 5, 6, 5, 6, 6, 7, 2, 3, 3, 4, 3, 4, 4, 5, 3, 4, 4, 5, 4, 5, 5, 6, 3, 4, 4, 5, 4, 5, 5, 6, 4, 5, 5, 6, 5, 6, 6, 7, 3, 4, 4, 5, 4, 5, 5, 6, 4, 5, 5, 6, 5, 6, 6, 7, 4, 5, 5, 6, 5, 6, 6, 7, 5, 6, 6, 7, 6, 7, 7, 8]) (bAnd .u32 (bShr .u32 a0 (8 : Int)) (255 : Int)))), (15, aD (.int .u8) (IntKind.wrap .u8 ((IntKind.wrap .u8 ((sAt (ByteArray.mk #[0, 1, 1, 2, 1, 2, 2, 3, 1, 2, 2, 3, 2, 3, 3, 4, 1, 2, 2, 3, 2, 3, 3, 4, 2, 3, 3, 4, 3, 4, 4, 5, 1, 2, 2, 3, 2, 3, 3, 4, 2, 3, 3, 4, 3, 4, 4, 5, 2, 3, 3, 4, 3, 4, 4, 5, 3, 4, 4, 5, 4, 5, 5, 6, 1, 2, 2, 3, 2, 3, 3, 4, 2, 3, 3, 4, 3, 4, 4, 5, 2, 3, 3, 4, 3, 4, 4, 5, 3, 4, 4, 5, 4, 5, 5, 6, 2, 3, 3, 4, 3, 4, 4, 5, 3, 4, 4, 5, 4, 5, 5, 6, 3, 4, 4, 5, 4, 5, 5, 6, 4, 5, 5, 6, 5, 6, 6, 7, 1, 2, 2, 3, 2, 3, 3, 4, 2, 3, 3, 4, 3, 4, 4, 5, 2, 3, 3, 4, 3, 4, 4, 5, 3, 4, 4, 5, 4, 5, 5, 6, 2, 3, 3, 4, 3, 4, 4, 5, 3, 4, 4, 5, 4, 5, 5, 6, 3, 4, 4, 5, 4, 5, 5, 6, 4, 5, 5, 6, 5, 6, 6, 7, 2, 3, 3, 4, 3, 4, 4, 5, 3, 4, 4, 5, 4, 5, 5, 6, 3, 4, 4, 5, 4, 5, 5, 6, 4, 5, 5, 6, 5, 6, 6, 7, 3, 4, 4, 5, 4, 5, 5, 6, 4, 5, 5, 6, 5, 6, 6, 7, 4, 5, 5, 6, 5, 6, 6, 7, 5, 6, 6, 7, 6, 7, 7, 8]) (bShr .u32 a0 (24 : Int))) + (sAt (ByteArray.mk #[0, 1, 1, 2, 1, 2, 2, 3, 1, 2, 2, 3, 2, 3, 3, 4, 1, 2, 2, 3, 2, 3, 3, 4, 2, 3, 3, 4, 3, 4, 4, 5, 1, 2, 2, 3, 2, 3, 3, 4, 2, 3, 3, 4, 3, 4, 4, 5, 2, 3, 3, 4, 3, 4, 4, 5, 3, 4, 4, 5, 4, 5, 5, 6, 1, 2, 2, 3, 2, 3, 3, 4, 2, 3, 3, 4, 3, 4, 4, 5, 2, 3, 3, 4, 3, 4, 4, 5, 3, 4, 4, 5, 4, 5, 5, 6, 2, 3, 3, 4, 3, 4, 4, 5, 3, 4, 4, 5, 4, 5, 5, 6, 3, 4, 4, 5, 4, 5, 5, 6, 4, 5, 5, 6, 5, 6, 6, 7, 1, 2, 2, 3, 2, 3, 3, 4, 2, 3, 3, 4, 3, 4, 4, 5, 2, 3, 3, 4, 3, 4, 4, 5, 3, 4, 4, 5, 4, 5, 5, 6, 2, 3, 3, 4, 3, 4, 4, 5, 3, 4, 4, 5, 4, 5, 5, 6, 3, 4, 4, 5, 4, 5, 5, 6, 4, 5, 5, 6, 5, 6, 6, 7, 2, 3, 3, 4, 3, 4, 4, 5, 3, 4, 4, 5, 4, 5, 5, 6, 3, 4, 4, 5, 4, 5, 5, 6, 4, 5, 5, 6, 5, 6, 6, 7, 3, 4, 4, 5, 4, 5, 5, 6, 4, 5, 5, 6, 5, 6, 6, 7, 4, 5, 5, 6, 5, 6, 6, 7, 5, 6, 6, 7, 6, 7, 7, 8]) (bAnd .u32 (bShr .u32 a0 (16 : Int)) (255 : Int))))) + (sAt (ByteArray.mk #[0, 1, 1, 2, 1, 2, 2, 3, 1, 2, 2, 3, 2, 3, 3, 4, 1, 2, 2, 3, 2, 3, 3, 4, 2, 3, 3, 4, 3, 4, 4, 5, 1, 2, 2, 3, 2, 3, 3, 4, 2, 3, 3, 4, 3, 4, 4, 5, 2, 3, 3, 4, 3, 4, 4, 5, 3, 4, 4, 5, 4, 5, 5, 6, 1, 2, 2, 3, 2, 3, 3, 4, 2, 3, 3, 4, 3, 4, 4, 5, 2, 3, 3, 4, 3, 4, 4, 5, 3, 4, 4, 5, 4, 5, 5, 6, 2, 3, 3, 4, 3, 4, 4, 5, 3, 4, 4, 5, 4, 5, 5, 6, 3, 4, 4, 5, 4, 5, 5, 6, 4, 5, 5, 6, 5, 6, 6, 7, 1, 2, 2, 3, 2, 3, 3, 4, 2, 3, 3, 4, 3, 4, 4, 5, 2, 3, 3, 4, 3, 4, 4, 5, 3, 4, 4, 5, 4, 5, 5, 6, 2, 3, 3, 4, 3, 4, 4, 5, 3, 4, 4, 5, 4, 5, 5, 6, 3, 4, 4, 5, 4, 5, 5, 6, 4, 5, 5, 6, 5, 6, 6, 7, 2, 3, 3, 4, 3, 4, 4, 5, 3, 4, 4, 5, 4, 5, 5, 6, 3, 4, 4, 5, 4, 5, 5, 6, 4, 5, 5, 6, 5, 6, 6, 7, 3, 4, 4, 5, 4, 5, 5, 6, 4, 5, 5, 6, 5, 6, 6, 7, 4, 5, 5, 6, 5, 6, 6, 7, 5, 6, 6, 7, 6, 7, 7, 8]) (bAnd .u32 (bShr .u32 a0 (8 : Int)) (255 : Int)))))), (16, aD (.int .u32) a0), (17, aD (.int .u32) (bAnd .u32 a0 (255 : Int))), (18, aD (.int .u8) (sAt (ByteArray.mk #[0, 1, 1, 2, 1, 2, 2, 3, 1, 2, 2, 3, 2, 3, 3, 4, 1, 2, 2, 3, 2, 3, 3, 4, 2, 3, 3, 4, 3, 4, 4, 5, 1, 2, 2, 3, 2, 3, 3, 4, 2, 3, 3, 4, 3, 4, 4, 5, 2, 3, 3, 4, 3, 4, 4, 5, 3, 4, 4, 5, 4, 5, 5, 6, 1, 2, 2, 3, 2, 3, 3, 4, 2, 3, 3, 4, 3, 4, 4, 5, 2, 3, 3, 4, 3, 4, 4, 5, 3, 4, 4, 5, 4, 5, 5, 6, 2, 3, 3, 4, 3, 4, 4, 5, 3, 4, 4, 5, 4, 5, 5, 6, 3, 4, 4, 5, 4, 5, 5, 6, 4, 5, 5, 6, 5, 6, 6, 7, 1, 2, 2, 3, 2, 3, 3, 4, 2, 3, 3, 4, 3, 4, 4, 5, 2, 3, 3, 4, 3, 4, 4, 5, 3, 4, 4, 5, 4, 5, 5, 6, 2, 3, 3, 4, 3, 4, 4, 5, 3, 4, 4, 5, 4, 5, 5, 6, 3, 4, 4, 5, 4, 5, 5, 6, 4, 5, 5, 6, 5, 6, 6, 7, 2, 3, 3, 4, 3, 4, 4, 5, 3, 4, 4, 5, 4, 5, 5, 6, 3, 4, 4, 5, 4, 5, 5, 6, 4, 5, 5, 6, 5, 6, 6, 7, 3, 4, 4, 5, 4, 5, 5, 6, 4, 5, 5, 6, 5, 6, 6, 7, 4, 5, 5, 6, 5, 6, 6, 7, 5, 6, 6, 7, 6, 7, 7, 8]) (bAnd .u32 a0 (255 : Int)))), (19, aD (.int .u8) (IntKind.wrap .u8 ((IntKind.wrap .u8 ((IntKind.wrap .u8 ((sAt (ByteArray.mk #[0, 1, 1, 2, 1, 2, 2, 3, 1, 2, 2, 3, 2, 3, 3, 4, 1, 2, 2, 3, 2, 3, 3, 4, 2, 3, 3, 4, 3, 4, 4, 5, 1, 2, 2, 3, 2, 3, 3, 4, 2, 3, 3, 4, 3, 4, 4, 5, 2, 3, 3, 4, 3, 4, 4, 5, 3, 4, 4, 5, 4, 5, 5, 6, 1, 2, 2, 3, 2, 3, 3, 4, 2, 3, 3, 4, 3, 4, 4, 5, 2, 3, 3, 4, 3, 4, 4, 5, 3, 4, 4, 5, 4, 5, 5, 6, 2, 3, 3, 4, 3, 4, 4, 5, 3, 4, 4, 5, 4, 5, 5, 6, 3, 4, 4, 5, 4, 5, 5, 6, 4, 5, 5, 6, 5, 6, 6, 7, 1, 2, 2, 3, 2, 3, 3, 4, 2, 3, 3, 4, 3, 4, 4, 5, 2, 3, 3, 4, 3, 4, 4, 5, 3, 4, 4, 5, 4, 5, 5, 6, 2, 3, 3, 4, 3, 4, 4, 5, 3, 4, 4, 5, 4, 5, 5, 6, 3, 4, 4, 5, 4, 5, 5, 6, 4, 5, 5, 6, 5, 6, 6, 7, 2, 3, 3, 4, 3, 4, 4, 5, 3, 4, 4, 5, 4, 5, 5, 6, 3, 4, 4, 5, 4, 5, 5, 6, 4, 5, 5, 6, 5, 6, 6, 7, 3, 4, 4, 5, 4, 5, 5, 6, 4, 5, 5, 6, 5, 6, 6, 7, 4, 5, 5, 6, 5, 6, 6, 7, 5, 6, 6, 7, 6, 7, 7, 8]) (bShr .u32 a0 (24 : Int))) + (sAt (ByteArray.mk #[0, 1, 1, 2, 1, 2, 2, 3, 1, 2, 2, 3, 2, 3, 3, 4, 1, 2, 2, 3, 2, 3, 3, 4, 2, 3, 3, 4, 3, 4, 4, 5, 1, 2, 2, 3, 2, 3, 3, 4, 2, 3, 3, 4, 3, 4, 4, 5, 2, 3, 3, 4, 3, 4, 4, 5, 3, 4, 4, 5, 4, 5, 5, 6, 1, 2, 2, 3, 2, 3, 3, 4, 2, 3, 3, 4, 3, 4, 4, 5, 2, 3, 3, 4, 3, 4, 4, 5, 3, 4, 4, 5, 4, 5, 5, 6, 2, 3, 3, 4, 3, 4, 4, 5, 3, 4, 4, 5, 4, 5, 5, 6, 3, 4, 4, 5, 4, 5, 5, 6, 4, 5, 5, 6, 5, 6, 6, 7, 1, 2, 2, 3, 2, 3, 3, 4, 2, 3, 3, 4, 3, 4, 4, 5, 2, 3, 3, 4, 3, 4, 4, 5, 3, 4, 4, 5, 4, 5, 5, 6, 2, 3, 3, 4, 3, 4, 4, 5, 3, 4, 4, 5, 4, 5, 5, 6, 3, 4, 4, 5, 4, 5, 5, 6, 4, 5, 5, 6, 5, 6, 6, 7, 2, 3, 3, 4, 3, 4, 4, 5, 3, 4, 4, 5, 4, 5, 5, 6, 3, 4, 4, 5, 4, 5, 5, 6, 4, 5, 5, 6, 5, 6, 6, 7, 3, 4, 4, 5, 4, 5, 5, 6, 4, 5, 5, 6, 5, 6, 6, 7, 4, 5, 5, 6, 5, 6, 6, 7, 5, 6, 6, 7, 6, 7, 7, 8]) (bAnd .u32 (bShr .u32 a0 (16 : Int)) (255 : Int))))) + (sAt (ByteArray.mk #[0, 1, 1, 2, 1, 2, 2, 3, 1, 2, 2, 3, 2, 3, 3, 4, 1, 2, 2, 3, 2, 3, 3, 4, 2, 3, 3, 4, 3, 4, 4, 5, 1, 2, 2, 3, 2, 3, 3, 4, 2, 3, 3, 4, 3, 4, 4, 5, 2, 3, 3, 4, 3, 4, 4, 5, 3, 4, 4, 5, 4, 5, 5, 6, 1, 2, 2, 3, 2, 3, 3, 4, 2, 3, 3, 4, 3, 4, 4, 5, 2, 3, 3, 4, 3, 4, 4, 5, 3, 4, 4, 5, 4, 5, 5, 6, 2, 3, 3, 4, 3, 4, 4, 5, 3, 4, 4, 5, 4, 5, 5, 6, 3, 4, 4, 5, 4, 5, 5, 6, 4, 5, 5, 6, 5, 6, 6, 7, 1, 2, 2, 3, 2, 3, 3, 4, 2, 3, 3, 4, 3, 4, 4, 5, 2, 3, 3, 4, 3, 4, 4, 5, 3, 4, 4, 5, 4, 5, 5, 6, 2, 3, 3, 4, 3, 4, 4, 5, 3, 4, 4, 5, 4, 5, 5, 6, 3, 4, 4, 5, 4, 5, 5, 6, 4, 5, 5, 6, 5, 6, 6, 7, 2, 3, 3, 4, 3, 4, 4, 5, 3, 4, 4, 5, 4, 5, 5, 6, 3, 4, 4, 5, 4, 5, 5, 6, 4, 5, 5, 6, 5, 6, 6, 7, 3, 4, 4, 5, 4, 5, 5, 6, 4, 5, 5, 6, 5, 6, 6, 7, 4, 5, 5, 6, 5, 6, 6, 7, 5, 6, 6, 7, 6, 7, 7, 8]) (bAnd .u32 (bShr .u32 a0 (8 : Int)) (255 : Int))))) + (sAt (ByteArray.mk #[0, 1, 1, 2, 1, 2, 2, 3, 1, 2, 2, 3, 2, 3, 3, 4, 1, 2, 2, 3, 2, 3, 3, 4, 2, 3, 3, 4, 3, 4, 4, 5, 1, 2, 2, 3, 2, 3, 3, 4, 2, 3, 3, 4, 3, 4, 4, 5, 2, 3, 3, 4, 3, 4, 4, 5, 3, 4, 4, 5, 4, 5, 5, 6, 1, 2, 2, 3, 2, 3, 3, 4, 2, 3, 3, 4, 3, 4, 4, 5, 2, 3, 3, 4, 3, 4, 4, 5, 3, 4, 4, 5, 4, 5, 5, 6, 2, 3, 3, 4, 3, 4, 4, 5, 3, 4, 4, 5, 4, 5, 5, 6, 3, 4, 4, 5, 4, 5, 5, 6, 4, 5, 5, 6, 5, 6, 6, 7, 1, 2, 2, 3, 2, 3, 3, 4, 2, 3, 3, 4, 3, 4, 4, 5, 2, 3, 3, 4, 3, 4, 4, 5, 3, 4, 4, 5, 4, 5, 5, 6, 2, 3, 3, 4, 3, 4, 4, 5, 3, 4, 4, 5, 4, 5, 5, 6, 3, 4, 4, 5, 4, 5, 5, 6, 4, 5, 5, 6, 5, 6, 6, 7, 2, 3, 3, 4, 3, 4, 4, 5, 3, 4, 4, 5, 4, 5, 5, 6, 3, 4, 4, 5, 4, 5, 5, 6, 4, 5, 5, 6, 5, 6, 6, 7, 3, 4, 4, 5, 4, 5, 5, 6, 4, 5, 5, 6, 5, 6, 6, 7, 4, 5, 5, 6, 5, 6, 6, 7, 5, 6, 6, 7, 6, 7, 7, 8]) (bAnd .u32 a0 (255 : Int)))))), (20, aI (w64 (IntKind.wrap .u8 ((IntKind.wrap .u8 ((IntKind.wrap .u8 ((sAt (ByteArray.mk #[0, 1, 1, 2, 1, 2, 2, 3, 1, 2, 2, 3, 2, 3, 3, 4, 1, 2, 2, 3, 2, 3, 3, 4, 2, 3, 3, 4, 3, 4, 4, 5, 1, 2, 2, 3, 2, 3, 3, 4, 2, 3, 3, 4, 3, 4, 4, 5, 2, 3, 3, 4, 3, 4, 4, 5, 3, 4, 4, 5, 4, 5, 5, 6, 1, 2, 2, 3, 2, 3, 3, 4, 2, 3, 3, 4, 3, 4, 4, 5, 2, 3, 3, 4, 3, 4, 4, 5, 3, 4, 4, 5, 4, 5, 5, 6, 2, 3, 3, 4, 3, 4, 4, 5, 3, 4, 4, 5, 4, 5, 5, 6, 3, 4, 4, 5, 4, 5, 5, 6, 4, 5, 5, 6, 5, 6, 6, 7, 1, 2, 2, 3, 2, 3, 3, 4, 2, 3, 3, 4, 3, 4, 4, 5, 2, 3, 3, 4, 3, 4, 4, 5, 3, 4, 4, 5, 4, 5, 5, 6, 2, 3, 3, 4, 3, 4, 4, 5, 3, 4, 4, 5, 4, 5, 5, 6, 3, 4, 4, 5, 4, 5, 5, 6, 4, 5, 5, 6, 5, 6, 6, 7, 2, 3, 3, 4, 3, 4, 4, 5, 3, 4, 4, 5, 4, 5, 5, 6, 3, 4, 4, 5, 4, 5, 5, 6, 4, 5, 5, 6, 5, 6, 6, 7, 3, 4, 4, 5, 4, 5, 5, 6, 4, 5, 5, 6, 5, 6, 6, 7, 4, 5, 5, 6, 5, 6, 6, 7, 5, 6, 6, 7, 6, 7, 7, 8]) (bShr .u32 a0 (24 : Int))) + (sAt (ByteArray.mk #[0, 1, 1, 2, 1, 2, 2, 3, 1, 2, 2, 3, 2, 3, 3, 4, 1, 2, 2, 3, 2, 3, 3, 4, 2, 3, 3, 4, 3, 4, 4, 5, 1, 2, 2, 3, 2, 3, 3, 4, 2, 3, 3, 4, 3, 4, 4, 5, 2, 3, 3, 4, 3, 4, 4, 5, 3, 4, 4, 5, 4, 5, 5, 6, 1, 2, 2, 3, 2, 3, 3, 4, 2, 3, 3, 4, 3, 4, 4, 5, 2, 3, 3, 4, 3, 4, 4, 5, 3, 4, 4, 5, 4, 5, 5, 6, 2, 3, 3, 4, 3, 4, 4, 5, 3, 4, 4, 5, 4, 5, 5, 6, 3, 4, 4, 5, 4, 5, 5, 6, 4, 5, 5, 6, 5, 6, 6, 7, 1, 2, 2, 3, 2, 3, 3, 4, 2, 3, 3, 4, 3, 4, 4, 5, 2, 3, 3, 4, 3, 4, 4, 5, 3, 4, 4, 5, 4, 5, 5, 6, 2, 3, 3, 4, 3, 4, 4, 5, 3, 4, 4, 5, 4, 5, 5, 6, 3, 4, 4, 5, 4, 5, 5, 6, 4, 5, 5, 6, 5, 6, 6, 7, 2, 3, 3, 4, 3, 4, 4, 5, 3, 4, 4, 5, 4, 5, 5, 6, 3, 4, 4, 5, 4, 5, 5, 6, 4, 5, 5, 6, 5, 6, 6, 7, 3, 4, 4, 5, 4, 5, 5, 6, 4, 5, 5, 6, 5, 6, 6, 7, 4, 5, 5, 6, 5, 6, 6, 7, 5, 6, 6, 7, 6, 7, 7, 8]) (bAnd .u32 (bShr .u32 a0 (16 : Int)) (255 : Int))))) + (sAt (ByteArray.mk #[0, 1, 1, 2, 1, 2, 2, 3, 1, 2, 2, 3, 2, 3, 3, 4, 1, 2, 2, 3, 2, 3, 3, 4, 2, 3, 3, 4, 3, 4, 4, 5, 1, 2, 2, 3, 2, 3, 3, 4, 2, 3, 3, 4, 3, 4, 4, 5, 2, 3, 3, 4, 3, 4, 4, 5, 3, 4, 4, 5, 4, 5, 5, 6, 1, 2, 2, 3, 2, 3, 3, 4, 2, 3, 3, 4, 3, 4, 4, 5, 2, 3, 3, 4, 3, 4, 4, 5, 3, 4, 4, 5, 4, 5, 5, 6, 2, 3, 3, 4, 3, 4, 4, 5, 3, 4, 4, 5, 4, 5, 5, 6, 3, 4, 4, 5, 4, 5, 5, 6, 4, 5, 5, 6, 5, 6, 6, 7, 1, 2, 2, 3, 2, 3, 3, 4, 2, 3, 3, 4, 3, 4, 4, 5, 2, 3, 3, 4, 3, 4, 4, 5, 3, 4, 4, 5, 4, 5, 5, 6, 2, 3, 3, 4, 3, 4, 4, 5, 3, 4, 4, 5, 4, 5, 5, 6, 3, 4, 4, 5, 4, 5, 5, 6, 4, 5, 5, 6, 5, 6, 6, 7, 2, 3, 3, 4, 3, 4, 4, 5, 3, 4, 4, 5, 4, 5, 5, 6, 3, 4, 4, 5, 4, 5, 5, 6, 4, 5, 5, 6, 5, 6, 6, 7, 3, 4, 4, 5, 4, 5, 5, 6, 4, 5, 5, 6, 5, 6, 6, 7, 4, 5, 5, 6, 5, 6, 6, 7, 5, 6, 6, 7, 6, 7, 7, 8]) (bAnd .u32 (bShr .u32 a0 (8 : Int)) (255 : Int))))) + (sAt (ByteArray.mk #[0, 1, 1, 2, 1, 2, 2, 3, 1, 2, 2, 3, 2, 3, 3, 4, 1, 2, 2, 3, 2, 3, 3, 4, 2, 3, 3, 4, 3, 4, 4, 5, 1, 2, 2, 3, 2, 3, 3, 4, 2, 3, 3, 4, 3, 4, 4, 5, 2, 3, 3, 4, 3, 4, 4, 5, 3, 4, 4, 5, 4, 5, 5, 6, 1, 2, 2, 3, 2, 3, 3, 4, 2, 3, 3, 4, 3, 4, 4, 5, 2, 3, 3, 4, 3, 4, 4, 5, 3, 4, 4, 5, 4, 5, 5, 6, 2, 3, 3, 4, 3, 4, 4, 5, 3, 4, 4, 5, 4, 5, 5, 6, 3, 4, 4, 5, 4, 5, 5, 6, 4, 5, 5, 6, 5, 6, 6, 7, 1, 2, 2, 3, 2, 3, 3, 4, 2, 3, 3, 4, 3, 4, 4, 5, 2, 3, 3, 4, 3, 4, 4, 5, 3, 4, 4, 5, 4, 5, 5, 6, 2, 3, 3, 4, 3, 4, 4, 5, 3, 4, 4, 5, 4, 5, 5, 6, 3, 4, 4, 5, 4, 5, 5, 6, 4, 5, 5, 6, 5, 6, 6, 7, 2, 3, 3, 4, 3, 4, 4, 5, 3, 4, 4, 5, 4, 5, 5, 6, 3, 4, 4, 5, 4, 5, 5, 6, 4, 5, 5, 6, 5, 6, 6, 7, 3, 4, 4, 5, 4, 5, 5, 6, 4, 5, 5, 6, 5, 6, 6, 7, 4, 5, 5, 6, 5, 6, 6, 7, 5, 6, 6, 7, 6, 7, 7, 8]) (bAnd .u32 a0 (255 : Int)))))))]) (obs := [(0 ≤ (24 : Int)), InR (bShr .u32 a0 (24 : Int)) (ByteArray.size (ByteArray.mk #[0, 1, 1, 2, 1, 2, 2, 3, 1, 2, 2, 3, 2, 3, 3, 4, 1, 2, 2, 3, 2, 3, 3, 4, 2, 3, 3, 4, 3, 4, 4, 5, 1, 2, 2, 3, 2, 3, 3, 4, 2, 3, 3, 4, 3, 4, 4, 5, 2, 3, 3, 4, 3, 4, 4, 5, 3, 4, 4, 5, 4, 5, 5, 6, 1, 2, 2, 3, 2, 3, 3, 4, 2, 3, 3, 4, 3, 4, 4, 5, 2, 3, 3, 4, 3, 4, 4, 5, 3, 4, 4, 5, 4, 5, 5, 6, 2, 3, 3, 4, 3, 4, 4, 5, 3, 4, 4, 5, 4, 5, 5, 6, 3, 4, 4, 5, 4, 5, 5, 6, 4, 5, 5, 6, 5, 6, 6, 7, 1, 2, 2, 3, 2, 3, 3, 4, 2, 3, 3, 4, 3, 4, 4, 5, 2, 3, 3, 4, 3, 4, 4, 5, 3, 4, 4, 5, 4, 5, 5, 6, 2, 3, 3, 4, 3, 4, 4, 5, 3, 4, 4, 5, 4, 5, 5, 6, 3, 4, 4, 5, 4, 5, 5, 6, 4, 5, 5, 6, 5, 6, 6, 7, 2, 3, 3, 4, 3, 4, 4, 5, 3, 4, 4, 5, 4, 5, 5, 6, 3, 4, 4, 5, 4, 5, 5, 6, 4, 5, 5, 6, 5, 6, 6, 7, 3, 4, 4, 5, 4, 5, 5, 6, 4, 5, 5, 6, 5, 6, 6, 7, 4, 5, 5, 6, 5, 6, 6, 7, 5, 6, 6, 7, 6, 7, 7, 8])), (0 ≤ (16 : Int)), InR (bAnd .u32 (bShr .u32 a0 (16 : Int)) (255 : Int)) (ByteArray.size (ByteArray.mk #[0, 1, 1, 2, 1, 2, 2, 3, 1, 2, 2, 3, 2, 3, 3, 4, 1, 2, 2, 3, 2, 3, 3, 4, 2, 3, 3, 4, 3, 4, 4, 5, 1, 2, 2, 3, 2, 3, 3, 4, 2, 3, 3, 4, 3, 4, 4, 5, 2, 3, 3, 4, 3, 4, 4, 5, 3, 4, 4, 5, 4, 5, 5, 6, 1, 2, 2, 3, 2, 3, 3, 4, 2, 3, 3, 4, 3, 4, 4, 5, 2, 3, 3, 4, 3, 4, 4, 5, 3, 4, 4, 5, 4, 5, 5, 6, 2, 3, 3, 4, 3, 4, 4, 5, 3, 4, 4, 5, 4, 5, 5, 6, 3, 4, 4, 5, 4, 5, 5, 6, 4, 5, 5, 6, 5, 6, 6, 7, 1, 2, 2, 3, 2, 3, 3, 4, 2, 3, 3, 4, 3, 4, 4, 5, 2, 3, 3, 4, 3, 4, 4, 5, 3, 4, 4, 5, 4, 5, 5, 6, 2, 3, 3, 4, 3, 4, 4, 5, 3, 4, 4, 5, 4, 5, 5, 6, 3, 4, 4, 5, 4, 5, 5, 6, 4, 5, 5, 6, 5, 6, 6, 7, 2, 3, 3, 4, 3, 4, 4, 5, 3, 4, 4, 5, 4, 5, 5, 6, 3, 4, 4, 5, 4, 5, 5, 6, 4, 5, 5, 6, 5, 6, 6, 7, 3, 4, 4, 5, 4, 5, 5, 6, 4, 5, 5, 6, 5, 6, 6, 7, 4, 5, 5, 6, 5, 6, 6, 7, 5, 6, 6, 7, 6, 7, 7, 8])), (0 ≤ (8 : Int)), InR (bAnd .u32 (bShr .u32 a0 (8 : Int)) (255 : Int)) (ByteArray.size (ByteArray.mk #[0, 1, 1, 2, 1, 2, 2, 3, 1, 2, 2, 3, 2, 3, 3, 4, 1, 2, 2, 3, 2, 3, 3, 4, 2, 3, 3, 4, 3, 4, 4, 5, 1, 2, 2, 3, 2, 3, 3, 4, 2, 3, 3, 4, 3, 4, 4, 5, 2, 3, 3, 4, 3, 4, 4, 5, 3, 4, 4, 5, 4, 5, 5, 6, 1, 2, 2, 3, 2, 3, 3, 4, 2, 3, 3, 4, 3, 4, 4, 5, 2, 3, 3, 4, 3, 4, 4, 5, 3, 4, 4, 5, 4, 5, 5, 6, 2, 3, 3, 4, 3, 4, 4, 5, 3, 4, 4, 5, 4, 5, 5, 6, 3, 4, 4, 5, 4, 5, 5, 6, 4, 5, 5, 6, 5, 6, 6, 7, 1, 2, 2, 3, 2, 3, 3, 4, 2, 3, 3, 4, 3, 4, 4, 5, 2, 3, 3, 4, 3, 4, 4, 5, 3, 4, 4, 5, 4, 5, 5, 6, 2, 3, 3, 4, 3, 4, 4, 5, 3, 4, 4, 5, 4, 5, 5, 6, 3, 4, 4, 5, 4, 5, 5, 6, 4, 5, 5, 6, 5, 6, 6, 7, 2, 3, 3, 4, 3, 4, 4, 5, 3, 4, 4, 5, 4, 5, 5, 6, 3, 4, 4, 5, 4, 5, 5, 6, 4, 5, 5, 6, 5, 6, 6, 7, 3, 4, 4, 5, 4, 5, 5, 6, 4, 5, 5, 6, 5, 6, 6, 7, 4, 5, 5, 6, 5, 6, 6, 7, 5, 6, 6, 7, 6, 7, 7, 8])), InR (bAnd .u32 a0 (255 : Int)) (ByteArray.size (ByteArray.mk #[0, 1, 1, 2, 1, 2, 2, 3, 1, 2, 2, 3, 2, 3, 3, 4, 1, 2, 2, 3, 2, 3, 3, 4, 2, 3, 3, 4, 3, 4, 4, 5, 1, 2, 2, 3, 2, 3, 3, 4, 2, 3, 3, 4, 3, 4, 4, 5, 2, 3, 3, 4, 3, 4, 4, 5, 3, 4, 4, 5, 4, 5, 5, 6, 1, 2, 2, 3, 2, 3, 3, 4, 2, 3, 3, 4, 3, 4, 4, 5, 2, 3, 3, 4, 3, 4, 4, 5, 3, 4, 4, 5, 4, 5, 5, 6, 2, 3, 3, 4, 3, 4, 4, 5, 3, 4, 4, 5, 4, 5, 5, 6, 3, 4, 4, 5, 4, 5, 5, 6, 4, 5, 5, 6, 5, 6, 6, 7, 1, 2, 2, 3, 2, 3, 3, 4, 2, 3, 3, 4, 3, 4, 4, 5, 2, 3, 3, 4, 3, 4, 4, 5, 3, 4, 4, 5, 4, 5, 5, 6, 2, 3, 3, 4, 3, 4, 4, 5, 3, 4, 4, 5, 4, 5, 5, 6, 3, 4, 4, 5, 4, 5, 5, 6, 4, 5, 5, 6, 5, 6, 6, 7, 2, 3, 3, 4, 3, 4, 4, 5, 3, 4, 4, 5, 4, 5, 5, 6, 3, 4, 4, 5, 4, 5, 5, 6, 4, 5, 5, 6, 5, 6, 6, 7, 3, 4, 4, 5, 4, 5, 5, 6, 4, 5, 5, 6, 5, 6, 6, 7, 4, 5, 5, 6, 5, 6, 6, 7, 5, 6, 6, 7, 6, 7, 7, 8]))]) (obs2 := []) (calls := []) (by kernel_rfl) (by kernel_rfl) (by kernel_rfl) (by kernel_rfl) (allP2 (by decide) (allP2 h1 (allP2 (by decide) (allP2 h2 (allP2 (by decide) (allP2 h3 (allP1 h4))))))) allC0 (by kernel_rfl) allP0 ?_
  refine seqQ_norm ?_
  obtain rfl := Option.some.inj h
  refine W_ret [2] [] (fr' := [(2, aI (w64 (IntKind.wrap .u8 ((IntKind.wrap .u8 ((IntKind.wrap .u8 ((sAt (ByteArray.mk #[0, 1, 1, 2, 1, 2, 2, 3, 1, 2, 2, 3, 2, 3, 3, 4, 1, 2, 2, 3, 2, 3, 3, 4, 2, 3, 3, 4, 3, 4, 4, 5, 1, 2, 2, 3, 2, 3, 3, 4, 2, 3, 3, 4, 3, 4, 4, 5, 2, 3, 3, 4, 3, 4, 4, 5, 3, 4, 4, 5, 4, 5, 5, 6, 1, 2, 2, 3, 2, 3, 3, 4, 2, 3, 3, 4, 3, 4, 4, 5, 2, 3, 3, 4, 3, 4, 4, 5, 3, 4, 4, 5, 4, 5, 5, 6, 2, 3, 3, 4, 3, 4, 4, 5, 3, 4, 4, 5, 4, 5, 5, 6, 3, 4, 4, 5, 4, 5, 5, 6, 4, 5, 5, 6, 5, 6, 6, 7, 1, 2, 2, 3, 2, 3, 3, 4, 2, 3, 3, 4, 3, 4, 4, 5, 2, 3, 3, 4, 3, 4, 4, 5, 3, 4, 4, 5, 4, 5, 5, 6, 2, 3, 3, 4, 3, 4, 4, 5, 3, 4, 4, 5, 4, 5, 5, 6, 3, 4, 4, 5, 4, 5, 5, 6, 4, 5, 5, 6, 5, 6, 6, 7, 2, 3, 3, 4, 3, 4, 4, 5, 3, 4, 4, 5, 4, 5, 5, 6, 3, 4, 4, 5, 4, 5, 5, 6, 4, 5, 5, 6, 5, 6, 6, 7, 3, 4, 4, 5, 4, 5, 5, 6, 4, 5, 5, 6, 5, 6, 6, 7, 4, 5, 5, 6, 5, 6, 6, 7, 5, 6, 6, 7, 6, 7, 7, 8]) (bShr .u32 a0 (24 : Int))) + (sAt (ByteArray.mk #[0, 1, 1, 2, 1, 2, 2, 3, 1, 2, 2, 3, 2, 3, 3, 4, 1, 2, 2, 3, 2, 3, 3, 4, 2, 3, 3, 4, 3, 4, 4, 5, 1, 2, 2, 3, 2, 3, 3, 4, 2, 3, 3, 4, 3, 4, 4, 5, 2, 3, 3, 4, 3, 4, 4, 5, 3, 4, 4, 5, 4, 5, 5, 6, 1, 2, 2, 3, 2, 3, 3, 4, 2, 3, 3, 4, 3, 4, 4, 5, 2, 3, 3, 4, 3, 4, 4, 5, 3, 4, 4, 5, 4, 5, 5, 6, 2, 3, 3, 4, 3, 4, 4, 5, 3, 4, 4, 5, 4, 5, 5, 6, 3, 4, 4, 5, 4, 5, 5, 6, 4, 5, 5, 6, 5, 6, 6, 7, 1, 2, 2, 3, 2, 3, 3, 4, 2, 3, 3, 4, 3, 4, 4, 5, 2, 3, 3, 4, 3, 4, 4, 5, 3, 4, 4, 5, 4, 5, 5, 6, 2, 3, 3, 4, 3, 4, 4, 5, 3, 4, 4, 5, 4, 5, 5, 6, 3, 4, 4, 5, 4, 5, 5, 6, 4, 5, 5, 6, 5, 6, 6, 7, 2, 3, 3, 4, 3, 4, 4, 5, 3, 4, 4, 5, 4, 5, 5, 6, 3, 4, 4, 5, 4, 5, 5, 6, 4, 5, 5, 6, 5, 6, 6, 7, 3, 4, 4, 5, 4, 5, 5, 6, 4, 5, 5, 6, 5, 6, 6, 7, 4, 5, 5, 6, 5, 6, 6, 7, 5, 6, 6, 7, 6, 7, 7, 8]) (bAnd .u32 (bShr .u32 a0 (16 : Int)) (255 : Int))))) + (sAt (ByteArray.mk #[0, 1, 1, 2, 1, 2, 2, 3, 1, 2, 2, 3, 2, 3, 3, 4, 1, 2, 2, 3, 2, 3, 3, 4, 2, 3, 3, 4, 3, 4, 4, 5, 1, 2, 2, 3, 2, 3, 3, 4, 2, 3, 3, 4, 3, 4, 4, 5, 2, 3, 3, 4, 3, 4, 4, 5, 3, 4, 4, 5, 4, 5, 5, 6, 1, 2, 2, 3, 2, 3, 3, 4, 2, 3, 3, 4, 3, 4, 4, 5, 2, 3, 3, 4, 3, 4, 4, 5, 3, 4, 4, 5, 4, 5, 5, 6, 2, 3, 3, 4, 3, 4, 4, 5, 3, 4, 4, 5, 4, 5, 5, 6, 3, 4, 4, 5, 4, 5, 5, 6, 4, 5, 5, 6, 5, 6, 6, 7, 1, 2, 2, 3, 2, 3, 3, 4, 2, 3, 3, 4, 3, 4, 4, 5, 2, 3, 3, 4, 3, 4, 4, 5, 3, 4, 4, 5, 4, 5, 5, 6, 2, 3, 3, 4, 3, 4, 4, 5, 3, 4, 4, 5, 4, 5, 5, 6, 3, 4, 4, 5, 4, 5, 5, 6, 4, 5, 5, 6, 5, 6, 6, 7, 2, 3, 3, 4, 3, 4, 4, 5, 3, 4, 4, 5, 4, 5, 5, 6, 3, 4, 4, 5, 4, 5, 5, 6, 4, 5, 5, 6, 5, 6, 6, 7, 3, 4, 4, 5, 4, 5, 5, 6, 4, 5, 5, 6, 5, 6, 6, 7, 4, 5, 5, 6, 5, 6, 6, 7, 5, 6, 6, 7, 6, 7, 7, 8]) (bAnd .u32 (bShr .u32 a0 (8 : Int)) (255 : Int))))) + (sAt (ByteArray.mk #[0, 1, 1, 2, 1, 2, 2, 3, 1, 2, 2, 3, 2, 3, 3, 4, 1, 2, 2, 3, 2, 3, 3, 4, 2, 3, 3, 4, 3, 4, 4, 5, 1, 2, 2, 3, 2, 3, 3, 4, 2, 3, 3, 4, 3, 4, 4, 5, 2, 3, 3, 4, 3, 4, 4, 5, 3, 4, 4, 5, 4, 5, 5, 6, 1, 2, 2, 3, 2, 3, 3, 4, 2, 3, 3, 4, 3, 4, 4, 5, 2, 3, 3, 4, 3, 4, 4, 5, 3, 4, 4, 5, 4, 5, 5, 6, 2, 3, 3, 4, 3, 4, 4, 5, 3, 4, 4, 5, 4, 5, 5, 6, 3, 4, 4, 5, 4, 5, 5, 6, 4, 5, 5, 6, 5, 6, 6, 7, 1, 2, 2, 3, 2, 3, 3, 4, 2, 3, 3, 4, 3, 4, 4, 5, 2, 3, 3, 4, 3, 4, 4, 5, 3, 4, 4, 5, 4, 5, 5, 6, 2, 3, 3, 4, 3, 4, 4, 5, 3, 4, 4, 5, 4, 5, 5, 6, 3, 4, 4, 5, 4, 5, 5, 6, 4, 5, 5, 6, 5, 6, 6, 7, 2, 3, 3, 4, 3, 4, 4, 5, 3, 4, 4, 5, 4, 5, 5, 6, 3, 4, 4, 5, 4, 5, 5, 6, 4, 5, 5, 6, 5, 6, 6, 7, 3, 4, 4, 5, 4, 5, 5, 6, 4, 5, 5, 6, 5, 6, 6, 7, 4, 5, 5, 6, 5, 6, 6, 7, 5, 6, 6, 7, 6, 7, 7, 8]) (bAnd .u32 a0 (255 : Int)))))))]) (L' := []) (by kernel_rfl) (by kernel_rfl) ?_
  exact retQ_mk (by kernel_rfl) (by kernel_rfl) (by kernel_rfl)

noncomputable def lone_sieve_1 (a0 : Int) (c0 : Int) : Option Bool :=
(math_bits_OnesCount32 (bAnd .u32 a0 c0)).bind fun r1 =>
some ((Int.tmod r1 (2 : Int)) == (1 : Int))
theorem lone_sieve_1_ok {a0 : Int} {c0 : Int} {r : Bool} (h : lone_sieve_1 a0 c0 = some r) : FnC Try.prog 78 [aD (.int .u32) a0, .one (.ptr 1000 0)] [(1000, .cells [.dat (.int .u32) c0])] (aB r) [(1000, .cells [.dat (.int .u32) c0])] := by
  refine fnC_of_W (B := bodyOf Try.f78) (n := 10) Try.func78 (by kernel_rfl) (by kernel_rfl) (by kernel_rfl) (by kernel_rfl) (by kernel_rfl) ?_
  intro K
  refine W_seq (by kernel_rfl) ?_
  refine W_run 1 [] [0, 1] [1000] (fr' := [(0, aD (.int .u32) a0), (1, .one (.ptr 1000 0))]) (L' := [(1000, .cells [.dat (.int .u32) c0])]) (obs := []) (by kernel_rfl) (by kernel_rfl) (by kernel_rfl) allP0 ?_
  refine seqQ_norm ?_
  refine W_seq (by kernel_rfl) ?_
  refine W_region (by kernel_rfl) ?_
  refine WO_run (j := 3) (k := 3) (orcs := []) (kF := [6]) (kL := [1000]) (fr' := [(6, aD (.int .u32) (bAnd .u32 a0 c0))]) (L' := [(1000, .cells [.dat (.int .u32) c0])]) (obs := []) rfl (by kernel_rfl) allP0 ?_
  obtain ⟨r1, h2, h⟩ := bind_of h
  refine WO_call0 (us := [none]) (d := 7) (p := True) (j := 4) rfl ⟨by kernel_rfl, by kernel_rfl, by kernel_rfl⟩ trivial (math_bits_OnesCount32_ok h2) (by kernel_rfl) ?_
  refine WO_run (j := 7) (k := 3) (orcs := []) (kF := [3]) (kL := [1000]) (fr' := [(3, aB ((Int.tmod r1 (2 : Int)) == (1 : Int)))]) (L' := [(1000, .cells [.dat (.int .u32) c0])]) (obs := [((2 : Int) ≠ 0)]) rfl (by kernel_rfl) (allP1 (by decide)) ?_
  refine WO_fin [3] [1000] (fr' := [(3, aB ((Int.tmod r1 (2 : Int)) == (1 : Int)))]) (L' := [(1000, .cells [.dat (.int .u32) c0])]) (by kernel_rfl) (by kernel_rfl) ?_
  refine seqQ_norm ?_
  obtain rfl := Option.some.inj h
  refine W_ret [3] [1000] (fr' := [(3, aB ((Int.tmod r1 (2 : Int)) == (1 : Int)))]) (L' := [(1000, .cells [.dat (.int .u32) c0])]) (by kernel_rfl) (by kernel_rfl) ?_
  exact retQ_mk (by kernel_rfl) (by kernel_rfl) (by kernel_rfl)

noncomputable def slices_IndexFunc_Luint32uint32_with_lone_sieve_1_b1 (c0 : Int) (i15 : Int) (v18 : Int) (x16 : Unit) : Option (Flow Unit (Esc Int Unit)) :=
(lone_sieve_1 v18 c0).bind fun r21 =>
bif r21 then
(some (.done (.ret i15)))
else
(some (.next ()))
@[reducible] noncomputable def slices_IndexFunc_Luint32uint32_with_lone_sieve_1_s2 (a0 : (List Int)) (c0 : Int) (v : Int × Unit) : Fr × LL := ([(0, aD (.slice (.int .u32)) a0), (1, .one (.fn 78 [(1000, 0)])), (7, aI (List.length a0 : Int)), (8, aI v.1)], [(1000, .cells [.dat (.int .u32) c0])])
@[reducible] noncomputable def slices_IndexFunc_Luint32uint32_with_lone_sieve_1_s3 (c0 : Int) (v : Int) : Fr × LL := ([(4, aI v)], [(1000, .cells [.dat (.int .u32) c0])])
@[reducible] noncomputable def slices_IndexFunc_Luint32uint32_with_lone_sieve_1_s4 (c0 : Int) (v : Unit) : Fr × LL := ([], [(1000, .cells [.dat (.int .u32) c0])])
noncomputable def slices_IndexFunc_Luint32uint32_with_lone_sieve_1 (a0 : (List Int)) (c0 : Int) : Option Int :=
(forL (slices_IndexFunc_Luint32uint32_with_lone_sieve_1_b1 c0) (fun x16 => (.brk ())) a0 0 ()).bind fun v25 =>
match v25 with
| .ret v30 =>
(some v30)
| .brk v31 =>
(some (-1 : Int))
theorem slices_IndexFunc_Luint32uint32_with_lone_sieve_1_ok {a0 : (List Int)} {c0 : Int} {r : Int} (h : slices_IndexFunc_Luint32uint32_with_lone_sieve_1 a0 c0 = some r) : FnC Try.prog 77 [aD (.slice (.int .u32)) a0, .one (.fn 78 [(1000, 0)])] [(1000, .cells [.dat (.int .u32) c0])] (aI r) [(1000, .cells [.dat (.int .u32) c0])] := by
  refine fnC_of_W (B := bodyOf Try.f77) (n := 19) Try.func77 (by kernel_rfl) (by kernel_rfl) (by kernel_rfl) (by kernel_rfl) (by kernel_rfl) ?_
  intro K
  refine W_seq (by kernel_rfl) ?_
  refine W_run 1 [] [0, 1] [1000] (fr' := [(0, aD (.slice (.int .u32)) a0), (1, .one (.fn 78 [(1000, 0)]))]) (L' := [(1000, .cells [.dat (.int .u32) c0])]) (obs := []) (by kernel_rfl) (by kernel_rfl) (by kernel_rfl) allP0 ?_
  refine seqQ_norm ?_
  refine W_seq (by kernel_rfl) ?_
  refine W_seq (by kernel_rfl) ?_
  refine W_run 3 [] [0, 1, 7, 8] [1000] (fr' := [(0, aD (.slice (.int .u32)) a0), (1, .one (.fn 78 [(1000, 0)])), (7, aI (List.length a0 : Int)), (8, aI (0 : Int))]) (L' := [(1000, .cells [.dat (.int .u32) c0])]) (obs := []) (by kernel_rfl) (by kernel_rfl) (by kernel_rfl) allP0 ?_
  refine seqQ_norm ?_
  refine W_block (id := 0) (by kernel_rfl) ?_
  obtain ⟨v25, h26, h⟩ := bind_of h
  refine W_len (t := 0) (u := (.int .u32)) (xs := a0) (by kernel_rfl) (fun h29 => ?_)
  obtain ⟨h27, h28⟩ := forL_iter h29 h26
  refine W_weaken [0, 1, 7, 8] [1000] (fr' := ((slices_IndexFunc_Luint32uint32_with_lone_sieve_1_s2 a0 c0) ((0 : Int), ())).1) (L' := ((slices_IndexFunc_Luint32uint32_with_lone_sieve_1_s2 a0 c0) ((0 : Int), ())).2) (by kernel_rfl) ?_
  refine W_cutK (W_loop (S := (slices_IndexFunc_Luint32uint32_with_lone_sieve_1_s2 a0 c0)) (J := (escQ (exQ .ret (slices_IndexFunc_Luint32uint32_with_lone_sieve_1_s3 c0)) (exQ (.exit 0) (slices_IndexFunc_Luint32uint32_with_lone_sieve_1_s4 c0)))) (by kernel_rfl) ?_ h27 _ v25 h28) ?_
  · rintro ⟨i15, x16⟩ s h
    refine W_seq (by kernel_rfl) ?_
    refine W_run 1 [] [0, 1, 7, 8, 9] [1000] (fr' := [(0, aD (.slice (.int .u32)) a0), (1, .one (.fn 78 [(1000, 0)])), (7, aI (List.length a0 : Int)), (8, aI i15), (9, aB (decide (i15 < (List.length a0 : Int))))]) (L' := [(1000, .cells [.dat (.int .u32) c0])]) (obs := []) (by kernel_rfl) (by kernel_rfl) (by kernel_rfl) allP0 ?_
    refine seqQ_norm ?_
    refine W_seq (by kernel_rfl) ?_
    refine W_cond (o := .tmp 9) (b := decide (i15 < (List.length a0 : Int))) (by kernel_rfl) (by kernel_rfl) (fun h20 => ?_) (fun h20 => ?_)
    · replace h := stepL_true h20 h
      obtain ⟨v18, _, h19, h, rfl⟩ := h
      refine W_skip [0, 1, 7, 8] [1000] (fr' := [(0, aD (.slice (.int .u32)) a0), (1, .one (.fn 78 [(1000, 0)])), (7, aI (List.length a0 : Int)), (8, aI i15)]) (L' := [(1000, .cells [.dat (.int .u32) c0])]) (by kernel_rfl) (by kernel_rfl) ?_
      refine seqQ_norm ?_
      refine W_seq (by kernel_rfl) ?_
      refine W_block (id := 1) (by kernel_rfl) ?_
      refine W_seq (by kernel_rfl) ?_
      refine W_run 2 [] [0, 1, 5, 7, 8] [1000] (fr' := [(0, aD (.slice (.int .u32)) a0), (1, .one (.fn 78 [(1000, 0)])), (5, aI i15), (7, aI (List.length a0 : Int)), (8, aI i15)]) (L' := [(1000, .cells [.dat (.int .u32) c0])]) (obs := []) (by kernel_rfl) (by kernel_rfl) (by kernel_rfl) allP0 ?_
      refine seqQ_norm ?_
      refine W_seq (by kernel_rfl) ?_
      refine W_region (by kernel_rfl) ?_
      refine WO_run (j := 5) (k := 5) (orcs := [(7, .val (.dat (.int .u32) v18))]) (kF := [0, 1, 5, 7, 8, 11, 15]) (kL := [1000]) (fr' := [(0, aD (.slice (.int .u32)) a0), (1, .one (.fn 78 [(1000, 0)])), (5, aI i15), (7, aI (List.length a0 : Int)), (8, aI i15), (11, .one (.fn 78 [(1000, 0)])), (15, aD (.int .u32) v18)]) (L' := [(1000, .cells [.dat (.int .u32) c0])]) (obs := [Idx a0 i15 v18]) rfl (by kernel_rfl) (allP1 (Idx.of h19)) ?_
      obtain ⟨r21, h22, h⟩ := bind_of h
      refine WO_lend [(1000, 1000)] (us := [none, none]) (d := 16) (p := True) (j := 6) rfl ⟨by kernel_rfl, by kernel_rfl, by kernel_rfl⟩ trivial (lone_sieve_1_ok h22) (by kernel_rfl) (by kernel_rfl) ?_
      refine WO_fin [0, 1, 5, 7, 8, 16] [1000] (fr' := [(0, aD (.slice (.int .u32)) a0), (1, .one (.fn 78 [(1000, 0)])), (5, aI i15), (7, aI (List.length a0 : Int)), (8, aI i15), (16, aB r21)]) (L' := [(1000, .cells [.dat (.int .u32) c0])]) (by kernel_rfl) (by kernel_rfl) ?_
      refine seqQ_norm ?_
      refine W_cond (o := .tmp 16) (b := r21) (by kernel_rfl) (by kernel_rfl) (fun h23 => ?_) (fun h23 => ?_)
      · replace h := ofT h23 h
        refine W_seq (by kernel_rfl) ?_
        refine W_run 2 [] [4] [1000] (fr' := [(4, aI i15)]) (L' := [(1000, .cells [.dat (.int .u32) c0])]) (obs := []) (by kernel_rfl) (by kernel_rfl) (by kernel_rfl) allP0 ?_
        refine seqQ_norm ?_
        obtain rfl := Option.some.inj h
        refine W_ret [4] [1000] (fr' := [(4, aI i15)]) (L' := [(1000, .cells [.dat (.int .u32) c0])]) (by kernel_rfl) (by kernel_rfl) ?_
        refine blockQ_ret ?_
        refine seqQ_ret ?_
        refine round_ret ?_
        refine escQ_ret ?_
        exact exQ_mk (by kernel_rfl) (by kernel_rfl)
      · replace h := ofF h23 h
        refine W_skip [0, 1, 7, 8] [1000] (fr' := [(0, aD (.slice (.int .u32)) a0), (1, .one (.fn 78 [(1000, 0)])), (7, aI (List.length a0 : Int)), (8, aI i15)]) (L' := [(1000, .cells [.dat (.int .u32) c0])]) (by kernel_rfl) (by kernel_rfl) ?_
        refine blockQ_norm ?_
        refine seqQ_norm ?_
        obtain rfl := Option.some.inj h
        refine W_run 2 [] [0, 1, 7, 8] [1000] (fr' := [(0, aD (.slice (.int .u32)) a0), (1, .one (.fn 78 [(1000, 0)])), (7, aI (List.length a0 : Int)), (8, aI (w64 (i15 + (1 : Int))))]) (L' := [(1000, .cells [.dat (.int .u32) c0])]) (obs := []) (by kernel_rfl) (by kernel_rfl) (by kernel_rfl) allP0 ?_
        exact round_next' (by kernel_rfl) (by kernel_rfl)
    · obtain rfl := stepL_false h20 h
      refine W_exit (id := 0) [] [1000] (fr' := []) (L' := [(1000, .cells [.dat (.int .u32) c0])]) (by kernel_rfl) (by kernel_rfl) ?_
      refine seqQ_exit ?_
      refine round_exit ?_
      refine escQ_brk ?_
      exact exQ_mk (by kernel_rfl) (by kernel_rfl)
  · intro e fr L hJ
    rcases v25 with v30 | v31
    · obtain ⟨rfl, rfl, rfl⟩ := hJ
      obtain rfl := Option.some.inj h
      refine LT_keep [4] [1000] (fr' := [(4, aI v30)]) (L' := [(1000, .cells [.dat (.int .u32) c0])]) (by kernel_rfl) ?_
      refine blockQ_ret ?_
      refine seqQ_ret ?_
      exact retQ_mk (by kernel_rfl) (by kernel_rfl) (by kernel_rfl)
    · obtain ⟨rfl, rfl, rfl⟩ := hJ
      refine LT_keep [] [1000] (fr' := []) (L' := [(1000, .cells [.dat (.int .u32) c0])]) (by kernel_rfl) ?_
      refine blockQ_hit ?_
      refine seqQ_norm ?_
      refine W_seq (by kernel_rfl) ?_
      refine W_run 1 [] [4] [1000] (fr' := [(4, aI (-1 : Int))]) (L' := [(1000, .cells [.dat (.int .u32) c0])]) (obs := []) (by kernel_rfl) (by kernel_rfl) (by kernel_rfl) allP0 ?_
      refine seqQ_norm ?_
      obtain rfl := Option.some.inj h
      refine W_ret [4] [1000] (fr' := [(4, aI (-1 : Int))]) (L' := [(1000, .cells [.dat (.int .u32) c0])]) (by kernel_rfl) (by kernel_rfl) ?_
      exact retQ_mk (by kernel_rfl) (by kernel_rfl) (by kernel_rfl)

noncomputable def slices_ContainsFunc_Luint32uint32_with_lone_sieve_1 (a0 : (List Int)) (c0 : Int) : Option Bool :=
(slices_IndexFunc_Luint32uint32_with_lone_sieve_1 a0 c0).bind fun r1 =>
some (decide (r1 ≥ (0 : Int)))
theorem slices_ContainsFunc_Luint32uint32_with_lone_sieve_1_ok {a0 : (List Int)} {c0 : Int} {r : Bool} (h : slices_ContainsFunc_Luint32uint32_with_lone_sieve_1 a0 c0 = some r) : FnC Try.prog 49 [aD (.slice (.int .u32)) a0, .one (.fn 78 [(1000, 0)])] [(1000, .cells [.dat (.int .u32) c0])] (aB r) [(1000, .cells [.dat (.int .u32) c0])] := by
  refine fnC_of_W (B := bodyOf Try.f49) (n := 9) Try.func49 (by kernel_rfl) (by kernel_rfl) (by kernel_rfl) (by kernel_rfl) (by kernel_rfl) ?_
  intro K
  refine W_seq (by kernel_rfl) ?_
  refine W_run 1 [] [0, 1] [1000] (fr' := [(0, aD (.slice (.int .u32)) a0), (1, .one (.fn 78 [(1000, 0)]))]) (L' := [(1000, .cells [.dat (.int .u32) c0])]) (obs := []) (by kernel_rfl) (by kernel_rfl) (by kernel_rfl) allP0 ?_
  refine seqQ_norm ?_
  refine W_seq (by kernel_rfl) ?_
  refine W_region (by kernel_rfl) ?_
  refine WO_run (j := 2) (k := 2) (orcs := []) (kF := [5, 6]) (kL := [1000]) (fr' := [(5, aD (.slice (.int .u32)) a0), (6, .one (.fn 78 [(1000, 0)]))]) (L' := [(1000, .cells [.dat (.int .u32) c0])]) (obs := []) rfl (by kernel_rfl) allP0 ?_
  obtain ⟨r1, h2, h⟩ := bind_of h
  refine WO_lend [(1000, 1000)] (us := [none, none]) (d := 7) (p := True) (j := 3) rfl ⟨by kernel_rfl, by kernel_rfl, by kernel_rfl⟩ trivial (slices_IndexFunc_Luint32uint32_with_lone_sieve_1_ok h2) (by kernel_rfl) (by kernel_rfl) ?_
  refine WO_run (j := 5) (k := 2) (orcs := []) (kF := [4]) (kL := [1000]) (fr' := [(4, aB (decide (r1 ≥ (0 : Int))))]) (L' := [(1000, .cells [.dat (.int .u32) c0])]) (obs := []) rfl (by kernel_rfl) allP0 ?_
  refine WO_fin [4] [1000] (fr' := [(4, aB (decide (r1 ≥ (0 : Int))))]) (L' := [(1000, .cells [.dat (.int .u32) c0])]) (by kernel_rfl) (by kernel_rfl) ?_
  refine seqQ_norm ?_
  obtain rfl := Option.some.inj h
  refine W_ret [4] [1000] (fr' := [(4, aB (decide (r1 ≥ (0 : Int))))]) (L' := [(1000, .cells [.dat (.int .u32) c0])]) (by kernel_rfl) (by kernel_rfl) ?_
  exact retQ_mk (by kernel_rfl) (by kernel_rfl) (by kernel_rfl)

noncomputable def lone_sieve_g4 (a1 : (List Int)) (x43 : (List Int)) (v45 : Int) : Option (List Int) :=
(slices_ContainsFunc_Luint32uint32_with_lone_sieve_1 a1 v45).bind fun r56 =>
bif !r56 then
((ck ((List.length x43 : Int) + 1 ≤ 4294967296)).bind fun _ =>
some (x43 ++ [v45]))
else
(some x43)
@[reducible] noncomputable def lone_sieve_s5 (a0 : (List Int)) (a1 : (List Int)) (i42 : Int) (v : (List Int)) : Fr × LL := ([(1, aD (.slice (.int .u32)) a1), (5, .one (.slc 21)), (8, aD (.slice (.int .u32)) a0), (9, aI (List.length a0 : Int)), (10, aI i42)], [(21, .seq (.int .u32) v)])
noncomputable def lone_sieve_b6 (a1 : (List Int)) (i42 : Int) (v45 : Int) (x43 : (List Int)) : Option (Flow (List Int) (List Int)) :=
(lone_sieve_g4 a1 x43 v45).bind fun v60 =>
some (.next v60)
@[reducible] noncomputable def lone_sieve_s7 (a0 : (List Int)) (a1 : (List Int)) (v : Int × (List Int)) : Fr × LL := ([(1, aD (.slice (.int .u32)) a1), (5, .one (.slc 21)), (8, aD (.slice (.int .u32)) a0), (9, aI (List.length a0 : Int)), (10, aI v.1)], [(21, .seq (.int .u32) v.2)])
@[reducible] noncomputable def lone_sieve_s8 (v : (List Int)) : Fr × LL := ([(5, .one (.slc 21))], [(21, .seq (.int .u32) v)])
noncomputable def lone_sieve (a0 : (List Int)) (a1 : (List Int)) : Option (List Int) :=
(forL (lone_sieve_b6 a1) (fun x43 => x43) a0 0 []).bind fun v63 =>
some v63
theorem lone_sieve_ok {a0 : (List Int)} {a1 : (List Int)} {r : (List Int)} (h : lone_sieve a0 a1 = some r) : FnC Try.prog 51 [aD (.slice (.int .u32)) a0, aD (.slice (.int .u32)) a1] [] (aD (.slice (.int .u32)) r) [] := by
  refine fnC_of_W (B := bodyOf Try.f51) (n := 24) Try.func51 (by kernel_rfl) (by kernel_rfl) (by kernel_rfl) (by kernel_rfl) (by kernel_rfl) ?_
  intro K
  refine W_seq (by kernel_rfl) ?_
  refine W_run 1 [] [0, 1] [] (fr' := [(0, aD (.slice (.int .u32)) a0), (1, aD (.slice (.int .u32)) a1)]) (L' := []) (obs := []) (by kernel_rfl) (by kernel_rfl) (by kernel_rfl) allP0 ?_
  refine seqQ_norm ?_
  refine W_seq (by kernel_rfl) ?_
  refine W_run 1 [] [0, 1, 5] [] (fr' := [(0, aD (.slice (.int .u32)) a0), (1, aD (.slice (.int .u32)) a1), (5, .one (.nilS))]) (L' := []) (obs := []) (by kernel_rfl) (by kernel_rfl) (by kernel_rfl) allP0 ?_
  refine seqQ_norm ?_
  refine W_seq (by kernel_rfl) ?_
  refine W_seq (by kernel_rfl) ?_
  refine W_run 3 [] [1, 5, 8, 9, 10] [] (fr' := [(1, aD (.slice (.int .u32)) a1), (5, .one (.nilS)), (8, aD (.slice (.int .u32)) a0), (9, aI (List.length a0 : Int)), (10, aI (0 : Int))]) (L' := []) (obs := []) (by kernel_rfl) (by kernel_rfl) (by kernel_rfl) allP0 ?_
  refine seqQ_norm ?_
  refine W_block (id := 0) (by kernel_rfl) ?_
  obtain ⟨v63, h64, h⟩ := bind_of h
  refine W_len (t := 8) (u := (.int .u32)) (xs := a0) (by kernel_rfl) (fun h67 => ?_)
  obtain ⟨h65, h66⟩ := forL_iter h67 h64
  refine W_mine 5 21 (.int .u32) (by kernel_rfl) ?_
  refine W_weaken [1, 5, 8, 9, 10] [21] (fr' := ((lone_sieve_s7 a0 a1) ((0 : Int), [])).1) (L' := ((lone_sieve_s7 a0 a1) ((0 : Int), [])).2) (by kernel_rfl) ?_
  refine W_cutK (W_loop (S := (lone_sieve_s7 a0 a1)) (J := (exQ (.exit 0) lone_sieve_s8)) (by kernel_rfl) ?_ h65 _ v63 h66) ?_
  · rintro ⟨i42, x43⟩ s h
    refine W_seq (by kernel_rfl) ?_
    refine W_run 1 [] [1, 5, 8, 9, 10, 11] [21] (fr' := [(1, aD (.slice (.int .u32)) a1), (5, .one (.slc 21)), (8, aD (.slice (.int .u32)) a0), (9, aI (List.length a0 : Int)), (10, aI i42), (11, aB (decide (i42 < (List.length a0 : Int))))]) (L' := [(21, .seq (.int .u32) x43)]) (obs := []) (by kernel_rfl) (by kernel_rfl) (by kernel_rfl) allP0 ?_
    refine seqQ_norm ?_
    refine W_seq (by kernel_rfl) ?_
    refine W_cond (o := .tmp 11) (b := decide (i42 < (List.length a0 : Int))) (by kernel_rfl) (by kernel_rfl) (fun h47 => ?_) (fun h47 => ?_)
    · replace h := stepL_true h47 h
      obtain ⟨v45, _, h46, h, rfl⟩ := h
      refine W_skip [1, 5, 8, 9, 10] [21] (fr' := [(1, aD (.slice (.int .u32)) a1), (5, .one (.slc 21)), (8, aD (.slice (.int .u32)) a0), (9, aI (List.length a0 : Int)), (10, aI i42)]) (L' := [(21, .seq (.int .u32) x43)]) (by kernel_rfl) (by kernel_rfl) ?_
      refine seqQ_norm ?_
      refine W_seq (by kernel_rfl) ?_
      obtain ⟨v60, h61, h⟩ := bind_of h
      refine W_cutK (Q' := (exQ .normal (lone_sieve_s5 a0 a1 i42)) v60) ?_ ?_
      · replace h := h61
        refine W_block (id := 1) (by kernel_rfl) ?_
        refine W_seq (by kernel_rfl) ?_
        refine W_run 4 [(1, .val (.dat (.int .u32) v45))] [1, 5, 7, 8, 9, 10] [21, 7] (fr' := [(1, aD (.slice (.int .u32)) a1), (5, .one (.slc 21)), (7, .one (.ptr 7 0)), (8, aD (.slice (.int .u32)) a0), (9, aI (List.length a0 : Int)), (10, aI i42)]) (L' := [(21, .seq (.int .u32) x43), (7, .cells [.dat (.int .u32) v45])]) (obs := [Idx a0 i42 v45, True]) (by kernel_rfl) (by kernel_rfl) (by kernel_rfl) (allP2 (Idx.of h46) (allP1 trivial)) ?_
        refine seqQ_norm ?_
        refine W_seq (by kernel_rfl) ?_
        refine W_region (by kernel_rfl) ?_
        refine WO_run (j := 2) (k := 2) (orcs := []) (kF := [1, 5, 7, 8, 9, 10, 14, 15]) (kL := [7, 21]) (fr' := [(1, aD (.slice (.int .u32)) a1), (5, .one (.slc 21)), (7, .one (.ptr 7 0)), (8, aD (.slice (.int .u32)) a0), (9, aI (List.length a0 : Int)), (10, aI i42), (14, aD (.slice (.int .u32)) a1), (15, .one (.fn 78 [(7, 0)]))]) (L' := [(7, .cells [.dat (.int .u32) v45]), (21, .seq (.int .u32) x43)]) (obs := []) rfl (by kernel_rfl) allP0 ?_
        obtain ⟨r56, h57, h⟩ := bind_of h
        refine WO_lend [(1000, 7)] (us := [none, none]) (d := 16) (p := True) (j := 3) rfl ⟨by kernel_rfl, by kernel_rfl, by kernel_rfl⟩ trivial (slices_ContainsFunc_Luint32uint32_with_lone_sieve_1_ok h57) (by kernel_rfl) (by kernel_rfl) ?_
        refine WO_run (j := 4) (k := 1) (orcs := []) (kF := [1, 5, 7, 8, 9, 10, 17]) (kL := [7, 21]) (fr' := [(1, aD (.slice (.int .u32)) a1), (5, .one (.slc 21)), (7, .one (.ptr 7 0)), (8, aD (.slice (.int .u32)) a0), (9, aI (List.length a0 : Int)), (10, aI i42), (17, aB (!r56))]) (L' := [(7, .cells [.dat (.int .u32) v45]), (21, .seq (.int .u32) x43)]) (obs := []) rfl (by kernel_rfl) allP0 ?_
        refine WO_fin [1, 5, 7, 8, 9, 10, 17] [21, 7] (fr' := [(1, aD (.slice (.int .u32)) a1), (5, .one (.slc 21)), (7, .one (.ptr 7 0)), (8, aD (.slice (.int .u32)) a0), (9, aI (List.length a0 : Int)), (10, aI i42), (17, aB (!r56))]) (L' := [(21, .seq (.int .u32) x43), (7, .cells [.dat (.int .u32) v45])]) (by kernel_rfl) (by kernel_rfl) ?_
        refine seqQ_norm ?_
        refine W_cond (o := .tmp 17) (b := !r56) (by kernel_rfl) (by kernel_rfl) (fun h58 => ?_) (fun h58 => ?_)
        · replace h := ofT h58 h
          obtain ⟨_, h59, h⟩ := bind_of h
          replace h59 := ck_some h59
          obtain rfl := Option.some.inj h
          refine W_run 5 [] [1, 5, 8, 9, 10] [21] (fr' := [(1, aD (.slice (.int .u32)) a1), (5, .one (.slc 21)), (8, aD (.slice (.int .u32)) a0), (9, aI (List.length a0 : Int)), (10, aI i42)]) (L' := [(21, .seq (.int .u32) (x43 ++ [v45]))]) (obs := [SmallLen (List.length x43 + List.length [v45])]) (by kernel_rfl) (by kernel_rfl) (by kernel_rfl) (allP1 h59) ?_
          refine blockQ_norm ?_
          exact exQ_mk (by kernel_rfl) (by kernel_rfl)
        · replace h := ofF h58 h
          obtain rfl := Option.some.inj h
          refine W_skip [1, 5, 8, 9, 10] [21] (fr' := [(1, aD (.slice (.int .u32)) a1), (5, .one (.slc 21)), (8, aD (.slice (.int .u32)) a0), (9, aI (List.length a0 : Int)), (10, aI i42)]) (L' := [(21, .seq (.int .u32) x43)]) (by kernel_rfl) (by kernel_rfl) ?_
          refine blockQ_norm ?_
          exact exQ_mk (by kernel_rfl) (by kernel_rfl)
      · intro e fr L hJ
        obtain ⟨rfl, rfl, rfl⟩ := hJ
        refine LT_keep [1, 5, 8, 9, 10] [21] (fr' := [(1, aD (.slice (.int .u32)) a1), (5, .one (.slc 21)), (8, aD (.slice (.int .u32)) a0), (9, aI (List.length a0 : Int)), (10, aI i42)]) (L' := [(21, .seq (.int .u32) v60)]) (by kernel_rfl) ?_
        refine seqQ_norm ?_
        obtain rfl := Option.some.inj h
        refine W_run 2 [] [1, 5, 8, 9, 10] [21] (fr' := [(1, aD (.slice (.int .u32)) a1), (5, .one (.slc 21)), (8, aD (.slice (.int .u32)) a0), (9, aI (List.length a0 : Int)), (10, aI (w64 (i42 + (1 : Int))))]) (L' := [(21, .seq (.int .u32) v60)]) (obs := []) (by kernel_rfl) (by kernel_rfl) (by kernel_rfl) allP0 ?_
        exact round_next' (by kernel_rfl) (by kernel_rfl)
    · obtain rfl := stepL_false h47 h
      refine W_exit (id := 0) [5] [21] (fr' := [(5, .one (.slc 21))]) (L' := [(21, .seq (.int .u32) x43)]) (by kernel_rfl) (by kernel_rfl) ?_
      refine seqQ_exit ?_
      refine round_exit ?_
      exact exQ_mk (by kernel_rfl) (by kernel_rfl)
  · intro e fr L hJ
    obtain ⟨rfl, rfl, rfl⟩ := hJ
    refine LT_keep [5] [21] (fr' := [(5, .one (.slc 21))]) (L' := [(21, .seq (.int .u32) v63)]) (by kernel_rfl) ?_
    refine blockQ_hit ?_
    refine seqQ_norm ?_
    refine W_seq (by kernel_rfl) ?_
    refine W_run 2 [] [4] [21] (fr' := [(4, .one (.slc 21))]) (L' := [(21, .seq (.int .u32) v63)]) (obs := []) (by kernel_rfl) (by kernel_rfl) (by kernel_rfl) allP0 ?_
    refine seqQ_norm ?_
    obtain rfl := Option.some.inj h
    refine W_frz 21 (by kernel_rfl) ?_
    refine W_ret [4] [] (fr' := [(4, aD (.slice (.int .u32)) v63)]) (L' := []) (by kernel_rfl) (by kernel_rfl) ?_
    exact retQ_mk (by kernel_rfl) (by kernel_rfl) (by kernel_rfl)

@[reducible] noncomputable def lone_choices_1_for_lone_Lucky_SX (v : ((List Int) × Int × Int)) : LL := [(1002, .cells [.dat (.slice (.int .u32)) v.1]), (1003, .cells [.dat tI v.2.1]), (1004, .cells [.dat tI v.2.2])]
@[reducible] noncomputable def lone_choices_1_for_lone_Lucky_S (_y : (List Int)) (v : ((List Int) × Int × Int)) : LL := [(1002, .cells [.dat (.slice (.int .u32)) v.1]), (1003, .cells [.dat tI v.2.1]), (1004, .cells [.dat tI v.2.2]), (1998, .seq tI _y)]
@[reducible] noncomputable def lone_choices_1_for_lone_Lucky_s16 (rl : Nat) (rfn : Nat) (rtm : Array Value) (rdd : Nat) (c0 : Int) (c1 : Int) (r112 : ((List Int) × Int × Int)) (x130 : (Int × (List Int))) (v : Bool) : Fr × LL := ([(0, .one (.yl rl)), (1, .one (.ptr 1000 0)), (2, .one (.ptr 1001 0)), (4, .one (.slc 7)), (5, aI x130.1), (22, aB v)], [(1000, .cells [.dat tI c0]), (1001, .cells [.dat tI c1]), (1002, .cells [.dat (.slice (.int .u32)) r112.1]), (1003, .cells [.dat tI r112.2.1]), (1004, .cells [.dat tI r112.2.2]), (7, .seq tI x130.2), (1999, .raw rl (.loop (recOf rfn rtm 38 (nav (bodyOf Try.f25) [0, 0, 1, 0, 1, 1, 1, 1]) (nav (bodyOf Try.f25) [1, 0, 1, 0, 1, 1, 1, 1]) rdd)))])
noncomputable def lone_choices_1_for_lone_Lucky_b17 (c0 : Int) (c1 : Int) (x130 : (Int × (List Int))) : Option (Flow (Int × (List Int)) (Int × (List Int))) :=
(bif decide (x130.1 < c0) then
((idx x130.2 x130.1).bind fun v152 =>
some (v152 == (w64 (c1 - (1 : Int)))))
else
(some false)).bind fun v154 =>
bif v154 then
((idx x130.2 x130.1).bind fun v157 =>
some (.next (w64 (x130.1 + (1 : Int)), List.set x130.2 (Int.toNat x130.1) (0 : Int))))
else
(some (.done (x130.1, x130.2)))
@[reducible] noncomputable def lone_choices_1_for_lone_Lucky_s18 (rl : Nat) (rfn : Nat) (rtm : Array Value) (rdd : Nat) (c0 : Int) (c1 : Int) (r112 : ((List Int) × Int × Int)) (v : (Int × (List Int))) : Fr × LL := ([(0, .one (.yl rl)), (1, .one (.ptr 1000 0)), (2, .one (.ptr 1001 0)), (4, .one (.slc 7)), (5, aI v.1)], [(1000, .cells [.dat tI c0]), (1001, .cells [.dat tI c1]), (1002, .cells [.dat (.slice (.int .u32)) r112.1]), (1003, .cells [.dat tI r112.2.1]), (1004, .cells [.dat tI r112.2.2]), (7, .seq tI v.2), (1999, .raw rl (.loop (recOf rfn rtm 38 (nav (bodyOf Try.f25) [0, 0, 1, 0, 1, 1, 1, 1]) (nav (bodyOf Try.f25) [1, 0, 1, 0, 1, 1, 1, 1]) rdd)))])
@[reducible] noncomputable def lone_choices_1_for_lone_Lucky_s19 (rl : Nat) (rfn : Nat) (rtm : Array Value) (rdd : Nat) (c0 : Int) (c1 : Int) (r112 : ((List Int) × Int × Int)) (v : (Int × (List Int))) : Fr × LL := ([(0, .one (.yl rl)), (1, .one (.ptr 1000 0)), (2, .one (.ptr 1001 0)), (4, .one (.slc 7)), (5, aI v.1)], [(1000, .cells [.dat tI c0]), (1001, .cells [.dat tI c1]), (1002, .cells [.dat (.slice (.int .u32)) r112.1]), (1003, .cells [.dat tI r112.2.1]), (1004, .cells [.dat tI r112.2.2]), (7, .seq tI v.2), (1999, .raw rl (.loop (recOf rfn rtm 38 (nav (bodyOf Try.f25) [0, 0, 1, 0, 1, 1, 1, 1]) (nav (bodyOf Try.f25) [1, 0, 1, 0, 1, 1, 1, 1]) rdd)))])
noncomputable def lone_choices_1_for_lone_Lucky_b20 (fuel : Nat) (c0 : Int) (c1 : Int) (rf_y : (List Int) → ((List Int) × Int × Int) → Option ((List Int) × Int × Int)) (x57 : ((List Int) × Int × Int × (List Int))) : Option (Flow ((List Int) × Int × Int × (List Int)) ((List Int) × Int × Int)) :=
(rf_y x57.2.2.2 (x57.1, x57.2.1, x57.2.2.1)).bind fun r112 =>
(iter (lone_choices_1_for_lone_Lucky_b17 c0 c1) fuel ((0 : Int), x57.2.2.2)).bind fun v159 =>
bif v159.1 == c0 then
(some (.done (r112.1, r112.2.1, r112.2.2)))
else
((idx v159.2 v159.1).bind fun v164 =>
some (.next (r112.1, r112.2.1, r112.2.2, List.set v159.2 (Int.toNat v159.1) (w64 (v164 + (1 : Int))))))
@[reducible] noncomputable def lone_choices_1_for_lone_Lucky_s21 (rl : Nat) (rfn : Nat) (rtm : Array Value) (rdd : Nat) (c0 : Int) (c1 : Int) (v : ((List Int) × Int × Int × (List Int))) : Fr × LL := ([(0, .one (.yl rl)), (1, .one (.ptr 1000 0)), (2, .one (.ptr 1001 0)), (4, .one (.slc 7))], [(1000, .cells [.dat tI c0]), (1001, .cells [.dat tI c1]), (1002, .cells [.dat (.slice (.int .u32)) v.1]), (1003, .cells [.dat tI v.2.1]), (1004, .cells [.dat tI v.2.2.1]), (7, .seq tI v.2.2.2), (1999, .raw rl (.loop (recOf rfn rtm 38 (nav (bodyOf Try.f25) [0, 0, 1, 0, 1, 1, 1, 1]) (nav (bodyOf Try.f25) [1, 0, 1, 0, 1, 1, 1, 1]) rdd)))])
@[reducible] noncomputable def lone_choices_1_for_lone_Lucky_s22 (rl : Nat) (rfn : Nat) (rtm : Array Value) (rdd : Nat) (c0 : Int) (c1 : Int) (v : ((List Int) × Int × Int)) : Fr × LL := ([], [(1000, .cells [.dat tI c0]), (1001, .cells [.dat tI c1]), (1002, .cells [.dat (.slice (.int .u32)) v.1]), (1003, .cells [.dat tI v.2.1]), (1004, .cells [.dat tI v.2.2]), (1999, .raw rl (.loop (recOf rfn rtm 38 (nav (bodyOf Try.f25) [0, 0, 1, 0, 1, 1, 1, 1]) (nav (bodyOf Try.f25) [1, 0, 1, 0, 1, 1, 1, 1]) rdd)))])
noncomputable def lone_choices_1_for_lone_Lucky (rf_y : (List Int) → ((List Int) × Int × Int) → Option ((List Int) × Int × Int)) (fuel : Nat) (c0 : Int) (c1 : Int) (x0 : ((List Int) × Int × Int)) : Option ((List Int) × Int × Int) :=
(ck (0 ≤ c0 ∧ c0 = c0 ∧ c0 ≤ 4294967296)).bind fun _ =>
(iter (lone_choices_1_for_lone_Lucky_b20 fuel c0 c1 rf_y) fuel (x0.1, x0.2.1, x0.2.2, List.replicate (Int.toNat c0) (0 : Int))).bind fun v166 =>
some (v166.1, v166.2.1, v166.2.2)
theorem lone_choices_1_for_lone_Lucky_ok {rf_y : (List Int) → ((List Int) × Int × Int) → Option ((List Int) × Int × Int)} (ih_y : ∀ {l : Nat} {y : (List Int)} {x : ((List Int) × Int × Int)} {s : ((List Int) × Int × Int)}, rf_y y x = some s → BodyC Try.prog 62 (nav (bodyOf Try.f25) [1, 0, 1, 0, 1, 1, 1, 1]) l (putF (putF [(4, .one (.ptr 1002 0)), (10, .one (.ptr 1003 0)), (11, .one (.ptr 1004 0))] 38 (.one (.slc 1998))) 12 (.one (.slc 1998))) (lone_choices_1_for_lone_Lucky_S y x) (exq .normal (lone_choices_1_for_lone_Lucky_S y s))) {fuel : Nat} {c0 : Int} {c1 : Int} {x0 : ((List Int) × Int × Int)} {r : ((List Int) × Int × Int)} (h : lone_choices_1_for_lone_Lucky rf_y fuel c0 c1 x0 = some r) {rl rfn rdd : Nat} {rtm : Array Value} (htm : rtm.size = 62) : FnI Try.prog 83 [.one (.yl rl), .one (.ptr 1000 0), .one (.ptr 1001 0)] (([(1000, .cells [.dat tI c0]), (1001, .cells [.dat tI c1])] ++ lone_choices_1_for_lone_Lucky_SX x0) ++ [(1999, .raw rl (.loop (recOf rfn rtm 38 (nav (bodyOf Try.f25) [0, 0, 1, 0, 1, 1, 1, 1]) (nav (bodyOf Try.f25) [1, 0, 1, 0, 1, 1, 1, 1]) rdd)))]) (.tup []) (([(1000, .cells [.dat tI c0]), (1001, .cells [.dat tI c1])] ++ lone_choices_1_for_lone_Lucky_SX r) ++ [(1999, .raw rl (.loop (endRec .normal (recOf rfn rtm 38 (nav (bodyOf Try.f25) [0, 0, 1, 0, 1, 1, 1, 1]) (nav (bodyOf Try.f25) [1, 0, 1, 0, 1, 1, 1, 1]) rdd))))]) 62 [(4, .one (.ptr 1002 0)), (10, .one (.ptr 1003 0)), (11, .one (.ptr 1004 0))] rtm := by
  refine fnI_of_W [(1998, 7)] (B := bodyOf Try.f83) (n := 37) Try.func83 (by kernel_rfl) (by kernel_rfl) (by kernel_rfl) (by kernel_rfl) (by kernel_rfl) (by kernel_rfl) (by kernel_rfl) ?_
  intro K hF
  refine W_seq (by kernel_rfl) ?_
  obtain ⟨_, h1, h⟩ := bind_of h
  replace h1 := ck_some h1
  refine W_run 3 [] [0, 1, 2, 4] [1000, 1001, 7, 1002, 1003, 1004, 1999] (fr' := [(0, .one (.yl rl)), (1, .one (.ptr 1000 0)), (2, .one (.ptr 1001 0)), (4, .one (.slc 7))]) (L' := [(1000, .cells [.dat tI c0]), (1001, .cells [.dat tI c1]), (7, .seq tI (List.replicate (Int.toNat c0) (0 : Int))), (1002, .cells [.dat (.slice (.int .u32)) x0.1]), (1003, .cells [.dat tI x0.2.1]), (1004, .cells [.dat tI x0.2.2]), (1999, .raw rl (.loop (recOf rfn rtm 38 (nav (bodyOf Try.f25) [0, 0, 1, 0, 1, 1, 1, 1]) (nav (bodyOf Try.f25) [1, 0, 1, 0, 1, 1, 1, 1]) rdd)))]) (obs := [0 ≤ c0 ∧ c0 = c0 ∧ SmallLen c0]) (by kernel_rfl) (by kernel_rfl) (by kernel_rfl) (allP1 h1) ?_
  refine seqQ_norm ?_
  refine W_block (id := 0) (by kernel_rfl) ?_
  obtain ⟨v166, h167, h⟩ := bind_of h
  refine W_weaken [0, 1, 2, 4] [1000, 1001, 1002, 1003, 1004, 7, 1999] (fr' := ((lone_choices_1_for_lone_Lucky_s21 rl rfn rtm rdd c0 c1) (x0.1, x0.2.1, x0.2.2, List.replicate (Int.toNat c0) (0 : Int))).1) (L' := ((lone_choices_1_for_lone_Lucky_s21 rl rfn rtm rdd c0 c1) (x0.1, x0.2.1, x0.2.2, List.replicate (Int.toNat c0) (0 : Int))).2) (by kernel_rfl) ?_
  refine W_cutK (W_loop (S := (lone_choices_1_for_lone_Lucky_s21 rl rfn rtm rdd c0 c1)) (J := (exQ .ret (lone_choices_1_for_lone_Lucky_s22 rl rfn rtm rdd c0 c1))) (by kernel_rfl) ?_ fuel _ v166 h167) ?_
  · rintro x57 s h
    refine W_seq (by kernel_rfl) ?_
    refine W_seq (by kernel_rfl) ?_
    obtain ⟨r112, h113, h⟩ := bind_of h
    refine W_yieldN [(1998, 7)] 2 [] [0, 1, 2, 4, 8, 9] [7, 1000, 1001, 1002, 1003, 1004, 1999] (obs := []) (fr1 := [(0, .one (.yl rl)), (1, .one (.ptr 1000 0)), (2, .one (.ptr 1001 0)), (4, .one (.slc 7)), (8, .one (.yl rl)), (9, .one (.slc 7))]) (L1 := [(7, .seq tI x57.2.2.2), (1000, .cells [.dat tI c0]), (1001, .cells [.dat tI c1]), (1002, .cells [.dat (.slice (.int .u32)) x57.1]), (1003, .cells [.dat tI x57.2.1]), (1004, .cells [.dat tI x57.2.2.1]), (1999, .raw rl (.loop (recOf rfn rtm 38 (nav (bodyOf Try.f25) [0, 0, 1, 0, 1, 1, 1, 1]) (nav (bodyOf Try.f25) [1, 0, 1, 0, 1, 1, 1, 1]) rdd)))]) (d := 10) (l := rl) (nR := 1999) (n1 := 62) (q := 38) (d1 := 12) (y := .slc 1998) (rec := recOf rfn rtm 38 (nav (bodyOf Try.f25) [0, 0, 1, 0, 1, 1, 1, 1]) (nav (bodyOf Try.f25) [1, 0, 1, 0, 1, 1, 1, 1]) rdd) (fr0 := [(4, .one (.ptr 1002 0)), (10, .one (.ptr 1003 0)), (11, .one (.ptr 1004 0))]) (Lin := lone_choices_1_for_lone_Lucky_S x57.2.2.2 (x57.1, x57.2.1, x57.2.2.1)) (Lo := lone_choices_1_for_lone_Lucky_S x57.2.2.2 r112) (by kernel_rfl) rfl (by kernel_rfl) allP0 (by kernel_rfl) (by kernel_rfl) (by kernel_rfl) (recOk_of htm (by kernel_rfl) (by kernel_rfl) (by kernel_rfl)) hF (ih_y h113) (by kernel_rfl) (by kernel_rfl) (by kernel_rfl) (by kernel_rfl) ?_
    refine WO_fin [0, 1, 2, 4, 10] [1000, 1001, 7, 1002, 1003, 1004, 1999] (fr' := [(0, .one (.yl rl)), (1, .one (.ptr 1000 0)), (2, .one (.ptr 1001 0)), (4, .one (.slc 7)), (10, aB true)]) (L' := [(1000, .cells [.dat tI c0]), (1001, .cells [.dat tI c1]), (7, .seq tI x57.2.2.2), (1002, .cells [.dat (.slice (.int .u32)) r112.1]), (1003, .cells [.dat tI r112.2.1]), (1004, .cells [.dat tI r112.2.2]), (1999, .raw rl (.loop (recOf rfn rtm 38 (nav (bodyOf Try.f25) [0, 0, 1, 0, 1, 1, 1, 1]) (nav (bodyOf Try.f25) [1, 0, 1, 0, 1, 1, 1, 1]) rdd)))]) (by kernel_rfl) (by kernel_rfl) ?_
    refine seqQ_norm ?_
    refine W_cond (o := .tmp 10) (b := true) (by kernel_rfl) (by kernel_rfl) (fun h114 => ?_) (fun h114 => by have := (rfl : true = true).symm.trans h114; cases this)
    refine W_skip [0, 1, 2, 4] [1000, 1001, 7, 1002, 1003, 1004, 1999] (fr' := [(0, .one (.yl rl)), (1, .one (.ptr 1000 0)), (2, .one (.ptr 1001 0)), (4, .one (.slc 7))]) (L' := [(1000, .cells [.dat tI c0]), (1001, .cells [.dat tI c1]), (7, .seq tI x57.2.2.2), (1002, .cells [.dat (.slice (.int .u32)) r112.1]), (1003, .cells [.dat tI r112.2.1]), (1004, .cells [.dat tI r112.2.2]), (1999, .raw rl (.loop (recOf rfn rtm 38 (nav (bodyOf Try.f25) [0, 0, 1, 0, 1, 1, 1, 1]) (nav (bodyOf Try.f25) [1, 0, 1, 0, 1, 1, 1, 1]) rdd)))]) (by kernel_rfl) (by kernel_rfl) ?_
    refine seqQ_norm ?_
    refine W_block (id := 1) (by kernel_rfl) ?_
    refine W_seq (by kernel_rfl) ?_
    refine W_run 1 [] [0, 1, 2, 4, 5] [1000, 1001, 7, 1002, 1003, 1004, 1999] (fr' := [(0, .one (.yl rl)), (1, .one (.ptr 1000 0)), (2, .one (.ptr 1001 0)), (4, .one (.slc 7)), (5, aI (0 : Int))]) (L' := [(1000, .cells [.dat tI c0]), (1001, .cells [.dat tI c1]), (7, .seq tI x57.2.2.2), (1002, .cells [.dat (.slice (.int .u32)) r112.1]), (1003, .cells [.dat tI r112.2.1]), (1004, .cells [.dat tI r112.2.2]), (1999, .raw rl (.loop (recOf rfn rtm 38 (nav (bodyOf Try.f25) [0, 0, 1, 0, 1, 1, 1, 1]) (nav (bodyOf Try.f25) [1, 0, 1, 0, 1, 1, 1, 1]) rdd)))]) (obs := []) (by kernel_rfl) (by kernel_rfl) (by kernel_rfl) allP0 ?_
    refine seqQ_norm ?_
    refine W_seq (by kernel_rfl) ?_
    refine W_block (id := 2) (by kernel_rfl) ?_
    obtain ⟨v159, h160, h⟩ := bind_of h
    refine W_weaken [0, 1, 2, 4, 5] [1000, 1001, 1002, 1003, 1004, 7, 1999] (fr' := ((lone_choices_1_for_lone_Lucky_s18 rl rfn rtm rdd c0 c1 r112) ((0 : Int), x57.2.2.2)).1) (L' := ((lone_choices_1_for_lone_Lucky_s18 rl rfn rtm rdd c0 c1 r112) ((0 : Int), x57.2.2.2)).2) (by kernel_rfl) ?_
    refine W_cutK (W_loop (S := (lone_choices_1_for_lone_Lucky_s18 rl rfn rtm rdd c0 c1 r112)) (J := (exQ (.exit 2) (lone_choices_1_for_lone_Lucky_s19 rl rfn rtm rdd c0 c1 r112))) (by kernel_rfl) ?_ fuel _ v159 h160) ?_
    · rintro x130 s h
      refine W_seq (by kernel_rfl) ?_
      refine W_seq (by kernel_rfl) ?_
      obtain ⟨v154, h155, h⟩ := bind_of h
      refine W_cutK (Q' := (exQ .normal (lone_choices_1_for_lone_Lucky_s16 rl rfn rtm rdd c0 c1 r112 x130)) v154) ?_ ?_
      · replace h := h155
        rcases Bool.eq_false_or_eq_true (decide (x130.1 < c0)) with h151 | h151
        · replace h := ofT h151 h
          obtain ⟨v152, h153, h⟩ := bind_of h
          obtain rfl := Option.some.inj h
          refine W_draw2 12 [(8, .known true), (10, .known true), (12, .known true), (14, .known true), (15, .val (.dat tI v152)), (16, .known true), (18, .known true), (20, .known true), (23, .val (.dat .bool true))] [] [0, 1, 2, 4, 5, 22] [1000, 1001, 1002, 1003, 1004, 7, 1999] (fr' := [(0, .one (.yl rl)), (1, .one (.ptr 1000 0)), (2, .one (.ptr 1001 0)), (4, .one (.slc 7)), (5, aI x130.1), (22, aB (v152 == (w64 (c1 - (1 : Int)))))]) (L' := [(1000, .cells [.dat tI c0]), (1001, .cells [.dat tI c1]), (1002, .cells [.dat (.slice (.int .u32)) r112.1]), (1003, .cells [.dat tI r112.2.1]), (1004, .cells [.dat tI r112.2.2]), (7, .seq tI x130.2), (1999, .raw rl (.loop (recOf rfn rtm 38 (nav (bodyOf Try.f25) [0, 0, 1, 0, 1, 1, 1, 1]) (nav (bodyOf Try.f25) [1, 0, 1, 0, 1, 1, 1, 1]) rdd)))]) (out := [(11, aI x130.1), (12, aI c0), (13, aB (decide (x130.1 < c0))), (14, aB (decide (x130.1 < c0))), (15, .one (.slc 7)), (16, aI x130.1), (17, .one (.eptr 7 1 x130.1 0)), (18, aI v152), (19, aI c1), (20, aI (w64 (c1 - (1 : Int)))), (21, aB (v152 == (w64 (c1 - (1 : Int))))), (22, aB (v152 == (w64 (c1 - (1 : Int)))))]) (obs := [((decide (x130.1 < c0)) = true), ((decide (x130.1 < c0)) = true), ((decide (x130.1 < c0)) = true), InR x130.1 (List.length x130.2), ((decide (x130.1 < c0)) = true), Idx x130.2 x130.1 v152, ((decide (x130.1 < c0)) = true), ((decide (x130.1 < c0)) = true), ((decide (x130.1 < c0)) = true), ((decide (x130.1 < c0)) = true)]) (obs2 := []) (calls := []) (by kernel_rfl) (by kernel_rfl) (by kernel_rfl) (by kernel_rfl) (allP2 h151 (allP2 h151 (allP2 h151 (allP2 (InR.of h153) (allP2 h151 (allP2 (Idx.of h153) (allP2 h151 (allP2 h151 (allP2 h151 (allP1 h151)))))))))) allC0 (by kernel_rfl) allP0 ?_
          exact exQ_mk (by kernel_rfl) (by kernel_rfl)
        · replace h := ofF h151 h
          obtain rfl := Option.some.inj h
          refine W_draw2 12 [(8, .known false), (10, .known false), (12, .known false), (14, .known false), (16, .known false), (18, .known false), (20, .known false), (23, .val (.dat .bool false))] [] [0, 1, 2, 4, 5, 22] [1000, 1001, 1002, 1003, 1004, 7, 1999] (fr' := [(0, .one (.yl rl)), (1, .one (.ptr 1000 0)), (2, .one (.ptr 1001 0)), (4, .one (.slc 7)), (5, aI x130.1), (22, aB false)]) (L' := [(1000, .cells [.dat tI c0]), (1001, .cells [.dat tI c1]), (1002, .cells [.dat (.slice (.int .u32)) r112.1]), (1003, .cells [.dat tI r112.2.1]), (1004, .cells [.dat tI r112.2.2]), (7, .seq tI x130.2), (1999, .raw rl (.loop (recOf rfn rtm 38 (nav (bodyOf Try.f25) [0, 0, 1, 0, 1, 1, 1, 1]) (nav (bodyOf Try.f25) [1, 0, 1, 0, 1, 1, 1, 1]) rdd)))]) (out := [(11, aI x130.1), (12, aI c0), (13, aB (decide (x130.1 < c0))), (14, aB (decide (x130.1 < c0))), (15, .tup []), (16, .tup []), (17, .tup []), (18, .tup []), (19, .tup []), (20, .tup []), (21, .tup []), (22, aB false)]) (obs := [((decide (x130.1 < c0)) = false), ((decide (x130.1 < c0)) = false), ((decide (x130.1 < c0)) = false), ((decide (x130.1 < c0)) = false), ((decide (x130.1 < c0)) = false), ((decide (x130.1 < c0)) = false), ((decide (x130.1 < c0)) = false), ((decide (x130.1 < c0)) = false)]) (obs2 := []) (calls := []) (by kernel_rfl) (by kernel_rfl) (by kernel_rfl) (by kernel_rfl) (allP2 h151 (allP2 h151 (allP2 h151 (allP2 h151 (allP2 h151 (allP2 h151 (allP2 h151 (allP1 h151)))))))) allC0 (by kernel_rfl) allP0 ?_
          exact exQ_mk (by kernel_rfl) (by kernel_rfl)
      · intro e fr L hJ
        obtain ⟨rfl, rfl, rfl⟩ := hJ
        refine LT_keep [0, 1, 2, 4, 5, 22] [1000, 1001, 7, 1002, 1003, 1004, 1999] (fr' := [(0, .one (.yl rl)), (1, .one (.ptr 1000 0)), (2, .one (.ptr 1001 0)), (4, .one (.slc 7)), (5, aI x130.1), (22, aB v154)]) (L' := [(1000, .cells [.dat tI c0]), (1001, .cells [.dat tI c1]), (7, .seq tI x130.2), (1002, .cells [.dat (.slice (.int .u32)) r112.1]), (1003, .cells [.dat tI r112.2.1]), (1004, .cells [.dat tI r112.2.2]), (1999, .raw rl (.loop (recOf rfn rtm 38 (nav (bodyOf Try.f25) [0, 0, 1, 0, 1, 1, 1, 1]) (nav (bodyOf Try.f25) [1, 0, 1, 0, 1, 1, 1, 1]) rdd)))]) (by kernel_rfl) ?_
        refine seqQ_norm ?_
        refine W_cond (o := .tmp 22) (b := v154) (by kernel_rfl) (by kernel_rfl) (fun h156 => ?_) (fun h156 => ?_)
        · replace h := ofT h156 h
          refine W_skip [0, 1, 2, 4, 5] [1000, 1001, 7, 1002, 1003, 1004, 1999] (fr' := [(0, .one (.yl rl)), (1, .one (.ptr 1000 0)), (2, .one (.ptr 1001 0)), (4, .one (.slc 7)), (5, aI x130.1)]) (L' := [(1000, .cells [.dat tI c0]), (1001, .cells [.dat tI c1]), (7, .seq tI x130.2), (1002, .cells [.dat (.slice (.int .u32)) r112.1]), (1003, .cells [.dat tI r112.2.1]), (1004, .cells [.dat tI r112.2.2]), (1999, .raw rl (.loop (recOf rfn rtm 38 (nav (bodyOf Try.f25) [0, 0, 1, 0, 1, 1, 1, 1]) (nav (bodyOf Try.f25) [1, 0, 1, 0, 1, 1, 1, 1]) rdd)))]) (by kernel_rfl) (by kernel_rfl) ?_
          refine seqQ_norm ?_
          refine W_seq (by kernel_rfl) ?_
          refine W_block (id := 3) (by kernel_rfl) ?_
          obtain ⟨v157, h158, h⟩ := bind_of h
          refine W_run 4 [] [0, 1, 2, 4, 5] [1000, 1001, 7, 1002, 1003, 1004, 1999] (fr' := [(0, .one (.yl rl)), (1, .one (.ptr 1000 0)), (2, .one (.ptr 1001 0)), (4, .one (.slc 7)), (5, aI x130.1)]) (L' := [(1000, .cells [.dat tI c0]), (1001, .cells [.dat tI c1]), (7, .seq tI (List.set x130.2 (Int.toNat x130.1) (0 : Int))), (1002, .cells [.dat (.slice (.int .u32)) r112.1]), (1003, .cells [.dat tI r112.2.1]), (1004, .cells [.dat tI r112.2.2]), (1999, .raw rl (.loop (recOf rfn rtm 38 (nav (bodyOf Try.f25) [0, 0, 1, 0, 1, 1, 1, 1]) (nav (bodyOf Try.f25) [1, 0, 1, 0, 1, 1, 1, 1]) rdd)))]) (obs := [InR x130.1 (List.length x130.2), InR x130.1 (List.length x130.2)]) (by kernel_rfl) (by kernel_rfl) (by kernel_rfl) (allP2 (InR.of h158) (allP1 (InR.of h158))) ?_
          refine blockQ_norm ?_
          refine seqQ_norm ?_
          obtain rfl := Option.some.inj h
          refine W_run 3 [] [0, 1, 2, 4, 5] [1000, 1001, 1002, 1003, 1004, 7, 1999] (fr' := [(0, .one (.yl rl)), (1, .one (.ptr 1000 0)), (2, .one (.ptr 1001 0)), (4, .one (.slc 7)), (5, aI (w64 (x130.1 + (1 : Int))))]) (L' := [(1000, .cells [.dat tI c0]), (1001, .cells [.dat tI c1]), (1002, .cells [.dat (.slice (.int .u32)) r112.1]), (1003, .cells [.dat tI r112.2.1]), (1004, .cells [.dat tI r112.2.2]), (7, .seq tI (List.set x130.2 (Int.toNat x130.1) (0 : Int))), (1999, .raw rl (.loop (recOf rfn rtm 38 (nav (bodyOf Try.f25) [0, 0, 1, 0, 1, 1, 1, 1]) (nav (bodyOf Try.f25) [1, 0, 1, 0, 1, 1, 1, 1]) rdd)))]) (obs := []) (by kernel_rfl) (by kernel_rfl) (by kernel_rfl) allP0 ?_
          exact round_next' (by kernel_rfl) (by kernel_rfl)
        · replace h := ofF h156 h
          obtain rfl := Option.some.inj h
          refine W_exit (id := 2) [0, 1, 2, 4, 5] [1000, 1001, 1002, 1003, 1004, 7, 1999] (fr' := [(0, .one (.yl rl)), (1, .one (.ptr 1000 0)), (2, .one (.ptr 1001 0)), (4, .one (.slc 7)), (5, aI x130.1)]) (L' := [(1000, .cells [.dat tI c0]), (1001, .cells [.dat tI c1]), (1002, .cells [.dat (.slice (.int .u32)) r112.1]), (1003, .cells [.dat tI r112.2.1]), (1004, .cells [.dat tI r112.2.2]), (7, .seq tI x130.2), (1999, .raw rl (.loop (recOf rfn rtm 38 (nav (bodyOf Try.f25) [0, 0, 1, 0, 1, 1, 1, 1]) (nav (bodyOf Try.f25) [1, 0, 1, 0, 1, 1, 1, 1]) rdd)))]) (by kernel_rfl) (by kernel_rfl) ?_
          refine seqQ_exit ?_
          refine round_exit ?_
          exact exQ_mk (by kernel_rfl) (by kernel_rfl)
    · intro e fr L hJ
      obtain ⟨rfl, rfl, rfl⟩ := hJ
      refine LT_keep [0, 1, 2, 4, 5] [1000, 1001, 7, 1002, 1003, 1004, 1999] (fr' := [(0, .one (.yl rl)), (1, .one (.ptr 1000 0)), (2, .one (.ptr 1001 0)), (4, .one (.slc 7)), (5, aI v159.1)]) (L' := [(1000, .cells [.dat tI c0]), (1001, .cells [.dat tI c1]), (7, .seq tI v159.2), (1002, .cells [.dat (.slice (.int .u32)) r112.1]), (1003, .cells [.dat tI r112.2.1]), (1004, .cells [.dat tI r112.2.2]), (1999, .raw rl (.loop (recOf rfn rtm 38 (nav (bodyOf Try.f25) [0, 0, 1, 0, 1, 1, 1, 1]) (nav (bodyOf Try.f25) [1, 0, 1, 0, 1, 1, 1, 1]) rdd)))]) (by kernel_rfl) ?_
      refine blockQ_hit ?_
      refine seqQ_norm ?_
      refine W_seq (by kernel_rfl) ?_
      refine W_seq (by kernel_rfl) ?_
      refine W_run 3 [] [0, 1, 2, 4, 5, 30] [1000, 1001, 7, 1002, 1003, 1004, 1999] (fr' := [(0, .one (.yl rl)), (1, .one (.ptr 1000 0)), (2, .one (.ptr 1001 0)), (4, .one (.slc 7)), (5, aI v159.1), (30, aB (v159.1 == c0))]) (L' := [(1000, .cells [.dat tI c0]), (1001, .cells [.dat tI c1]), (7, .seq tI v159.2), (1002, .cells [.dat (.slice (.int .u32)) r112.1]), (1003, .cells [.dat tI r112.2.1]), (1004, .cells [.dat tI r112.2.2]), (1999, .raw rl (.loop (recOf rfn rtm 38 (nav (bodyOf Try.f25) [0, 0, 1, 0, 1, 1, 1, 1]) (nav (bodyOf Try.f25) [1, 0, 1, 0, 1, 1, 1, 1]) rdd)))]) (obs := []) (by kernel_rfl) (by kernel_rfl) (by kernel_rfl) allP0 ?_
      refine seqQ_norm ?_
      refine W_cond (o := .tmp 30) (b := v159.1 == c0) (by kernel_rfl) (by kernel_rfl) (fun h163 => ?_) (fun h163 => ?_)
      · replace h := ofT h163 h
        obtain rfl := Option.some.inj h
        refine W_ret [] [1000, 1001, 1002, 1003, 1004, 1999] (fr' := []) (L' := [(1000, .cells [.dat tI c0]), (1001, .cells [.dat tI c1]), (1002, .cells [.dat (.slice (.int .u32)) r112.1]), (1003, .cells [.dat tI r112.2.1]), (1004, .cells [.dat tI r112.2.2]), (1999, .raw rl (.loop (recOf rfn rtm 38 (nav (bodyOf Try.f25) [0, 0, 1, 0, 1, 1, 1, 1]) (nav (bodyOf Try.f25) [1, 0, 1, 0, 1, 1, 1, 1]) rdd)))]) (by kernel_rfl) (by kernel_rfl) ?_
        refine seqQ_ret ?_
        refine blockQ_ret ?_
        refine round_ret ?_
        exact exQ_mk (by kernel_rfl) (by kernel_rfl)
      · replace h := ofF h163 h
        refine W_skip [0, 1, 2, 4, 5] [1000, 1001, 7, 1002, 1003, 1004, 1999] (fr' := [(0, .one (.yl rl)), (1, .one (.ptr 1000 0)), (2, .one (.ptr 1001 0)), (4, .one (.slc 7)), (5, aI v159.1)]) (L' := [(1000, .cells [.dat tI c0]), (1001, .cells [.dat tI c1]), (7, .seq tI v159.2), (1002, .cells [.dat (.slice (.int .u32)) r112.1]), (1003, .cells [.dat tI r112.2.1]), (1004, .cells [.dat tI r112.2.2]), (1999, .raw rl (.loop (recOf rfn rtm 38 (nav (bodyOf Try.f25) [0, 0, 1, 0, 1, 1, 1, 1]) (nav (bodyOf Try.f25) [1, 0, 1, 0, 1, 1, 1, 1]) rdd)))]) (by kernel_rfl) (by kernel_rfl) ?_
        refine seqQ_norm ?_
        obtain ⟨v164, h165, h⟩ := bind_of h
        obtain rfl := Option.some.inj h
        refine W_run 7 [(7, .val (.dat tI v164))] [0, 1, 2, 4] [1000, 1001, 1002, 1003, 1004, 7, 1999] (fr' := [(0, .one (.yl rl)), (1, .one (.ptr 1000 0)), (2, .one (.ptr 1001 0)), (4, .one (.slc 7))]) (L' := [(1000, .cells [.dat tI c0]), (1001, .cells [.dat tI c1]), (1002, .cells [.dat (.slice (.int .u32)) r112.1]), (1003, .cells [.dat tI r112.2.1]), (1004, .cells [.dat tI r112.2.2]), (7, .seq tI (List.set v159.2 (Int.toNat v159.1) (w64 (v164 + (1 : Int))))), (1999, .raw rl (.loop (recOf rfn rtm 38 (nav (bodyOf Try.f25) [0, 0, 1, 0, 1, 1, 1, 1]) (nav (bodyOf Try.f25) [1, 0, 1, 0, 1, 1, 1, 1]) rdd)))]) (obs := [InR v159.1 (List.length v159.2), Idx v159.2 v159.1 v164, InR v159.1 (List.length v159.2), InR v159.1 (List.length v159.2)]) (by kernel_rfl) (by kernel_rfl) (by kernel_rfl) (allP2 (InR.of h165) (allP2 (Idx.of h165) (allP2 (InR.of h165) (allP1 (InR.of h165))))) ?_
        refine blockQ_norm ?_
        exact round_next' (by kernel_rfl) (by kernel_rfl)
  · intro e fr L hJ
    obtain ⟨rfl, rfl, rfl⟩ := hJ
    obtain rfl := Option.some.inj h
    refine LT_keep [] [1000, 1001, 1002, 1003, 1004, 1999] (fr' := []) (L' := [(1000, .cells [.dat tI c0]), (1001, .cells [.dat tI c1]), (1002, .cells [.dat (.slice (.int .u32)) v166.1]), (1003, .cells [.dat tI v166.2.1]), (1004, .cells [.dat tI v166.2.2]), (1999, .raw rl (.loop (recOf rfn rtm 38 (nav (bodyOf Try.f25) [0, 0, 1, 0, 1, 1, 1, 1]) (nav (bodyOf Try.f25) [1, 0, 1, 0, 1, 1, 1, 1]) rdd)))]) (by kernel_rfl) ?_
    refine blockQ_ret ?_
    exact retQ_mk (by kernel_rfl) (by kernel_rfl) (by kernel_rfl)

noncomputable def lone_Lucky_b9 (i89 : Int) (v92 : Int) (x90 : (List Int)) : Option (Flow (List Int) (List Int)) :=
(ck ((List.length x90 : Int) + 1 ≤ 4294967296)).bind fun _ =>
some (.next (x90 ++ [IntKind.wrap .u32 (v92)]))
@[reducible] noncomputable def lone_Lucky_s10 (x78 : ((List Int) × Int × Int)) (y79 : (List Int)) (v : Int × (List Int)) : Fr × LL := ([(4, .one (.ptr 1002 0)), (10, .one (.ptr 1003 0)), (11, .one (.ptr 1004 0)), (13, .one (.slc 49)), (39, .one (.slc 1998)), (40, aI (List.length y79 : Int)), (41, aI v.1)], [(1002, .cells [.dat (.slice (.int .u32)) x78.1]), (1003, .cells [.dat tI x78.2.1]), (1004, .cells [.dat tI x78.2.2]), (49, .seq (.int .u32) v.2), (1998, .seq tI y79)])
@[reducible] noncomputable def lone_Lucky_s11 (x78 : ((List Int) × Int × Int)) (y79 : (List Int)) (v : (List Int)) : Fr × LL := ([(4, .one (.ptr 1002 0)), (10, .one (.ptr 1003 0)), (11, .one (.ptr 1004 0)), (13, .one (.slc 49))], [(1002, .cells [.dat (.slice (.int .u32)) x78.1]), (1003, .cells [.dat tI x78.2.1]), (1004, .cells [.dat tI x78.2.2]), (49, .seq (.int .u32) v), (1998, .seq tI y79)])
@[reducible] noncomputable def lone_Lucky_s12 (x78 : ((List Int) × Int × Int)) (y79 : (List Int)) (v : Int) : Fr × LL := ([(11, .one (.ptr 1004 0))], [(1004, .cells [.dat tI x78.2.2]), (1002, .cells [.dat (.slice (.int .u32)) x78.1]), (1003, .cells [.dat tI v]), (1998, .seq tI y79)])
noncomputable def lone_Lucky_r13 (y79 : (List Int)) (x78 : ((List Int) × Int × Int)) : Option ((List Int) × Int × Int) :=
(forL lone_Lucky_b9 (fun x90 => x90) y79 0 []).bind fun v97 =>
((lone_sieve x78.1 v97).bind fun r108 =>
bif (List.length r108 : Int) == (1 : Int) then
(some (w64 (x78.2.1 + (1 : Int))))
else
(some x78.2.1)).bind fun v111 =>
some (x78.1, v111, w64 (x78.2.2 + (1 : Int)))
theorem lone_Lucky_r13_ok {l : Nat} {y79 : (List Int)} {x78 : ((List Int) × Int × Int)} {s : ((List Int) × Int × Int)} (h : lone_Lucky_r13 y79 x78 = some s) : BodyC Try.prog 62 (nav (bodyOf Try.f25) [1, 0, 1, 0, 1, 1, 1, 1]) l (putF (putF [(4, .one (.ptr 1002 0)), (10, .one (.ptr 1003 0)), (11, .one (.ptr 1004 0))] 38 (.one (.slc 1998))) 12 (.one (.slc 1998))) (lone_choices_1_for_lone_Lucky_S y79 x78) (exq .normal (lone_choices_1_for_lone_Lucky_S y79 s)) := by
  refine bodyC_of_W (by kernel_rfl) (fun K => ?_)
  refine W_weaken [4, 10, 11, 38, 12] [1002, 1003, 1004, 1998] (fr' := [(4, .one (.ptr 1002 0)), (10, .one (.ptr 1003 0)), (11, .one (.ptr 1004 0)), (38, .one (.slc 1998)), (12, .one (.slc 1998))]) (L' := [(1002, .cells [.dat (.slice (.int .u32)) x78.1]), (1003, .cells [.dat tI x78.2.1]), (1004, .cells [.dat tI x78.2.2]), (1998, .seq tI y79)]) (by kernel_rfl) ?_
  refine W_block (id := 1) (by kernel_rfl) ?_
  refine W_seq (by kernel_rfl) ?_
  refine W_run 1 [] [4, 10, 11, 12, 13] [1002, 1003, 1004, 1998] (fr' := [(4, .one (.ptr 1002 0)), (10, .one (.ptr 1003 0)), (11, .one (.ptr 1004 0)), (12, .one (.slc 1998)), (13, .one (.nilS))]) (L' := [(1002, .cells [.dat (.slice (.int .u32)) x78.1]), (1003, .cells [.dat tI x78.2.1]), (1004, .cells [.dat tI x78.2.2]), (1998, .seq tI y79)]) (obs := []) (by kernel_rfl) (by kernel_rfl) (by kernel_rfl) allP0 ?_
  refine seqQ_norm ?_
  refine W_seq (by kernel_rfl) ?_
  refine W_seq (by kernel_rfl) ?_
  refine W_run 3 [] [4, 10, 11, 13, 39, 40, 41] [1002, 1003, 1004, 1998] (fr' := [(4, .one (.ptr 1002 0)), (10, .one (.ptr 1003 0)), (11, .one (.ptr 1004 0)), (13, .one (.nilS)), (39, .one (.slc 1998)), (40, aI (List.length y79 : Int)), (41, aI (0 : Int))]) (L' := [(1002, .cells [.dat (.slice (.int .u32)) x78.1]), (1003, .cells [.dat tI x78.2.1]), (1004, .cells [.dat tI x78.2.2]), (1998, .seq tI y79)]) (obs := []) (by kernel_rfl) (by kernel_rfl) (by kernel_rfl) allP0 ?_
  refine seqQ_norm ?_
  refine W_block (id := 2) (by kernel_rfl) ?_
  obtain ⟨v97, h98, h⟩ := bind_of h
  refine W_lenS (s := 1998) (u := tI) (xs := y79) (by kernel_rfl) (fun h101 => ?_)
  obtain ⟨h99, h100⟩ := forL_iter h101 h98
  refine W_mine 13 49 (.int .u32) (by kernel_rfl) ?_
  refine W_weaken [4, 10, 11, 13, 39, 40, 41] [1002, 1003, 1004, 49, 1998] (fr' := ((lone_Lucky_s10 x78 y79) ((0 : Int), [])).1) (L' := ((lone_Lucky_s10 x78 y79) ((0 : Int), [])).2) (by kernel_rfl) ?_
  refine W_cutK (W_loop (S := (lone_Lucky_s10 x78 y79)) (J := (exQ (.exit 2) (lone_Lucky_s11 x78 y79))) (by kernel_rfl) ?_ h99 _ v97 h100) ?_
  · rintro ⟨i89, x90⟩ s h
    refine W_seq (by kernel_rfl) ?_
    refine W_run 1 [] [4, 10, 11, 13, 39, 40, 41, 42] [1002, 1003, 1004, 49, 1998] (fr' := [(4, .one (.ptr 1002 0)), (10, .one (.ptr 1003 0)), (11, .one (.ptr 1004 0)), (13, .one (.slc 49)), (39, .one (.slc 1998)), (40, aI (List.length y79 : Int)), (41, aI i89), (42, aB (decide (i89 < (List.length y79 : Int))))]) (L' := [(1002, .cells [.dat (.slice (.int .u32)) x78.1]), (1003, .cells [.dat tI x78.2.1]), (1004, .cells [.dat tI x78.2.2]), (49, .seq (.int .u32) x90), (1998, .seq tI y79)]) (obs := []) (by kernel_rfl) (by kernel_rfl) (by kernel_rfl) allP0 ?_
    refine seqQ_norm ?_
    refine W_seq (by kernel_rfl) ?_
    refine W_cond (o := .tmp 42) (b := decide (i89 < (List.length y79 : Int))) (by kernel_rfl) (by kernel_rfl) (fun h94 => ?_) (fun h94 => ?_)
    · replace h := stepL_true h94 h
      obtain ⟨v92, _, h93, h, rfl⟩ := h
      refine W_skip [4, 10, 11, 13, 39, 40, 41] [1002, 1003, 1004, 49, 1998] (fr' := [(4, .one (.ptr 1002 0)), (10, .one (.ptr 1003 0)), (11, .one (.ptr 1004 0)), (13, .one (.slc 49)), (39, .one (.slc 1998)), (40, aI (List.length y79 : Int)), (41, aI i89)]) (L' := [(1002, .cells [.dat (.slice (.int .u32)) x78.1]), (1003, .cells [.dat tI x78.2.1]), (1004, .cells [.dat tI x78.2.2]), (49, .seq (.int .u32) x90), (1998, .seq tI y79)]) (by kernel_rfl) (by kernel_rfl) ?_
      refine seqQ_norm ?_
      refine W_seq (by kernel_rfl) ?_
      refine W_block (id := 3) (by kernel_rfl) ?_
      refine W_seq (by kernel_rfl) ?_
      refine W_run 3 [(3, .val (.dat tI v92))] [4, 10, 11, 13, 15, 39, 40, 41] [1002, 1003, 1004, 49, 1998] (fr' := [(4, .one (.ptr 1002 0)), (10, .one (.ptr 1003 0)), (11, .one (.ptr 1004 0)), (13, .one (.slc 49)), (15, aI v92), (39, .one (.slc 1998)), (40, aI (List.length y79 : Int)), (41, aI i89)]) (L' := [(1002, .cells [.dat (.slice (.int .u32)) x78.1]), (1003, .cells [.dat tI x78.2.1]), (1004, .cells [.dat tI x78.2.2]), (49, .seq (.int .u32) x90), (1998, .seq tI y79)]) (obs := [InR i89 (List.length y79), Idx y79 i89 v92]) (by kernel_rfl) (by kernel_rfl) (by kernel_rfl) (allP2 (InR.of h93) (allP1 (Idx.of h93))) ?_
      refine seqQ_norm ?_
      obtain ⟨_, h95, h⟩ := bind_of h
      replace h95 := ck_some h95
      refine W_run 6 [] [4, 10, 11, 13, 39, 40, 41] [1002, 1003, 1004, 49, 1998] (fr' := [(4, .one (.ptr 1002 0)), (10, .one (.ptr 1003 0)), (11, .one (.ptr 1004 0)), (13, .one (.slc 49)), (39, .one (.slc 1998)), (40, aI (List.length y79 : Int)), (41, aI i89)]) (L' := [(1002, .cells [.dat (.slice (.int .u32)) x78.1]), (1003, .cells [.dat tI x78.2.1]), (1004, .cells [.dat tI x78.2.2]), (49, .seq (.int .u32) (x90 ++ [IntKind.wrap .u32 (v92)])), (1998, .seq tI y79)]) (obs := [SmallLen (List.length x90 + List.length [IntKind.wrap .u32 (v92)])]) (by kernel_rfl) (by kernel_rfl) (by kernel_rfl) (allP1 h95) ?_
      refine blockQ_norm ?_
      refine seqQ_norm ?_
      obtain rfl := Option.some.inj h
      refine W_run 2 [] [4, 10, 11, 13, 39, 40, 41] [1002, 1003, 1004, 49, 1998] (fr' := [(4, .one (.ptr 1002 0)), (10, .one (.ptr 1003 0)), (11, .one (.ptr 1004 0)), (13, .one (.slc 49)), (39, .one (.slc 1998)), (40, aI (List.length y79 : Int)), (41, aI (w64 (i89 + (1 : Int))))]) (L' := [(1002, .cells [.dat (.slice (.int .u32)) x78.1]), (1003, .cells [.dat tI x78.2.1]), (1004, .cells [.dat tI x78.2.2]), (49, .seq (.int .u32) (x90 ++ [IntKind.wrap .u32 (v92)])), (1998, .seq tI y79)]) (obs := []) (by kernel_rfl) (by kernel_rfl) (by kernel_rfl) allP0 ?_
      exact round_next' (by kernel_rfl) (by kernel_rfl)
    · obtain rfl := stepL_false h94 h
      refine W_exit (id := 2) [4, 10, 11, 13] [1002, 1003, 1004, 49, 1998] (fr' := [(4, .one (.ptr 1002 0)), (10, .one (.ptr 1003 0)), (11, .one (.ptr 1004 0)), (13, .one (.slc 49))]) (L' := [(1002, .cells [.dat (.slice (.int .u32)) x78.1]), (1003, .cells [.dat tI x78.2.1]), (1004, .cells [.dat tI x78.2.2]), (49, .seq (.int .u32) x90), (1998, .seq tI y79)]) (by kernel_rfl) (by kernel_rfl) ?_
      refine seqQ_exit ?_
      refine round_exit ?_
      exact exQ_mk (by kernel_rfl) (by kernel_rfl)
  · intro e fr L hJ
    obtain ⟨rfl, rfl, rfl⟩ := hJ
    refine LT_keep [4, 10, 11, 13] [1002, 1003, 1004, 49, 1998] (fr' := [(4, .one (.ptr 1002 0)), (10, .one (.ptr 1003 0)), (11, .one (.ptr 1004 0)), (13, .one (.slc 49))]) (L' := [(1002, .cells [.dat (.slice (.int .u32)) x78.1]), (1003, .cells [.dat tI x78.2.1]), (1004, .cells [.dat tI x78.2.2]), (49, .seq (.int .u32) v97), (1998, .seq tI y79)]) (by kernel_rfl) ?_
    refine blockQ_hit ?_
    refine seqQ_norm ?_
    refine W_seq (by kernel_rfl) ?_
    obtain ⟨v111, h112, h⟩ := bind_of h
    refine W_cutK (Q' := (exQ .normal (lone_Lucky_s12 x78 y79)) v111) ?_ ?_
    · replace h := h112
      refine W_seq (by kernel_rfl) ?_
      refine W_region (by kernel_rfl) ?_
      refine WO_run (j := 2) (k := 2) (orcs := []) (kF := [10, 11, 51, 52]) (kL := [49, 1002, 1003, 1004, 1998]) (fr' := [(10, .one (.ptr 1003 0)), (11, .one (.ptr 1004 0)), (51, aD (.slice (.int .u32)) x78.1), (52, .one (.slc 49))]) (L' := [(49, .seq (.int .u32) v97), (1002, .cells [.dat (.slice (.int .u32)) x78.1]), (1003, .cells [.dat tI x78.2.1]), (1004, .cells [.dat tI x78.2.2]), (1998, .seq tI y79)]) (obs := []) rfl (by kernel_rfl) allP0 ?_
      obtain ⟨r108, h109, h⟩ := bind_of h
      refine WO_frz 49 (by kernel_rfl) ?_
      refine WO_call0 (us := [none, none]) (d := 53) (p := True) (j := 3) rfl ⟨by kernel_rfl, by kernel_rfl, by kernel_rfl⟩ trivial (lone_sieve_ok h109) (by kernel_rfl) ?_
      refine WO_run (j := 5) (k := 2) (orcs := []) (kF := [10, 11, 55]) (kL := [1002, 1003, 1004, 1998]) (fr' := [(10, .one (.ptr 1003 0)), (11, .one (.ptr 1004 0)), (55, aB ((List.length r108 : Int) == (1 : Int)))]) (L' := [(1002, .cells [.dat (.slice (.int .u32)) x78.1]), (1003, .cells [.dat tI x78.2.1]), (1004, .cells [.dat tI x78.2.2]), (1998, .seq tI y79)]) (obs := []) rfl (by kernel_rfl) allP0 ?_
      refine WO_fin [10, 11, 55] [1003, 1004, 1002, 1998] (fr' := [(10, .one (.ptr 1003 0)), (11, .one (.ptr 1004 0)), (55, aB ((List.length r108 : Int) == (1 : Int)))]) (L' := [(1003, .cells [.dat tI x78.2.1]), (1004, .cells [.dat tI x78.2.2]), (1002, .cells [.dat (.slice (.int .u32)) x78.1]), (1998, .seq tI y79)]) (by kernel_rfl) (by kernel_rfl) ?_
      refine seqQ_norm ?_
      refine W_cond (o := .tmp 55) (b := (List.length r108 : Int) == (1 : Int)) (by kernel_rfl) (by kernel_rfl) (fun h110 => ?_) (fun h110 => ?_)
      · replace h := ofT h110 h
        obtain rfl := Option.some.inj h
        refine W_run 3 [] [11] [1004, 1002, 1003, 1998] (fr' := [(11, .one (.ptr 1004 0))]) (L' := [(1004, .cells [.dat tI x78.2.2]), (1002, .cells [.dat (.slice (.int .u32)) x78.1]), (1003, .cells [.dat tI (w64 (x78.2.1 + (1 : Int)))]), (1998, .seq tI y79)]) (obs := [True]) (by kernel_rfl) (by kernel_rfl) (by kernel_rfl) (allP1 trivial) ?_
        exact exQ_mk (by kernel_rfl) (by kernel_rfl)
      · replace h := ofF h110 h
        obtain rfl := Option.some.inj h
        refine W_skip [11] [1004, 1002, 1003, 1998] (fr' := [(11, .one (.ptr 1004 0))]) (L' := [(1004, .cells [.dat tI x78.2.2]), (1002, .cells [.dat (.slice (.int .u32)) x78.1]), (1003, .cells [.dat tI x78.2.1]), (1998, .seq tI y79)]) (by kernel_rfl) (by kernel_rfl) ?_
        exact exQ_mk (by kernel_rfl) (by kernel_rfl)
    · intro e fr L hJ
      obtain ⟨rfl, rfl, rfl⟩ := hJ
      refine LT_keep [11] [1004, 1002, 1003, 1998] (fr' := [(11, .one (.ptr 1004 0))]) (L' := [(1004, .cells [.dat tI x78.2.2]), (1002, .cells [.dat (.slice (.int .u32)) x78.1]), (1003, .cells [.dat tI v111]), (1998, .seq tI y79)]) (by kernel_rfl) ?_
      refine seqQ_norm ?_
      obtain rfl := Option.some.inj h
      refine W_run 3 [] [] [1002, 1003, 1004, 1998] (fr' := []) (L' := [(1002, .cells [.dat (.slice (.int .u32)) x78.1]), (1003, .cells [.dat tI v111]), (1004, .cells [.dat tI (w64 (x78.2.2 + (1 : Int)))]), (1998, .seq tI y79)]) (obs := [True]) (by kernel_rfl) (by kernel_rfl) (by kernel_rfl) (allP1 trivial) ?_
      refine blockQ_norm ?_
      exact bodyQ_mk ⟨rfl, rfl⟩ (by kernel_rfl)
noncomputable def lone_Lucky (fuel : Nat) (a0 : Int) (a1 : (List Int)) (a2 : Int) : Option (Int × Int × Int) :=
(lone_wrong a0 a1).bind fun r1 =>
bif r1 != (0 : Int) then
(some ((0 : Int), (0 : Int), r1))
else
(bif ((decide (a2 < (0 : Int))) || (decide (a2 > (12 : Int)))) || (decide ((w64 (a2 * a0)) > (12 : Int))) then
(some ((0 : Int), (0 : Int), (2 : Int)))
else
((ck (0 ≤ a0)).bind fun _ =>
(lone_choices a2 (bShl .i64 (1 : Int) a0)).bind fun r6 =>
(lone_choices_1_for_lone_Lucky lone_Lucky_r13 fuel r6.1 r6.2 (a1, (0 : Int), (0 : Int))).bind fun r113 =>
some (r113.2.1, r113.2.2, (0 : Int))))
theorem lone_Lucky_ok {fuel : Nat} {a0 : Int} {a1 : (List Int)} {a2 : Int} {r : (Int × Int × Int)} (h : lone_Lucky fuel a0 a1 a2 = some r) : FnC Try.prog 25 [aI a0, aD (.slice (.int .u32)) a1, aI a2] [] (.tup [.dat tI r.1, .dat tI r.2.1, .dat tI r.2.2]) [] := by
  refine fnC_of_W (B := bodyOf Try.f25) (n := 62) Try.func25 (by kernel_rfl) (by kernel_rfl) (by kernel_rfl) (by kernel_rfl) (by kernel_rfl) ?_
  intro K
  refine W_seq (by kernel_rfl) ?_
  refine W_run 4 [] [0, 2, 4] [4] (fr' := [(0, aI a0), (2, aI a2), (4, .one (.ptr 4 0))]) (L' := [(4, .cells [.dat (.slice (.int .u32)) a1])]) (obs := []) (by kernel_rfl) (by kernel_rfl) (by kernel_rfl) allP0 ?_
  refine seqQ_norm ?_
  refine W_seq (by kernel_rfl) ?_
  refine W_seq (by kernel_rfl) ?_
  refine W_region (by kernel_rfl) ?_
  refine WO_run (j := 2) (k := 2) (orcs := []) (kF := [0, 2, 4, 16, 17]) (kL := [4]) (fr' := [(0, aI a0), (2, aI a2), (4, .one (.ptr 4 0)), (16, aI a0), (17, aD (.slice (.int .u32)) a1)]) (L' := [(4, .cells [.dat (.slice (.int .u32)) a1])]) (obs := []) rfl (by kernel_rfl) allP0 ?_
  obtain ⟨r1, h2, h⟩ := bind_of h
  refine WO_call0 (us := [none, none]) (d := 18) (p := True) (j := 3) rfl ⟨by kernel_rfl, by kernel_rfl, by kernel_rfl⟩ trivial (lone_wrong_ok h2) (by kernel_rfl) ?_
  refine WO_run (j := 4) (k := 1) (orcs := []) (kF := [0, 2, 4, 9]) (kL := [4]) (fr' := [(0, aI a0), (2, aI a2), (4, .one (.ptr 4 0)), (9, aI r1)]) (L' := [(4, .cells [.dat (.slice (.int .u32)) a1])]) (obs := []) rfl (by kernel_rfl) allP0 ?_
  refine WO_fin [0, 2, 4, 9] [4] (fr' := [(0, aI a0), (2, aI a2), (4, .one (.ptr 4 0)), (9, aI r1)]) (L' := [(4, .cells [.dat (.slice (.int .u32)) a1])]) (by kernel_rfl) (by kernel_rfl) ?_
  refine seqQ_norm ?_
  refine W_seq (by kernel_rfl) ?_
  refine W_run 2 [] [0, 2, 4, 9, 20] [4] (fr' := [(0, aI a0), (2, aI a2), (4, .one (.ptr 4 0)), (9, aI r1), (20, aB (r1 != (0 : Int)))]) (L' := [(4, .cells [.dat (.slice (.int .u32)) a1])]) (obs := []) (by kernel_rfl) (by kernel_rfl) (by kernel_rfl) allP0 ?_
  refine seqQ_norm ?_
  refine W_cond (o := .tmp 20) (b := r1 != (0 : Int)) (by kernel_rfl) (by kernel_rfl) (fun h3 => ?_) (fun h3 => ?_)
  · replace h := ofT h3 h
    refine W_seq (by kernel_rfl) ?_
    refine W_run 4 [] [6, 7, 8] [] (fr' := [(6, aI (0 : Int)), (7, aI (0 : Int)), (8, aI r1)]) (L' := []) (obs := []) (by kernel_rfl) (by kernel_rfl) (by kernel_rfl) allP0 ?_
    refine seqQ_norm ?_
    obtain rfl := Option.some.inj h
    refine W_ret [6, 7, 8] [] (fr' := [(6, aI (0 : Int)), (7, aI (0 : Int)), (8, aI r1)]) (L' := []) (by kernel_rfl) (by kernel_rfl) ?_
    refine seqQ_ret ?_
    exact retQ_mk (by kernel_rfl) (by kernel_rfl) (by kernel_rfl)
  · replace h := ofF h3 h
    refine W_skip [0, 2, 4] [4] (fr' := [(0, aI a0), (2, aI a2), (4, .one (.ptr 4 0))]) (L' := [(4, .cells [.dat (.slice (.int .u32)) a1])]) (by kernel_rfl) (by kernel_rfl) ?_
    refine seqQ_norm ?_
    refine W_seq (by kernel_rfl) ?_
    refine W_seq (by kernel_rfl) ?_
    refine W_run 12 [] [0, 2, 4, 33] [4] (fr' := [(0, aI a0), (2, aI a2), (4, .one (.ptr 4 0)), (33, aB (((decide (a2 < (0 : Int))) || (decide (a2 > (12 : Int)))) || (decide ((w64 (a2 * a0)) > (12 : Int)))))]) (L' := [(4, .cells [.dat (.slice (.int .u32)) a1])]) (obs := []) (by kernel_rfl) (by kernel_rfl) (by kernel_rfl) allP0 ?_
    refine seqQ_norm ?_
    refine W_cond (o := .tmp 33) (b := ((decide (a2 < (0 : Int))) || (decide (a2 > (12 : Int)))) || (decide ((w64 (a2 * a0)) > (12 : Int)))) (by kernel_rfl) (by kernel_rfl) (fun h4 => ?_) (fun h4 => ?_)
    · replace h := ofT h4 h
      refine W_seq (by kernel_rfl) ?_
      refine W_run 3 [] [6, 7, 8] [] (fr' := [(6, aI (0 : Int)), (7, aI (0 : Int)), (8, aI (2 : Int))]) (L' := []) (obs := []) (by kernel_rfl) (by kernel_rfl) (by kernel_rfl) allP0 ?_
      refine seqQ_norm ?_
      obtain rfl := Option.some.inj h
      refine W_ret [6, 7, 8] [] (fr' := [(6, aI (0 : Int)), (7, aI (0 : Int)), (8, aI (2 : Int))]) (L' := []) (by kernel_rfl) (by kernel_rfl) ?_
      refine seqQ_ret ?_
      exact retQ_mk (by kernel_rfl) (by kernel_rfl) (by kernel_rfl)
    · replace h := ofF h4 h
      refine W_skip [0, 2, 4] [4] (fr' := [(0, aI a0), (2, aI a2), (4, .one (.ptr 4 0))]) (L' := [(4, .cells [.dat (.slice (.int .u32)) a1])]) (by kernel_rfl) (by kernel_rfl) ?_
      refine seqQ_norm ?_
      refine W_seq (by kernel_rfl) ?_
      refine W_run 4 [] [0, 2, 4, 10, 11] [4, 10, 11] (fr' := [(0, aI a0), (2, aI a2), (4, .one (.ptr 4 0)), (10, .one (.ptr 10 0)), (11, .one (.ptr 11 0))]) (L' := [(4, .cells [.dat (.slice (.int .u32)) a1]), (10, .cells [.dat tI (0 : Int)]), (11, .cells [.dat tI (0 : Int)])]) (obs := [True, True]) (by kernel_rfl) (by kernel_rfl) (by kernel_rfl) (allP2 trivial (allP1 trivial)) ?_
      refine seqQ_norm ?_
      refine W_seq (by kernel_rfl) ?_
      refine W_seq (by kernel_rfl) ?_
      obtain ⟨_, h5, h⟩ := bind_of h
      replace h5 := ck_some h5
      refine W_region (by kernel_rfl) ?_
      refine WO_run (j := 3) (k := 3) (orcs := []) (kF := [4, 10, 11, 34, 36]) (kL := [4, 10, 11]) (fr' := [(4, .one (.ptr 4 0)), (10, .one (.ptr 10 0)), (11, .one (.ptr 11 0)), (34, aI a2), (36, aI (bShl .i64 (1 : Int) a0))]) (L' := [(4, .cells [.dat (.slice (.int .u32)) a1]), (10, .cells [.dat tI (0 : Int)]), (11, .cells [.dat tI (0 : Int)])]) (obs := [(0 ≤ a0)]) rfl (by kernel_rfl) (allP1 h5) ?_
      obtain ⟨r6, h7, h⟩ := bind_of h
      refine WO_lend3 [(2, 600), (3, 601)] [2, 3] (us := [none, none]) (d := 37) (p := True) (j := 4) rfl ⟨by kernel_rfl, by kernel_rfl, by kernel_rfl⟩ trivial (lone_choices_ok h7) (by kernel_rfl) (by kernel_rfl) ?_
      refine WO_fin [4, 10, 11, 37] [4, 10, 11, 600, 601] (fr' := [(4, .one (.ptr 4 0)), (10, .one (.ptr 10 0)), (11, .one (.ptr 11 0)), (37, .one (.fn 83 [(600, 0), (601, 0)]))]) (L' := [(4, .cells [.dat (.slice (.int .u32)) a1]), (10, .cells [.dat tI (0 : Int)]), (11, .cells [.dat tI (0 : Int)]), (600, .cells [.dat tI r6.1]), (601, .cells [.dat tI r6.2])]) (by kernel_rfl) (by kernel_rfl) ?_
      refine seqQ_norm ?_
      refine W_block (id := 0) (by kernel_rfl) ?_
      obtain ⟨r113, h114, h⟩ := bind_of h
      refine W_cutK (Q' := fun e fr L => e = .normal ∧ fr = [(4, .one (.ptr 4 0)), (10, .one (.ptr 10 0)), (11, .one (.ptr 11 0)), (37, .one (.fn 83 [(600, 0), (601, 0)]))] ∧ L = [(4, .cells [.dat (.slice (.int .u32)) r113.1]), (10, .cells [.dat tI r113.2.1]), (11, .cells [.dat tI r113.2.2]), (600, .cells [.dat tI r6.1]), (601, .cells [.dat tI r6.2])]) (W_rangeF 990 37 38 83 (asg := (nav (bodyOf Try.f25) [0, 0, 1, 0, 1, 1, 1, 1])) (body := (nav (bodyOf Try.f25) [1, 0, 1, 0, 1, 1, 1, 1])) (caps := [(1000, 0), (1001, 0)]) (fr0 := [(4, .one (.ptr 1002 0)), (10, .one (.ptr 1003 0)), (11, .one (.ptr 1004 0))]) [(1000, 600), (1001, 601), (1002, 4), (1003, 10), (1004, 11), (1999, 990)] (Lin := [(1000, .cells [.dat tI r6.1]), (1001, .cells [.dat tI r6.2])] ++ lone_choices_1_for_lone_Lucky_SX (a1, (0 : Int), (0 : Int))) (Lout := [(1000, .cells [.dat tI r6.1]), (1001, .cells [.dat tI r6.2])] ++ lone_choices_1_for_lone_Lucky_SX r113) (R := .tup []) .normal (by kernel_rfl) rfl (Nat.le_refl _) (by kernel_rfl) (by kernel_rfl) (by kernel_rfl) (by kernel_rfl) (fun _ _ _ _ htm => by exact lone_choices_1_for_lone_Lucky_ok (fun h => lone_Lucky_r13_ok h) h114 htm) (.inl rfl) (fun _ _ => by kernel_rfl) (fun _ _ _ => by kernel_rfl) rfl [4, 10, 11, 37] [4, 10, 11, 600, 601] (fun _ _ _ => by kernel_rfl) (by kernel_rfl) ⟨rfl, rfl, rfl⟩) ?_
      intro e fr L hJ
      obtain ⟨rfl, rfl, rfl⟩ := hJ
      refine LT_keep [10, 11] [10, 11] (fr' := [(10, .one (.ptr 10 0)), (11, .one (.ptr 11 0))]) (L' := [(10, .cells [.dat tI r113.2.1]), (11, .cells [.dat tI r113.2.2])]) (by kernel_rfl) ?_
      refine blockQ_norm ?_
      refine seqQ_norm ?_
      refine W_seq (by kernel_rfl) ?_
      refine W_draw2 3 [] [] [6, 7, 8] [] (fr' := [(6, aI r113.2.1), (7, aI r113.2.2), (8, aI (0 : Int))]) (L' := []) (out := [(60, aI r113.2.1), (61, aI r113.2.2), (6, aI r113.2.1)]) (obs := []) (obs2 := []) (calls := []) (by kernel_rfl) (by kernel_rfl) (by kernel_rfl) (by kernel_rfl) allP0 allC0 (by kernel_rfl) allP0 ?_
      refine seqQ_norm ?_
      obtain rfl := Option.some.inj h
      refine W_ret [6, 7, 8] [] (fr' := [(6, aI r113.2.1), (7, aI r113.2.2), (8, aI (0 : Int))]) (L' := []) (by kernel_rfl) (by kernel_rfl) ?_
      exact retQ_mk (by kernel_rfl) (by kernel_rfl) (by kernel_rfl)

noncomputable def ref_Within (a0 : Int) (a1 : Int) (a2 : Int) : Option Bool :=
some ((decide (a0 ≤ a1)) && (decide (a1 ≤ a2)))
theorem ref_Within_ok {a0 : Int} {a1 : Int} {a2 : Int} {r : Bool} (h : ref_Within a0 a1 a2 = some r) : FnC Try.prog 20 [aI a0, aI a1, aI a2] [] (aB r) [] := by
  refine fnC_of_W (B := bodyOf Try.f20) (n := 15) Try.func20 (by kernel_rfl) (by kernel_rfl) (by kernel_rfl) (by kernel_rfl) (by kernel_rfl) ?_
  intro K
  refine W_seq (by kernel_rfl) ?_
  refine W_run 1 [] [0, 1, 2] [] (fr' := [(0, aI a0), (1, aI a1), (2, aI a2)]) (L' := []) (obs := []) (by kernel_rfl) (by kernel_rfl) (by kernel_rfl) allP0 ?_
  refine seqQ_norm ?_
  refine W_seq (by kernel_rfl) ?_
  refine W_run 9 [] [6] [] (fr' := [(6, aB ((decide (a0 ≤ a1)) && (decide (a1 ≤ a2))))]) (L' := []) (obs := []) (by kernel_rfl) (by kernel_rfl) (by kernel_rfl) allP0 ?_
  refine seqQ_norm ?_
  obtain rfl := Option.some.inj h
  refine W_ret [6] [] (fr' := [(6, aB ((decide (a0 ≤ a1)) && (decide (a1 ≤ a2))))]) (L' := []) (by kernel_rfl) (by kernel_rfl) ?_
  exact retQ_mk (by kernel_rfl) (by kernel_rfl) (by kernel_rfl)

noncomputable def ref_LoneCheck_g1 (a0 : Int) (a1 : (List Int)) : Option Bool :=
(ref_Within (1 : Int) a0 (5 : Int)).bind fun r11 =>
bif !r11 then
(some true)
else
((ref_Within (1 : Int) (List.length a1 : Int) (200 : Int)).bind fun r14 =>
some (!r14))
noncomputable def ref_LoneCheck_b2 (a0 : Int) (i31 : Int) (v34 : Int) (x32 : Unit) : Option (Flow Unit (Esc Int Unit)) :=
(ck (0 ≤ IntKind.wrap .u64 (a0))).bind fun _ =>
bif decide (v34 ≥ (bShl .u32 (1 : Int) (IntKind.wrap .u64 (a0)))) then
(some (.done (.ret (4 : Int))))
else
(some (.next ()))
@[reducible] noncomputable def ref_LoneCheck_s3 (a0 : Int) (a1 : (List Int)) (v : Int × Unit) : Fr × LL := ([(0, aI a0), (1, aD (.slice (.int .u32)) a1), (18, aD (.slice (.int .u32)) a1), (19, aI (List.length a1 : Int)), (20, aI v.1)], [])
@[reducible] noncomputable def ref_LoneCheck_s4 (v : Int) : Fr × LL := ([(4, aI v)], [])
@[reducible] noncomputable def ref_LoneCheck_s5 (a1 : (List Int)) (v : Unit) : Fr × LL := ([(1, aD (.slice (.int .u32)) a1)], [])
noncomputable def ref_LoneCheck_b12 (a1 : (List Int)) (v91 : Int) (i104 : Int) (x105 : Unit) : Option (Flow Unit (Esc Int Unit)) :=
(idx a1 i104).bind fun v108 =>
bif v91 == v108 then
(some (.done (.ret (3 : Int))))
else
(some (.next ()))
@[reducible] noncomputable def ref_LoneCheck_s13 (a1 : (List Int)) (i88 : Int) (v : Int × Unit) : Fr × LL := ([(1, aD (.slice (.int .u32)) a1), (7, aI i88), (8, aI v.1)], [])
@[reducible] noncomputable def ref_LoneCheck_s14 (v : Int) : Fr × LL := ([(4, aI v)], [])
@[reducible] noncomputable def ref_LoneCheck_s15 (a1 : (List Int)) (i88 : Int) (v : Unit) : Fr × LL := ([(1, aD (.slice (.int .u32)) a1), (7, aI i88)], [])
noncomputable def ref_LoneCheck_b16 (a1 : (List Int)) (i88 : Int) (v91 : Int) (x89 : Unit) : Option (Flow Unit (Esc Int Unit)) :=
(forI (0 : Int) i88 (ref_LoneCheck_b12 a1 v91) (fun x105 => (.brk ())) ()).bind fun v112 =>
match v112 with
| .ret v116 =>
(some (.done (.ret v116)))
| .brk v117 =>
(some (.next ()))
@[reducible] noncomputable def ref_LoneCheck_s17 (a1 : (List Int)) (v : Int × Unit) : Fr × LL := ([(1, aD (.slice (.int .u32)) a1), (7, aI v.1)], [])
@[reducible] noncomputable def ref_LoneCheck_s18 (v : Int) : Fr × LL := ([(4, aI v)], [])
@[reducible] noncomputable def ref_LoneCheck_s19 (v : Unit) : Fr × LL := ([], [])
@[reducible] noncomputable def ref_LoneCheck_s20 (a0 : Int) (a1 : (List Int)) (v : Bool) : Fr × LL := ([(0, aI a0), (1, aD (.slice (.int .u32)) a1), (17, aB v)], [])
noncomputable def ref_LoneCheck (fuel : Nat) (a0 : Int) (a1 : (List Int)) : Option Int :=
(ref_LoneCheck_g1 a0 a1).bind fun v16 =>
bif v16 then
(some (1 : Int))
else
((forL (ref_LoneCheck_b2 a0) (fun x32 => (.brk ())) a1 0 ()).bind fun v40 =>
match v40 with
| .ret v45 =>
(some v45)
| .brk v46 =>
((forL (ref_LoneCheck_b16 a1) (fun x89 => (.brk ())) a1 0 ()).bind fun v119 =>
match v119 with
| .ret v124 =>
(some v124)
| .brk v125 =>
(some (0 : Int))))
theorem ref_LoneCheck_ok {fuel : Nat} {a0 : Int} {a1 : (List Int)} {r : Int} (h : ref_LoneCheck fuel a0 a1 = some r) : FnC Try.prog 16 [aI a0, aD (.slice (.int .u32)) a1] [] (aI r) [] := by
  refine fnC_of_W (B := bodyOf Try.f16) (n := 50) Try.func16 (by kernel_rfl) (by kernel_rfl) (by kernel_rfl) (by kernel_rfl) (by kernel_rfl) ?_
  intro K
  refine W_seq (by kernel_rfl) ?_
  refine W_run 1 [] [0, 1] [] (fr' := [(0, aI a0), (1, aD (.slice (.int .u32)) a1)]) (L' := []) (obs := []) (by kernel_rfl) (by kernel_rfl) (by kernel_rfl) allP0 ?_
  refine seqQ_norm ?_
  refine W_seq (by kernel_rfl) ?_
  refine W_seq (by kernel_rfl) ?_
  obtain ⟨v16, h17, h⟩ := bind_of h
  refine W_cutK (Q' := (exQ .normal (ref_LoneCheck_s20 a0 a1)) v16) ?_ ?_
  · replace h := h17
    refine W_region (by kernel_rfl) ?_
    refine WO_run (j := 1) (k := 1) (orcs := []) (kF := [0, 1, 9]) (kL := []) (fr' := [(0, aI a0), (1, aD (.slice (.int .u32)) a1), (9, aI a0)]) (L' := []) (obs := []) rfl (by kernel_rfl) allP0 ?_
    obtain ⟨r11, h12, h⟩ := bind_of h
    refine WO_call0 (us := [none, none, none]) (d := 10) (p := True) (j := 2) rfl ⟨by kernel_rfl, by kernel_rfl, by kernel_rfl⟩ trivial (ref_Within_ok h12) (by kernel_rfl) ?_
    refine WO_run (j := 4) (k := 2) (orcs := []) (kF := [0, 1, 12]) (kL := []) (fr' := [(0, aI a0), (1, aD (.slice (.int .u32)) a1), (12, aB (!r11))]) (L' := []) (obs := []) rfl (by kernel_rfl) allP0 ?_
    rcases Bool.eq_false_or_eq_true (!r11) with h13 | h13
    · replace h := ofT h13 h
      refine WO_run (j := 9) (k := 5) (orcs := [(8, .known true), (10, .known true), (12, .known true), (14, .known true), (17, .val (.dat .bool true))]) (kF := [0, 1, 17]) (kL := []) (fr' := [(0, aI a0), (1, aD (.slice (.int .u32)) a1), (17, aB true)]) (L' := []) (obs := [((!r11) = true), ((!r11) = true), ((!r11) = true), ((!r11) = true), ((!r11) = true)]) rfl (by kernel_rfl) (allP2 h13 (allP2 h13 (allP2 h13 (allP2 h13 (allP1 h13))))) ?_
      obtain rfl := Option.some.inj h
      refine WO_fin [0, 1, 17] [] (fr' := [(0, aI a0), (1, aD (.slice (.int .u32)) a1), (17, aB true)]) (L' := []) (by kernel_rfl) (by kernel_rfl) ?_
      exact exQ_mk (by kernel_rfl) (by kernel_rfl)
    · replace h := ofF h13 h
      refine WO_run (j := 6) (k := 2) (orcs := [(8, .known false), (10, .known false)]) (kF := [0, 1, 12, 14]) (kL := []) (fr' := [(0, aI a0), (1, aD (.slice (.int .u32)) a1), (12, aB (!r11)), (14, aI (List.length a1 : Int))]) (L' := []) (obs := [((!r11) = false), ((!r11) = false)]) rfl (by kernel_rfl) (allP2 h13 (allP1 h13)) ?_
      obtain ⟨r14, h15, h⟩ := bind_of h
      refine WO_call0 (us := [none, none, none]) (d := 15) (p := ((!r11) = false)) (j := 7) rfl ⟨by kernel_rfl, by kernel_rfl, by kernel_rfl⟩ h13 (ref_Within_ok h15) (by kernel_rfl) ?_
      refine WO_run (j := 9) (k := 2) (orcs := [(14, .known false), (17, .val (.dat .bool false))]) (kF := [0, 1, 17]) (kL := []) (fr' := [(0, aI a0), (1, aD (.slice (.int .u32)) a1), (17, aB (!r14))]) (L' := []) (obs := [((!r11) = false), ((!r11) = false)]) rfl (by kernel_rfl) (allP2 h13 (allP1 h13)) ?_
      obtain rfl := Option.some.inj h
      refine WO_fin [0, 1, 17] [] (fr' := [(0, aI a0), (1, aD (.slice (.int .u32)) a1), (17, aB (!r14))]) (L' := []) (by kernel_rfl) (by kernel_rfl) ?_
      exact exQ_mk (by kernel_rfl) (by kernel_rfl)
  · intro e fr L hJ
    obtain ⟨rfl, rfl, rfl⟩ := hJ
    refine LT_keep [0, 1, 17] [] (fr' := [(0, aI a0), (1, aD (.slice (.int .u32)) a1), (17, aB v16)]) (L' := []) (by kernel_rfl) ?_
    refine seqQ_norm ?_
    refine W_cond (o := .tmp 17) (b := v16) (by kernel_rfl) (by kernel_rfl) (fun h18 => ?_) (fun h18 => ?_)
    · replace h := ofT h18 h
      refine W_seq (by kernel_rfl) ?_
      refine W_run 1 [] [4] [] (fr' := [(4, aI (1 : Int))]) (L' := []) (obs := []) (by kernel_rfl) (by kernel_rfl) (by kernel_rfl) allP0 ?_
      refine seqQ_norm ?_
      obtain rfl := Option.some.inj h
      refine W_ret [4] [] (fr' := [(4, aI (1 : Int))]) (L' := []) (by kernel_rfl) (by kernel_rfl) ?_
      refine seqQ_ret ?_
      exact retQ_mk (by kernel_rfl) (by kernel_rfl) (by kernel_rfl)
    · replace h := ofF h18 h
      refine W_skip [0, 1] [] (fr' := [(0, aI a0), (1, aD (.slice (.int .u32)) a1)]) (L' := []) (by kernel_rfl) (by kernel_rfl) ?_
      refine seqQ_norm ?_
      refine W_seq (by kernel_rfl) ?_
      refine W_seq (by kernel_rfl) ?_
      refine W_run 3 [] [0, 1, 18, 19, 20] [] (fr' := [(0, aI a0), (1, aD (.slice (.int .u32)) a1), (18, aD (.slice (.int .u32)) a1), (19, aI (List.length a1 : Int)), (20, aI (0 : Int))]) (L' := []) (obs := []) (by kernel_rfl) (by kernel_rfl) (by kernel_rfl) allP0 ?_
      refine seqQ_norm ?_
      refine W_block (id := 0) (by kernel_rfl) ?_
      obtain ⟨v40, h41, h⟩ := bind_of h
      refine W_len (t := 18) (u := (.int .u32)) (xs := a1) (by kernel_rfl) (fun h44 => ?_)
      obtain ⟨h42, h43⟩ := forL_iter h44 h41
      refine W_weaken [0, 1, 18, 19, 20] [] (fr' := ((ref_LoneCheck_s3 a0 a1) ((0 : Int), ())).1) (L' := ((ref_LoneCheck_s3 a0 a1) ((0 : Int), ())).2) (by kernel_rfl) ?_
      refine W_cutK (W_loop (S := (ref_LoneCheck_s3 a0 a1)) (J := (escQ (exQ .ret ref_LoneCheck_s4) (exQ (.exit 0) (ref_LoneCheck_s5 a1)))) (by kernel_rfl) ?_ h42 _ v40 h43) ?_
      · rintro ⟨i31, x32⟩ s h
        refine W_seq (by kernel_rfl) ?_
        refine W_run 1 [] [0, 1, 18, 19, 20, 21] [] (fr' := [(0, aI a0), (1, aD (.slice (.int .u32)) a1), (18, aD (.slice (.int .u32)) a1), (19, aI (List.length a1 : Int)), (20, aI i31), (21, aB (decide (i31 < (List.length a1 : Int))))]) (L' := []) (obs := []) (by kernel_rfl) (by kernel_rfl) (by kernel_rfl) allP0 ?_
        refine seqQ_norm ?_
        refine W_seq (by kernel_rfl) ?_
        refine W_cond (o := .tmp 21) (b := decide (i31 < (List.length a1 : Int))) (by kernel_rfl) (by kernel_rfl) (fun h36 => ?_) (fun h36 => ?_)
        · replace h := stepL_true h36 h
          obtain ⟨v34, _, h35, h, rfl⟩ := h
          refine W_skip [0, 1, 18, 19, 20] [] (fr' := [(0, aI a0), (1, aD (.slice (.int .u32)) a1), (18, aD (.slice (.int .u32)) a1), (19, aI (List.length a1 : Int)), (20, aI i31)]) (L' := []) (by kernel_rfl) (by kernel_rfl) ?_
          refine seqQ_norm ?_
          refine W_seq (by kernel_rfl) ?_
          refine W_block (id := 1) (by kernel_rfl) ?_
          refine W_seq (by kernel_rfl) ?_
          refine W_run 3 [(1, .val (.dat (.int .u32) v34))] [0, 1, 6, 18, 19, 20] [] (fr' := [(0, aI a0), (1, aD (.slice (.int .u32)) a1), (6, aD (.int .u32) v34), (18, aD (.slice (.int .u32)) a1), (19, aI (List.length a1 : Int)), (20, aI i31)]) (L' := []) (obs := [Idx a1 i31 v34]) (by kernel_rfl) (by kernel_rfl) (by kernel_rfl) (allP1 (Idx.of h35)) ?_
          refine seqQ_norm ?_
          refine W_seq (by kernel_rfl) ?_
          obtain ⟨_, h37, h⟩ := bind_of h
          replace h37 := ck_some h37
          refine W_run 5 [] [0, 1, 18, 19, 20, 28] [] (fr' := [(0, aI a0), (1, aD (.slice (.int .u32)) a1), (18, aD (.slice (.int .u32)) a1), (19, aI (List.length a1 : Int)), (20, aI i31), (28, aB (decide (v34 ≥ (bShl .u32 (1 : Int) (IntKind.wrap .u64 (a0))))))]) (L' := []) (obs := [(0 ≤ IntKind.wrap .u64 (a0))]) (by kernel_rfl) (by kernel_rfl) (by kernel_rfl) (allP1 h37) ?_
          refine seqQ_norm ?_
          refine W_cond (o := .tmp 28) (b := decide (v34 ≥ (bShl .u32 (1 : Int) (IntKind.wrap .u64 (a0))))) (by kernel_rfl) (by kernel_rfl) (fun h38 => ?_) (fun h38 => ?_)
          · replace h := ofT h38 h
            refine W_seq (by kernel_rfl) ?_
            refine W_run 1 [] [4] [] (fr' := [(4, aI (4 : Int))]) (L' := []) (obs := []) (by kernel_rfl) (by kernel_rfl) (by kernel_rfl) allP0 ?_
            refine seqQ_norm ?_
            obtain rfl := Option.some.inj h
            refine W_ret [4] [] (fr' := [(4, aI (4 : Int))]) (L' := []) (by kernel_rfl) (by kernel_rfl) ?_
            refine blockQ_ret ?_
            refine seqQ_ret ?_
            refine round_ret ?_
            refine escQ_ret ?_
            exact exQ_mk (by kernel_rfl) (by kernel_rfl)
          · replace h := ofF h38 h
            refine W_skip [0, 1, 18, 19, 20] [] (fr' := [(0, aI a0), (1, aD (.slice (.int .u32)) a1), (18, aD (.slice (.int .u32)) a1), (19, aI (List.length a1 : Int)), (20, aI i31)]) (L' := []) (by kernel_rfl) (by kernel_rfl) ?_
            refine blockQ_norm ?_
            refine seqQ_norm ?_
            obtain rfl := Option.some.inj h
            refine W_run 2 [] [0, 1, 18, 19, 20] [] (fr' := [(0, aI a0), (1, aD (.slice (.int .u32)) a1), (18, aD (.slice (.int .u32)) a1), (19, aI (List.length a1 : Int)), (20, aI (w64 (i31 + (1 : Int))))]) (L' := []) (obs := []) (by kernel_rfl) (by kernel_rfl) (by kernel_rfl) allP0 ?_
            exact round_next' (by kernel_rfl) (by kernel_rfl)
        · obtain rfl := stepL_false h36 h
          refine W_exit (id := 0) [1] [] (fr' := [(1, aD (.slice (.int .u32)) a1)]) (L' := []) (by kernel_rfl) (by kernel_rfl) ?_
          refine seqQ_exit ?_
          refine round_exit ?_
          refine escQ_brk ?_
          exact exQ_mk (by kernel_rfl) (by kernel_rfl)
      · intro e fr L hJ
        rcases v40 with v45 | v46
        · obtain ⟨rfl, rfl, rfl⟩ := hJ
          obtain rfl := Option.some.inj h
          refine LT_keep [4] [] (fr' := [(4, aI v45)]) (L' := []) (by kernel_rfl) ?_
          refine blockQ_ret ?_
          refine seqQ_ret ?_
          exact retQ_mk (by kernel_rfl) (by kernel_rfl) (by kernel_rfl)
        · obtain ⟨rfl, rfl, rfl⟩ := hJ
          refine LT_keep [1] [] (fr' := [(1, aD (.slice (.int .u32)) a1)]) (L' := []) (by kernel_rfl) ?_
          refine blockQ_hit ?_
          refine seqQ_norm ?_
          refine W_seq (by kernel_rfl) ?_
          refine W_seq (by kernel_rfl) ?_
          refine W_run 1 [] [1, 7] [] (fr' := [(1, aD (.slice (.int .u32)) a1), (7, aI (0 : Int))]) (L' := []) (obs := []) (by kernel_rfl) (by kernel_rfl) (by kernel_rfl) allP0 ?_
          refine seqQ_norm ?_
          refine W_block (id := 2) (by kernel_rfl) ?_
          obtain ⟨v119, h120, h⟩ := bind_of h
          refine W_len (t := 1) (u := (.int .u32)) (xs := a1) (by kernel_rfl) (fun h123 => ?_)
          obtain ⟨h121, h122⟩ := forL_iter h123 h120
          refine W_weaken [1, 7] [] (fr' := ((ref_LoneCheck_s17 a1) ((0 : Int), ())).1) (L' := ((ref_LoneCheck_s17 a1) ((0 : Int), ())).2) (by kernel_rfl) ?_
          refine W_cutK (W_loop (S := (ref_LoneCheck_s17 a1)) (J := (escQ (exQ .ret ref_LoneCheck_s18) (exQ (.exit 2) ref_LoneCheck_s19))) (by kernel_rfl) ?_ h121 _ v119 h122) ?_
          · rintro ⟨i88, x89⟩ s h
            refine W_seq (by kernel_rfl) ?_
            refine W_seq (by kernel_rfl) ?_
            refine W_run 4 [] [1, 7, 33] [] (fr' := [(1, aD (.slice (.int .u32)) a1), (7, aI i88), (33, aB (decide (i88 < (List.length a1 : Int))))]) (L' := []) (obs := []) (by kernel_rfl) (by kernel_rfl) (by kernel_rfl) allP0 ?_
            refine seqQ_norm ?_
            refine W_cond (o := .tmp 33) (b := decide (i88 < (List.length a1 : Int))) (by kernel_rfl) (by kernel_rfl) (fun h93 => ?_) (fun h93 => ?_)
            · replace h := stepL_true h93 h
              obtain ⟨v91, _, h92, h, rfl⟩ := h
              refine W_skip [1, 7] [] (fr' := [(1, aD (.slice (.int .u32)) a1), (7, aI i88)]) (L' := []) (by kernel_rfl) (by kernel_rfl) ?_
              refine seqQ_norm ?_
              refine W_seq (by kernel_rfl) ?_
              refine W_block (id := 3) (by kernel_rfl) ?_
              refine W_seq (by kernel_rfl) ?_
              refine W_run 1 [] [1, 7, 8] [] (fr' := [(1, aD (.slice (.int .u32)) a1), (7, aI i88), (8, aI (0 : Int))]) (L' := []) (obs := []) (by kernel_rfl) (by kernel_rfl) (by kernel_rfl) allP0 ?_
              refine seqQ_norm ?_
              refine W_block (id := 4) (by kernel_rfl) ?_
              obtain ⟨v112, h113, h⟩ := bind_of h
              obtain ⟨h114, h115⟩ := forI_iter h113
              refine W_weaken [1, 7, 8] [] (fr' := ((ref_LoneCheck_s13 a1 i88) ((0 : Int), ())).1) (L' := ((ref_LoneCheck_s13 a1 i88) ((0 : Int), ())).2) (by kernel_rfl) ?_
              refine W_cutK (W_loop (S := (ref_LoneCheck_s13 a1 i88)) (J := (escQ (exQ .ret ref_LoneCheck_s14) (exQ (.exit 4) (ref_LoneCheck_s15 a1 i88)))) (by kernel_rfl) ?_ h114 _ v112 h115) ?_
              · rintro ⟨i104, x105⟩ s h
                refine W_seq (by kernel_rfl) ?_
                refine W_seq (by kernel_rfl) ?_
                refine W_run 3 [] [1, 7, 8, 38] [] (fr' := [(1, aD (.slice (.int .u32)) a1), (7, aI i88), (8, aI i104), (38, aB (decide (i104 < i88)))]) (L' := []) (obs := []) (by kernel_rfl) (by kernel_rfl) (by kernel_rfl) allP0 ?_
                refine seqQ_norm ?_
                refine W_cond (o := .tmp 38) (b := decide (i104 < i88)) (by kernel_rfl) (by kernel_rfl) (fun h107 => ?_) (fun h107 => ?_)
                · replace h := stepI_true h107 h
                  obtain ⟨_, h, rfl⟩ := h
                  refine W_skip [1, 7, 8] [] (fr' := [(1, aD (.slice (.int .u32)) a1), (7, aI i88), (8, aI i104)]) (L' := []) (by kernel_rfl) (by kernel_rfl) ?_
                  refine seqQ_norm ?_
                  refine W_seq (by kernel_rfl) ?_
                  refine W_block (id := 5) (by kernel_rfl) ?_
                  refine W_seq (by kernel_rfl) ?_
                  obtain ⟨v108, h109, h⟩ := bind_of h
                  refine W_draw2 9 [(5, .val (.dat (.int .u32) v91)), (13, .val (.dat (.int .u32) v108))] [] [1, 7, 8, 49] [] (fr' := [(1, aD (.slice (.int .u32)) a1), (7, aI i88), (8, aI i104), (49, aB (v91 == v108))]) (L' := []) (out := [(41, aD (.slice (.int .u32)) a1), (42, aI i88), (43, .one (.dptr (.int .u32) v91)), (44, aD (.int .u32) v91), (45, aD (.slice (.int .u32)) a1), (46, aI i104), (47, .one (.dptr (.int .u32) v108)), (48, aD (.int .u32) v108), (49, aB (v91 == v108))]) (obs := [Idx a1 i88 v91, Idx a1 i104 v108]) (obs2 := []) (calls := []) (by kernel_rfl) (by kernel_rfl) (by kernel_rfl) (by kernel_rfl) (allP2 (Idx.of h92) (allP1 (Idx.of h109))) allC0 (by kernel_rfl) allP0 ?_
                  refine seqQ_norm ?_
                  refine W_cond (o := .tmp 49) (b := v91 == v108) (by kernel_rfl) (by kernel_rfl) (fun h110 => ?_) (fun h110 => ?_)
                  · replace h := ofT h110 h
                    refine W_seq (by kernel_rfl) ?_
                    refine W_run 1 [] [4] [] (fr' := [(4, aI (3 : Int))]) (L' := []) (obs := []) (by kernel_rfl) (by kernel_rfl) (by kernel_rfl) allP0 ?_
                    refine seqQ_norm ?_
                    obtain rfl := Option.some.inj h
                    refine W_ret [4] [] (fr' := [(4, aI (3 : Int))]) (L' := []) (by kernel_rfl) (by kernel_rfl) ?_
                    refine blockQ_ret ?_
                    refine seqQ_ret ?_
                    refine round_ret ?_
                    refine escQ_ret ?_
                    exact exQ_mk (by kernel_rfl) (by kernel_rfl)
                  · replace h := ofF h110 h
                    refine W_skip [1, 7, 8] [] (fr' := [(1, aD (.slice (.int .u32)) a1), (7, aI i88), (8, aI i104)]) (L' := []) (by kernel_rfl) (by kernel_rfl) ?_
                    refine blockQ_norm ?_
                    refine seqQ_norm ?_
                    obtain rfl := Option.some.inj h
                    refine W_run 3 [] [1, 7, 8] [] (fr' := [(1, aD (.slice (.int .u32)) a1), (7, aI i88), (8, aI (w64 (i104 + (1 : Int))))]) (L' := []) (obs := []) (by kernel_rfl) (by kernel_rfl) (by kernel_rfl) allP0 ?_
                    exact round_next' (by kernel_rfl) (by kernel_rfl)
                · obtain rfl := stepI_false h107 h
                  refine W_exit (id := 4) [1, 7] [] (fr' := [(1, aD (.slice (.int .u32)) a1), (7, aI i88)]) (L' := []) (by kernel_rfl) (by kernel_rfl) ?_
                  refine seqQ_exit ?_
                  refine round_exit ?_
                  refine escQ_brk ?_
                  exact exQ_mk (by kernel_rfl) (by kernel_rfl)
              · intro e fr L hJ
                rcases v112 with v116 | v117
                · obtain ⟨rfl, rfl, rfl⟩ := hJ
                  obtain rfl := Option.some.inj h
                  refine LT_keep [4] [] (fr' := [(4, aI v116)]) (L' := []) (by kernel_rfl) ?_
                  refine blockQ_ret ?_
                  refine blockQ_ret ?_
                  refine seqQ_ret ?_
                  refine round_ret ?_
                  refine escQ_ret ?_
                  exact exQ_mk (by kernel_rfl) (by kernel_rfl)
                · obtain ⟨rfl, rfl, rfl⟩ := hJ
                  refine LT_keep [1, 7] [] (fr' := [(1, aD (.slice (.int .u32)) a1), (7, aI i88)]) (L' := []) (by kernel_rfl) ?_
                  refine blockQ_hit ?_
                  refine blockQ_norm ?_
                  refine seqQ_norm ?_
                  obtain rfl := Option.some.inj h
                  refine W_run 3 [] [1, 7] [] (fr' := [(1, aD (.slice (.int .u32)) a1), (7, aI (w64 (i88 + (1 : Int))))]) (L' := []) (obs := []) (by kernel_rfl) (by kernel_rfl) (by kernel_rfl) allP0 ?_
                  exact round_next' (by kernel_rfl) (by kernel_rfl)
            · obtain rfl := stepL_false h93 h
              refine W_exit (id := 2) [] [] (fr' := []) (L' := []) (by kernel_rfl) (by kernel_rfl) ?_
              refine seqQ_exit ?_
              refine round_exit ?_
              refine escQ_brk ?_
              exact exQ_mk (by kernel_rfl) (by kernel_rfl)
          · intro e fr L hJ
            rcases v119 with v124 | v125
            · obtain ⟨rfl, rfl, rfl⟩ := hJ
              obtain rfl := Option.some.inj h
              refine LT_keep [4] [] (fr' := [(4, aI v124)]) (L' := []) (by kernel_rfl) ?_
              refine blockQ_ret ?_
              refine seqQ_ret ?_
              exact retQ_mk (by kernel_rfl) (by kernel_rfl) (by kernel_rfl)
            · obtain ⟨rfl, rfl, rfl⟩ := hJ
              refine LT_keep [] [] (fr' := []) (L' := []) (by kernel_rfl) ?_
              refine blockQ_hit ?_
              refine seqQ_norm ?_
              refine W_seq (by kernel_rfl) ?_
              refine W_run 1 [] [4] [] (fr' := [(4, aI (0 : Int))]) (L' := []) (obs := []) (by kernel_rfl) (by kernel_rfl) (by kernel_rfl) allP0 ?_
              refine seqQ_norm ?_
              obtain rfl := Option.some.inj h
              refine W_ret [4] [] (fr' := [(4, aI (0 : Int))]) (L' := []) (by kernel_rfl) (by kernel_rfl) ?_
              exact retQ_mk (by kernel_rfl) (by kernel_rfl) (by kernel_rfl)

noncomputable def ref_Dice_b4 (a1 : Int) (i26 : Int) (x27 : (Int × (List Int))) : Option (Flow (Int × (List Int)) (List Int)) :=
(ck (a1 ≠ 0)).bind fun _ =>
(ck ((List.length x27.2 : Int) + 1 ≤ 4294967296)).bind fun _ =>
some (.next (w64 (Int.tdiv x27.1 a1), x27.2 ++ [Int.tmod x27.1 a1]))
@[reducible] noncomputable def ref_Dice_s5 (a0 : Int) (a1 : Int) (v : Int × (Int × (List Int))) : Fr × LL := ([(0, aI a0), (1, aI a1), (2, aI v.2.1), (7, .one (.slc 19)), (8, aI v.1)], [(19, .seq tI v.2.2)])
@[reducible] noncomputable def ref_Dice_s6 (v : (List Int)) : Fr × LL := ([(7, .one (.slc 19))], [(19, .seq tI v)])
noncomputable def ref_Dice (a0 : Int) (a1 : Int) (a2 : Int) : Option (List Int) :=
(forI (0 : Int) a0 (ref_Dice_b4 a1) (fun x27 => x27.2) (a2, [])).bind fun v33 =>
some v33
theorem ref_Dice_ok {a0 : Int} {a1 : Int} {a2 : Int} {r : (List Int)} (h : ref_Dice a0 a1 a2 = some r) : FnC Try.prog 24 [aI a0, aI a1, aI a2] [] (.one (.slc 19)) [(19, .seq tI r)] := by
  refine fnC_of_W (B := bodyOf Try.f24) (n := 24) Try.func24 (by kernel_rfl) (by kernel_rfl) (by kernel_rfl) (by kernel_rfl) (by kernel_rfl) ?_
  intro K
  refine W_seq (by kernel_rfl) ?_
  refine W_run 1 [] [0, 1, 2] [] (fr' := [(0, aI a0), (1, aI a1), (2, aI a2)]) (L' := []) (obs := []) (by kernel_rfl) (by kernel_rfl) (by kernel_rfl) allP0 ?_
  refine seqQ_norm ?_
  refine W_seq (by kernel_rfl) ?_
  refine W_run 1 [] [0, 1, 2, 7] [] (fr' := [(0, aI a0), (1, aI a1), (2, aI a2), (7, .one (.nilS))]) (L' := []) (obs := []) (by kernel_rfl) (by kernel_rfl) (by kernel_rfl) allP0 ?_
  refine seqQ_norm ?_
  refine W_seq (by kernel_rfl) ?_
  refine W_seq (by kernel_rfl) ?_
  refine W_run 1 [] [0, 1, 2, 7, 8] [] (fr' := [(0, aI a0), (1, aI a1), (2, aI a2), (7, .one (.nilS)), (8, aI (0 : Int))]) (L' := []) (obs := []) (by kernel_rfl) (by kernel_rfl) (by kernel_rfl) allP0 ?_
  refine seqQ_norm ?_
  refine W_block (id := 0) (by kernel_rfl) ?_
  obtain ⟨v33, h34, h⟩ := bind_of h
  obtain ⟨h35, h36⟩ := forI_iter h34
  refine W_mine 7 19 tI (by kernel_rfl) ?_
  refine W_weaken [0, 1, 2, 7, 8] [19] (fr' := ((ref_Dice_s5 a0 a1) ((0 : Int), (a2, []))).1) (L' := ((ref_Dice_s5 a0 a1) ((0 : Int), (a2, []))).2) (by kernel_rfl) ?_
  refine W_cutK (W_loop (S := (ref_Dice_s5 a0 a1)) (J := (exQ (.exit 0) ref_Dice_s6)) (by kernel_rfl) ?_ h35 _ v33 h36) ?_
  · rintro ⟨i26, x27⟩ s h
    refine W_seq (by kernel_rfl) ?_
    refine W_seq (by kernel_rfl) ?_
    refine W_run 3 [] [0, 1, 2, 7, 8, 11] [19] (fr' := [(0, aI a0), (1, aI a1), (2, aI x27.1), (7, .one (.slc 19)), (8, aI i26), (11, aB (decide (i26 < a0)))]) (L' := [(19, .seq tI x27.2)]) (obs := []) (by kernel_rfl) (by kernel_rfl) (by kernel_rfl) allP0 ?_
    refine seqQ_norm ?_
    refine W_cond (o := .tmp 11) (b := decide (i26 < a0)) (by kernel_rfl) (by kernel_rfl) (fun h29 => ?_) (fun h29 => ?_)
    · replace h := stepI_true h29 h
      obtain ⟨_, h, rfl⟩ := h
      refine W_skip [0, 1, 2, 7, 8] [19] (fr' := [(0, aI a0), (1, aI a1), (2, aI x27.1), (7, .one (.slc 19)), (8, aI i26)]) (L' := [(19, .seq tI x27.2)]) (by kernel_rfl) (by kernel_rfl) ?_
      refine seqQ_norm ?_
      refine W_seq (by kernel_rfl) ?_
      refine W_block (id := 1) (by kernel_rfl) ?_
      refine W_seq (by kernel_rfl) ?_
      obtain ⟨_, h30, h⟩ := bind_of h
      replace h30 := ck_some h30
      obtain ⟨_, h31, h⟩ := bind_of h
      replace h31 := ck_some h31
      refine W_run 7 [] [0, 1, 2, 7, 8] [19] (fr' := [(0, aI a0), (1, aI a1), (2, aI x27.1), (7, .one (.slc 19)), (8, aI i26)]) (L' := [(19, .seq tI (x27.2 ++ [Int.tmod x27.1 a1]))]) (obs := [(a1 ≠ 0), SmallLen (List.length x27.2 + List.length [Int.tmod x27.1 a1])]) (by kernel_rfl) (by kernel_rfl) (by kernel_rfl) (allP2 h30 (allP1 h31)) ?_
      refine seqQ_norm ?_
      refine W_run 4 [] [0, 1, 2, 7, 8] [19] (fr' := [(0, aI a0), (1, aI a1), (2, aI (w64 (Int.tdiv x27.1 a1))), (7, .one (.slc 19)), (8, aI i26)]) (L' := [(19, .seq tI (x27.2 ++ [Int.tmod x27.1 a1]))]) (obs := [(a1 ≠ 0)]) (by kernel_rfl) (by kernel_rfl) (by kernel_rfl) (allP1 h30) ?_
      refine blockQ_norm ?_
      refine seqQ_norm ?_
      obtain rfl := Option.some.inj h
      refine W_run 3 [] [0, 1, 2, 7, 8] [19] (fr' := [(0, aI a0), (1, aI a1), (2, aI (w64 (Int.tdiv x27.1 a1))), (7, .one (.slc 19)), (8, aI (w64 (i26 + (1 : Int))))]) (L' := [(19, .seq tI (x27.2 ++ [Int.tmod x27.1 a1]))]) (obs := []) (by kernel_rfl) (by kernel_rfl) (by kernel_rfl) allP0 ?_
      exact round_next' (by kernel_rfl) (by kernel_rfl)
    · obtain rfl := stepI_false h29 h
      refine W_exit (id := 0) [7] [19] (fr' := [(7, .one (.slc 19))]) (L' := [(19, .seq tI x27.2)]) (by kernel_rfl) (by kernel_rfl) ?_
      refine seqQ_exit ?_
      refine round_exit ?_
      exact exQ_mk (by kernel_rfl) (by kernel_rfl)
  · intro e fr L hJ
    obtain ⟨rfl, rfl, rfl⟩ := hJ
    refine LT_keep [7] [19] (fr' := [(7, .one (.slc 19))]) (L' := [(19, .seq tI v33)]) (by kernel_rfl) ?_
    refine blockQ_hit ?_
    refine seqQ_norm ?_
    refine W_seq (by kernel_rfl) ?_
    refine W_run 2 [] [6] [19] (fr' := [(6, .one (.slc 19))]) (L' := [(19, .seq tI v33)]) (obs := []) (by kernel_rfl) (by kernel_rfl) (by kernel_rfl) allP0 ?_
    refine seqQ_norm ?_
    obtain rfl := Option.some.inj h
    refine W_ret [6] [19] (fr' := [(6, .one (.slc 19))]) (L' := [(19, .seq tI v33)]) (by kernel_rfl) (by kernel_rfl) ?_
    exact retQ_mk (by kernel_rfl) (by kernel_rfl) (by kernel_rfl)

noncomputable def ref_Bit (a0 : Int) (a1 : Int) : Option Bool :=
bif (decide (a1 ≥ (0 : Int))) && (decide (a1 < (63 : Int))) then
((ck (0 ≤ IntKind.wrap .u64 (a1))).bind fun _ =>
some ((bAnd .i64 a0 (bShl .i64 (1 : Int) (IntKind.wrap .u64 (a1)))) != (0 : Int)))
else
(some false)
theorem ref_Bit_ok {a0 : Int} {a1 : Int} {r : Bool} (h : ref_Bit a0 a1 = some r) : FnC Try.prog 82 [aI a0, aI a1] [] (aB r) [] := by
  refine fnC_of_W (B := bodyOf Try.f82) (n := 19) Try.func82 (by kernel_rfl) (by kernel_rfl) (by kernel_rfl) (by kernel_rfl) (by kernel_rfl) ?_
  intro K
  refine W_seq (by kernel_rfl) ?_
  refine W_run 1 [] [0, 1] [] (fr' := [(0, aI a0), (1, aI a1)]) (L' := []) (obs := []) (by kernel_rfl) (by kernel_rfl) (by kernel_rfl) allP0 ?_
  refine seqQ_norm ?_
  refine W_seq (by kernel_rfl) ?_
  refine W_region (by kernel_rfl) ?_
  refine WO_run (j := 7) (k := 7) (orcs := []) (kF := [0, 1, 11]) (kL := []) (fr' := [(0, aI a0), (1, aI a1), (11, aB ((decide (a1 ≥ (0 : Int))) && (decide (a1 < (63 : Int)))))]) (L' := []) (obs := []) rfl (by kernel_rfl) allP0 ?_
  rcases Bool.eq_false_or_eq_true ((decide (a1 ≥ (0 : Int))) && (decide (a1 < (63 : Int)))) with h1 | h1
  · replace h := ofT h1 h
    obtain ⟨_, h2, h⟩ := bind_of h
    replace h2 := ck_some h2
    refine WO_run (j := 15) (k := 8) (orcs := [(14, .known true), (16, .known true), (18, .known true), (20, .known true), (22, .known true), (24, .known true), (27, .val (.dat .bool true))]) (kF := [4]) (kL := []) (fr' := [(4, aB ((bAnd .i64 a0 (bShl .i64 (1 : Int) (IntKind.wrap .u64 (a1)))) != (0 : Int)))]) (L' := []) (obs := [(((decide (a1 ≥ (0 : Int))) && (decide (a1 < (63 : Int)))) = true), (((decide (a1 ≥ (0 : Int))) && (decide (a1 < (63 : Int)))) = true), (((decide (a1 ≥ (0 : Int))) && (decide (a1 < (63 : Int)))) = true), (((decide (a1 ≥ (0 : Int))) && (decide (a1 < (63 : Int)))) = true), (0 ≤ IntKind.wrap .u64 (a1)), (((decide (a1 ≥ (0 : Int))) && (decide (a1 < (63 : Int)))) = true), (((decide (a1 ≥ (0 : Int))) && (decide (a1 < (63 : Int)))) = true), (((decide (a1 ≥ (0 : Int))) && (decide (a1 < (63 : Int)))) = true)]) rfl (by kernel_rfl) (allP2 h1 (allP2 h1 (allP2 h1 (allP2 h1 (allP2 h2 (allP2 h1 (allP2 h1 (allP1 h1)))))))) ?_
    refine WO_fin [4] [] (fr' := [(4, aB ((bAnd .i64 a0 (bShl .i64 (1 : Int) (IntKind.wrap .u64 (a1)))) != (0 : Int)))]) (L' := []) (by kernel_rfl) (by kernel_rfl) ?_
    refine seqQ_norm ?_
    obtain rfl := Option.some.inj h
    refine W_ret [4] [] (fr' := [(4, aB ((bAnd .i64 a0 (bShl .i64 (1 : Int) (IntKind.wrap .u64 (a1)))) != (0 : Int)))]) (L' := []) (by kernel_rfl) (by kernel_rfl) ?_
    exact retQ_mk (by kernel_rfl) (by kernel_rfl) (by kernel_rfl)
  · replace h := ofF h1 h
    refine WO_run (j := 15) (k := 8) (orcs := [(14, .known false), (16, .known false), (18, .known false), (20, .known false), (22, .known false), (24, .known false), (27, .val (.dat .bool false))]) (kF := [4]) (kL := []) (fr' := [(4, aB false)]) (L' := []) (obs := [(((decide (a1 ≥ (0 : Int))) && (decide (a1 < (63 : Int)))) = false), (((decide (a1 ≥ (0 : Int))) && (decide (a1 < (63 : Int)))) = false), (((decide (a1 ≥ (0 : Int))) && (decide (a1 < (63 : Int)))) = false), (((decide (a1 ≥ (0 : Int))) && (decide (a1 < (63 : Int)))) = false), (((decide (a1 ≥ (0 : Int))) && (decide (a1 < (63 : Int)))) = false), (((decide (a1 ≥ (0 : Int))) && (decide (a1 < (63 : Int)))) = false), (((decide (a1 ≥ (0 : Int))) && (decide (a1 < (63 : Int)))) = false)]) rfl (by kernel_rfl) (allP2 h1 (allP2 h1 (allP2 h1 (allP2 h1 (allP2 h1 (allP2 h1 (allP1 h1))))))) ?_
    refine WO_fin [4] [] (fr' := [(4, aB false)]) (L' := []) (by kernel_rfl) (by kernel_rfl) ?_
    refine seqQ_norm ?_
    obtain rfl := Option.some.inj h
    refine W_ret [4] [] (fr' := [(4, aB false)]) (L' := []) (by kernel_rfl) (by kernel_rfl) ?_
    exact retQ_mk (by kernel_rfl) (by kernel_rfl) (by kernel_rfl)

@[reducible] noncomputable def ref_Size_s3 (a0 : Int) (i27 : Int) (v : Int) : Fr × LL := ([(0, aI a0), (3, aI v), (4, aI i27)], [])
noncomputable def ref_Size_b4 (a0 : Int) (i27 : Int) (x28 : Int) : Option (Flow Int Int) :=
((ref_Bit a0 i27).bind fun r37 =>
bif r37 then
(some (w64 (x28 + (1 : Int))))
else
(some x28)).bind fun v40 =>
some (.next v40)
@[reducible] noncomputable def ref_Size_s5 (a0 : Int) (v : Int × Int) : Fr × LL := ([(0, aI a0), (3, aI v.2), (4, aI v.1)], [])
@[reducible] noncomputable def ref_Size_s6 (v : Int) : Fr × LL := ([(3, aI v)], [])
noncomputable def ref_Size (a0 : Int) : Option Int :=
(forI (0 : Int) (63 : Int) (ref_Size_b4 a0) (fun x28 => x28) (0 : Int)).bind fun v43 =>
some v43
theorem ref_Size_ok {a0 : Int} {r : Int} (h : ref_Size a0 = some r) : FnC Try.prog 80 [aI a0] [] (aI r) [] := by
  refine fnC_of_W (B := bodyOf Try.f80) (n := 15) Try.func80 (by kernel_rfl) (by kernel_rfl) (by kernel_rfl) (by kernel_rfl) (by kernel_rfl) ?_
  intro K
  refine W_seq (by kernel_rfl) ?_
  refine W_run 1 [] [0] [] (fr' := [(0, aI a0)]) (L' := []) (obs := []) (by kernel_rfl) (by kernel_rfl) (by kernel_rfl) allP0 ?_
  refine seqQ_norm ?_
  refine W_seq (by kernel_rfl) ?_
  refine W_run 1 [] [0, 3] [] (fr' := [(0, aI a0), (3, aI (0 : Int))]) (L' := []) (obs := []) (by kernel_rfl) (by kernel_rfl) (by kernel_rfl) allP0 ?_
  refine seqQ_norm ?_
  refine W_seq (by kernel_rfl) ?_
  refine W_seq (by kernel_rfl) ?_
  refine W_run 1 [] [0, 3, 4] [] (fr' := [(0, aI a0), (3, aI (0 : Int)), (4, aI (0 : Int))]) (L' := []) (obs := []) (by kernel_rfl) (by kernel_rfl) (by kernel_rfl) allP0 ?_
  refine seqQ_norm ?_
  refine W_block (id := 0) (by kernel_rfl) ?_
  obtain ⟨v43, h44, h⟩ := bind_of h
  obtain ⟨h45, h46⟩ := forI_iter h44
  refine W_weaken [0, 3, 4] [] (fr' := ((ref_Size_s5 a0) ((0 : Int), (0 : Int))).1) (L' := ((ref_Size_s5 a0) ((0 : Int), (0 : Int))).2) (by kernel_rfl) ?_
  refine W_cutK (W_loop (S := (ref_Size_s5 a0)) (J := (exQ (.exit 0) ref_Size_s6)) (by kernel_rfl) ?_ h45 _ v43 h46) ?_
  · rintro ⟨i27, x28⟩ s h
    refine W_seq (by kernel_rfl) ?_
    refine W_seq (by kernel_rfl) ?_
    refine W_run 2 [] [0, 3, 4, 6] [] (fr' := [(0, aI a0), (3, aI x28), (4, aI i27), (6, aB (decide (i27 < (63 : Int))))]) (L' := []) (obs := []) (by kernel_rfl) (by kernel_rfl) (by kernel_rfl) allP0 ?_
    refine seqQ_norm ?_
    refine W_cond (o := .tmp 6) (b := decide (i27 < (63 : Int))) (by kernel_rfl) (by kernel_rfl) (fun h30 => ?_) (fun h30 => ?_)
    · replace h := stepI_true h30 h
      obtain ⟨_, h, rfl⟩ := h
      refine W_skip [0, 3, 4] [] (fr' := [(0, aI a0), (3, aI x28), (4, aI i27)]) (L' := []) (by kernel_rfl) (by kernel_rfl) ?_
      refine seqQ_norm ?_
      refine W_seq (by kernel_rfl) ?_
      obtain ⟨v40, h41, h⟩ := bind_of h
      refine W_cutK (Q' := (exQ .normal (ref_Size_s3 a0 i27)) v40) ?_ ?_
      · replace h := h41
        refine W_block (id := 1) (by kernel_rfl) ?_
        refine W_seq (by kernel_rfl) ?_
        refine W_region (by kernel_rfl) ?_
        refine WO_run (j := 2) (k := 2) (orcs := []) (kF := [0, 3, 4, 9, 10]) (kL := []) (fr' := [(0, aI a0), (3, aI x28), (4, aI i27), (9, aI a0), (10, aI i27)]) (L' := []) (obs := []) rfl (by kernel_rfl) allP0 ?_
        obtain ⟨r37, h38, h⟩ := bind_of h
        refine WO_call0 (us := [none, none]) (d := 11) (p := True) (j := 3) rfl ⟨by kernel_rfl, by kernel_rfl, by kernel_rfl⟩ trivial (ref_Bit_ok h38) (by kernel_rfl) ?_
        refine WO_fin [0, 3, 4, 11] [] (fr' := [(0, aI a0), (3, aI x28), (4, aI i27), (11, aB r37)]) (L' := []) (by kernel_rfl) (by kernel_rfl) ?_
        refine seqQ_norm ?_
        refine W_cond (o := .tmp 11) (b := r37) (by kernel_rfl) (by kernel_rfl) (fun h39 => ?_) (fun h39 => ?_)
        · replace h := ofT h39 h
          obtain rfl := Option.some.inj h
          refine W_run 3 [] [0, 3, 4] [] (fr' := [(0, aI a0), (3, aI (w64 (x28 + (1 : Int)))), (4, aI i27)]) (L' := []) (obs := []) (by kernel_rfl) (by kernel_rfl) (by kernel_rfl) allP0 ?_
          refine blockQ_norm ?_
          exact exQ_mk (by kernel_rfl) (by kernel_rfl)
        · replace h := ofF h39 h
          obtain rfl := Option.some.inj h
          refine W_skip [0, 3, 4] [] (fr' := [(0, aI a0), (3, aI x28), (4, aI i27)]) (L' := []) (by kernel_rfl) (by kernel_rfl) ?_
          refine blockQ_norm ?_
          exact exQ_mk (by kernel_rfl) (by kernel_rfl)
      · intro e fr L hJ
        obtain ⟨rfl, rfl, rfl⟩ := hJ
        refine LT_keep [0, 3, 4] [] (fr' := [(0, aI a0), (3, aI v40), (4, aI i27)]) (L' := []) (by kernel_rfl) ?_
        refine seqQ_norm ?_
        obtain rfl := Option.some.inj h
        refine W_run 3 [] [0, 3, 4] [] (fr' := [(0, aI a0), (3, aI v40), (4, aI (w64 (i27 + (1 : Int))))]) (L' := []) (obs := []) (by kernel_rfl) (by kernel_rfl) (by kernel_rfl) allP0 ?_
        exact round_next' (by kernel_rfl) (by kernel_rfl)
    · obtain rfl := stepI_false h30 h
      refine W_exit (id := 0) [3] [] (fr' := [(3, aI x28)]) (L' := []) (by kernel_rfl) (by kernel_rfl) ?_
      refine seqQ_exit ?_
      refine round_exit ?_
      exact exQ_mk (by kernel_rfl) (by kernel_rfl)
  · intro e fr L hJ
    obtain ⟨rfl, rfl, rfl⟩ := hJ
    refine LT_keep [3] [] (fr' := [(3, aI v43)]) (L' := []) (by kernel_rfl) ?_
    refine blockQ_hit ?_
    refine seqQ_norm ?_
    refine W_seq (by kernel_rfl) ?_
    refine W_run 2 [] [2] [] (fr' := [(2, aI v43)]) (L' := []) (obs := []) (by kernel_rfl) (by kernel_rfl) (by kernel_rfl) allP0 ?_
    refine seqQ_norm ?_
    obtain rfl := Option.some.inj h
    refine W_ret [2] [] (fr' := [(2, aI v43)]) (L' := []) (by kernel_rfl) (by kernel_rfl) ?_
    exact retQ_mk (by kernel_rfl) (by kernel_rfl) (by kernel_rfl)

noncomputable def ref_Odd (a0 : Int) (a1 : Int) : Option Bool :=
(ref_Size (bAnd .i64 a0 a1)).bind fun r1 =>
some ((Int.tmod r1 (2 : Int)) == (1 : Int))
theorem ref_Odd_ok {a0 : Int} {a1 : Int} {r : Bool} (h : ref_Odd a0 a1 = some r) : FnC Try.prog 52 [aI a0, aI a1] [] (aB r) [] := by
  refine fnC_of_W (B := bodyOf Try.f52) (n := 11) Try.func52 (by kernel_rfl) (by kernel_rfl) (by kernel_rfl) (by kernel_rfl) (by kernel_rfl) ?_
  intro K
  refine W_seq (by kernel_rfl) ?_
  refine W_run 1 [] [0, 1] [] (fr' := [(0, aI a0), (1, aI a1)]) (L' := []) (obs := []) (by kernel_rfl) (by kernel_rfl) (by kernel_rfl) allP0 ?_
  refine seqQ_norm ?_
  refine W_seq (by kernel_rfl) ?_
  refine W_region (by kernel_rfl) ?_
  refine WO_run (j := 3) (k := 3) (orcs := []) (kF := [7]) (kL := []) (fr' := [(7, aI (bAnd .i64 a0 a1))]) (L' := []) (obs := []) rfl (by kernel_rfl) allP0 ?_
  obtain ⟨r1, h2, h⟩ := bind_of h
  refine WO_call0 (us := [none]) (d := 8) (p := True) (j := 4) rfl ⟨by kernel_rfl, by kernel_rfl, by kernel_rfl⟩ trivial (ref_Size_ok h2) (by kernel_rfl) ?_
  refine WO_run (j := 7) (k := 3) (orcs := []) (kF := [4]) (kL := []) (fr' := [(4, aB ((Int.tmod r1 (2 : Int)) == (1 : Int)))]) (L' := []) (obs := [((2 : Int) ≠ 0)]) rfl (by kernel_rfl) (allP1 (by decide)) ?_
  refine WO_fin [4] [] (fr' := [(4, aB ((Int.tmod r1 (2 : Int)) == (1 : Int)))]) (L' := []) (by kernel_rfl) (by kernel_rfl) ?_
  refine seqQ_norm ?_
  obtain rfl := Option.some.inj h
  refine W_ret [4] [] (fr' := [(4, aB ((Int.tmod r1 (2 : Int)) == (1 : Int)))]) (L' := []) (by kernel_rfl) (by kernel_rfl) ?_
  exact retQ_mk (by kernel_rfl) (by kernel_rfl) (by kernel_rfl)

noncomputable def ref_Sieved_b28 (v201 : Int) (i277 : Int) (v280 : Int) (x278 : Bool) : Option (Flow Bool Bool) :=
bif x278 then
((ref_Odd v280 (w64 (v201))).bind fun r284 =>
some (.next (!r284)))
else
(some (.next false))
@[reducible] noncomputable def ref_Sieved_s29 (a0 : (List Int)) (a1 : (List Int)) (i198 : Int) (x199 : (List Int)) (v201 : Int) (v : Int × Bool) : Fr × LL := ([(1, aD (.slice tI) a1), (5, .one (.slc 36)), (7, aD (.int .u32) v201), (8, aB v.2), (11, aD (.slice (.int .u32)) a0), (12, aI (List.length a0 : Int)), (13, aI i198), (17, aD (.slice tI) a1), (18, aI (List.length a1 : Int)), (19, aI v.1)], [(36, .seq (.int .u32) x199)])
@[reducible] noncomputable def ref_Sieved_s30 (a0 : (List Int)) (a1 : (List Int)) (i198 : Int) (x199 : (List Int)) (v201 : Int) (v : Bool) : Fr × LL := ([(1, aD (.slice tI) a1), (5, .one (.slc 36)), (7, aD (.int .u32) v201), (8, aB v), (11, aD (.slice (.int .u32)) a0), (12, aI (List.length a0 : Int)), (13, aI i198)], [(36, .seq (.int .u32) x199)])
noncomputable def ref_Sieved_g31 (a1 : (List Int)) (x199 : (List Int)) (v201 : Int) : Option (List Int) :=
(forL (ref_Sieved_b28 v201) (fun x278 => x278) a1 0 true).bind fun v287 =>
bif v287 then
((ck ((List.length x199 : Int) + 1 ≤ 4294967296)).bind fun _ =>
some (x199 ++ [v201]))
else
(some x199)
@[reducible] noncomputable def ref_Sieved_s32 (a0 : (List Int)) (a1 : (List Int)) (i198 : Int) (v : (List Int)) : Fr × LL := ([(1, aD (.slice tI) a1), (5, .one (.slc 36)), (11, aD (.slice (.int .u32)) a0), (12, aI (List.length a0 : Int)), (13, aI i198)], [(36, .seq (.int .u32) v)])
noncomputable def ref_Sieved_b33 (a1 : (List Int)) (i198 : Int) (v201 : Int) (x199 : (List Int)) : Option (Flow (List Int) (List Int)) :=
(ref_Sieved_g31 a1 x199 v201).bind fun v294 =>
some (.next v294)
@[reducible] noncomputable def ref_Sieved_s34 (a0 : (List Int)) (a1 : (List Int)) (v : Int × (List Int)) : Fr × LL := ([(1, aD (.slice tI) a1), (5, .one (.slc 36)), (11, aD (.slice (.int .u32)) a0), (12, aI (List.length a0 : Int)), (13, aI v.1)], [(36, .seq (.int .u32) v.2)])
@[reducible] noncomputable def ref_Sieved_s35 (v : (List Int)) : Fr × LL := ([(5, .one (.slc 36))], [(36, .seq (.int .u32) v)])
noncomputable def ref_Sieved (a0 : (List Int)) (a1 : (List Int)) : Option (List Int) :=
(forL (ref_Sieved_b33 a1) (fun x199 => x199) a0 0 []).bind fun v297 =>
some v297
theorem ref_Sieved_ok {a0 : (List Int)} {a1 : (List Int)} {r : (List Int)} (h : ref_Sieved a0 a1 = some r) : FnC Try.prog 18 [aD (.slice (.int .u32)) a0, aD (.slice tI) a1] [] (aD (.slice (.int .u32)) r) [] := by
  refine fnC_of_W (B := bodyOf Try.f18) (n := 39) Try.func18 (by kernel_rfl) (by kernel_rfl) (by kernel_rfl) (by kernel_rfl) (by kernel_rfl) ?_
  intro K
  refine W_seq (by kernel_rfl) ?_
  refine W_run 1 [] [0, 1] [] (fr' := [(0, aD (.slice (.int .u32)) a0), (1, aD (.slice tI) a1)]) (L' := []) (obs := []) (by kernel_rfl) (by kernel_rfl) (by kernel_rfl) allP0 ?_
  refine seqQ_norm ?_
  refine W_seq (by kernel_rfl) ?_
  refine W_run 1 [] [0, 1, 5] [] (fr' := [(0, aD (.slice (.int .u32)) a0), (1, aD (.slice tI) a1), (5, .one (.nilS))]) (L' := []) (obs := []) (by kernel_rfl) (by kernel_rfl) (by kernel_rfl) allP0 ?_
  refine seqQ_norm ?_
  refine W_seq (by kernel_rfl) ?_
  refine W_seq (by kernel_rfl) ?_
  refine W_run 3 [] [1, 5, 11, 12, 13] [] (fr' := [(1, aD (.slice tI) a1), (5, .one (.nilS)), (11, aD (.slice (.int .u32)) a0), (12, aI (List.length a0 : Int)), (13, aI (0 : Int))]) (L' := []) (obs := []) (by kernel_rfl) (by kernel_rfl) (by kernel_rfl) allP0 ?_
  refine seqQ_norm ?_
  refine W_block (id := 0) (by kernel_rfl) ?_
  obtain ⟨v297, h298, h⟩ := bind_of h
  refine W_len (t := 11) (u := (.int .u32)) (xs := a0) (by kernel_rfl) (fun h301 => ?_)
  obtain ⟨h299, h300⟩ := forL_iter h301 h298
  refine W_mine 5 36 (.int .u32) (by kernel_rfl) ?_
  refine W_weaken [1, 5, 11, 12, 13] [36] (fr' := ((ref_Sieved_s34 a0 a1) ((0 : Int), [])).1) (L' := ((ref_Sieved_s34 a0 a1) ((0 : Int), [])).2) (by kernel_rfl) ?_
  refine W_cutK (W_loop (S := (ref_Sieved_s34 a0 a1)) (J := (exQ (.exit 0) ref_Sieved_s35)) (by kernel_rfl) ?_ h299 _ v297 h300) ?_
  · rintro ⟨i198, x199⟩ s h
    refine W_seq (by kernel_rfl) ?_
    refine W_run 1 [] [1, 5, 11, 12, 13, 14] [36] (fr' := [(1, aD (.slice tI) a1), (5, .one (.slc 36)), (11, aD (.slice (.int .u32)) a0), (12, aI (List.length a0 : Int)), (13, aI i198), (14, aB (decide (i198 < (List.length a0 : Int))))]) (L' := [(36, .seq (.int .u32) x199)]) (obs := []) (by kernel_rfl) (by kernel_rfl) (by kernel_rfl) allP0 ?_
    refine seqQ_norm ?_
    refine W_seq (by kernel_rfl) ?_
    refine W_cond (o := .tmp 14) (b := decide (i198 < (List.length a0 : Int))) (by kernel_rfl) (by kernel_rfl) (fun h203 => ?_) (fun h203 => ?_)
    · replace h := stepL_true h203 h
      obtain ⟨v201, _, h202, h, rfl⟩ := h
      refine W_skip [1, 5, 11, 12, 13] [36] (fr' := [(1, aD (.slice tI) a1), (5, .one (.slc 36)), (11, aD (.slice (.int .u32)) a0), (12, aI (List.length a0 : Int)), (13, aI i198)]) (L' := [(36, .seq (.int .u32) x199)]) (by kernel_rfl) (by kernel_rfl) ?_
      refine seqQ_norm ?_
      refine W_seq (by kernel_rfl) ?_
      obtain ⟨v294, h295, h⟩ := bind_of h
      refine W_cutK (Q' := (exQ .normal (ref_Sieved_s32 a0 a1 i198)) v294) ?_ ?_
      · replace h := h295
        refine W_block (id := 1) (by kernel_rfl) ?_
        refine W_seq (by kernel_rfl) ?_
        refine W_run 3 [(1, .val (.dat (.int .u32) v201))] [1, 5, 7, 11, 12, 13] [36] (fr' := [(1, aD (.slice tI) a1), (5, .one (.slc 36)), (7, aD (.int .u32) v201), (11, aD (.slice (.int .u32)) a0), (12, aI (List.length a0 : Int)), (13, aI i198)]) (L' := [(36, .seq (.int .u32) x199)]) (obs := [Idx a0 i198 v201]) (by kernel_rfl) (by kernel_rfl) (by kernel_rfl) (allP1 (Idx.of h202)) ?_
        refine seqQ_norm ?_
        refine W_seq (by kernel_rfl) ?_
        refine W_run 1 [] [1, 5, 7, 8, 11, 12, 13] [36] (fr' := [(1, aD (.slice tI) a1), (5, .one (.slc 36)), (7, aD (.int .u32) v201), (8, aB true), (11, aD (.slice (.int .u32)) a0), (12, aI (List.length a0 : Int)), (13, aI i198)]) (L' := [(36, .seq (.int .u32) x199)]) (obs := []) (by kernel_rfl) (by kernel_rfl) (by kernel_rfl) allP0 ?_
        refine seqQ_norm ?_
        refine W_seq (by kernel_rfl) ?_
        refine W_seq (by kernel_rfl) ?_
        refine W_run 3 [] [1, 5, 7, 8, 11, 12, 13, 17, 18, 19] [36] (fr' := [(1, aD (.slice tI) a1), (5, .one (.slc 36)), (7, aD (.int .u32) v201), (8, aB true), (11, aD (.slice (.int .u32)) a0), (12, aI (List.length a0 : Int)), (13, aI i198), (17, aD (.slice tI) a1), (18, aI (List.length a1 : Int)), (19, aI (0 : Int))]) (L' := [(36, .seq (.int .u32) x199)]) (obs := []) (by kernel_rfl) (by kernel_rfl) (by kernel_rfl) allP0 ?_
        refine seqQ_norm ?_
        refine W_block (id := 2) (by kernel_rfl) ?_
        obtain ⟨v287, h288, h⟩ := bind_of h
        refine W_len (t := 17) (u := tI) (xs := a1) (by kernel_rfl) (fun h291 => ?_)
        obtain ⟨h289, h290⟩ := forL_iter h291 h288
        refine W_weaken [1, 5, 7, 8, 11, 12, 13, 17, 18, 19] [36] (fr' := ((ref_Sieved_s29 a0 a1 i198 x199 v201) ((0 : Int), true)).1) (L' := ((ref_Sieved_s29 a0 a1 i198 x199 v201) ((0 : Int), true)).2) (by kernel_rfl) ?_
        refine W_cutK (W_loop (S := (ref_Sieved_s29 a0 a1 i198 x199 v201)) (J := (exQ (.exit 2) (ref_Sieved_s30 a0 a1 i198 x199 v201))) (by kernel_rfl) ?_ h289 _ v287 h290) ?_
        · rintro ⟨i277, x278⟩ s h
          refine W_seq (by kernel_rfl) ?_
          refine W_run 1 [] [1, 5, 7, 8, 11, 12, 13, 17, 18, 19, 20] [36] (fr' := [(1, aD (.slice tI) a1), (5, .one (.slc 36)), (7, aD (.int .u32) v201), (8, aB x278), (11, aD (.slice (.int .u32)) a0), (12, aI (List.length a0 : Int)), (13, aI i198), (17, aD (.slice tI) a1), (18, aI (List.length a1 : Int)), (19, aI i277), (20, aB (decide (i277 < (List.length a1 : Int))))]) (L' := [(36, .seq (.int .u32) x199)]) (obs := []) (by kernel_rfl) (by kernel_rfl) (by kernel_rfl) allP0 ?_
          refine seqQ_norm ?_
          refine W_seq (by kernel_rfl) ?_
          refine W_cond (o := .tmp 20) (b := decide (i277 < (List.length a1 : Int))) (by kernel_rfl) (by kernel_rfl) (fun h282 => ?_) (fun h282 => ?_)
          · replace h := stepL_true h282 h
            obtain ⟨v280, _, h281, h, rfl⟩ := h
            refine W_skip [1, 5, 7, 8, 11, 12, 13, 17, 18, 19] [36] (fr' := [(1, aD (.slice tI) a1), (5, .one (.slc 36)), (7, aD (.int .u32) v201), (8, aB x278), (11, aD (.slice (.int .u32)) a0), (12, aI (List.length a0 : Int)), (13, aI i198), (17, aD (.slice tI) a1), (18, aI (List.length a1 : Int)), (19, aI i277)]) (L' := [(36, .seq (.int .u32) x199)]) (by kernel_rfl) (by kernel_rfl) ?_
            refine seqQ_norm ?_
            refine W_seq (by kernel_rfl) ?_
            refine W_block (id := 3) (by kernel_rfl) ?_
            refine W_seq (by kernel_rfl) ?_
            refine W_run 3 [(1, .val (.dat tI v280))] [1, 5, 7, 8, 10, 11, 12, 13, 17, 18, 19] [36] (fr' := [(1, aD (.slice tI) a1), (5, .one (.slc 36)), (7, aD (.int .u32) v201), (8, aB x278), (10, aI v280), (11, aD (.slice (.int .u32)) a0), (12, aI (List.length a0 : Int)), (13, aI i198), (17, aD (.slice tI) a1), (18, aI (List.length a1 : Int)), (19, aI i277)]) (L' := [(36, .seq (.int .u32) x199)]) (obs := [Idx a1 i277 v280]) (by kernel_rfl) (by kernel_rfl) (by kernel_rfl) (allP1 (Idx.of h281)) ?_
            refine seqQ_norm ?_
            refine W_region (by kernel_rfl) ?_
            refine WO_run (j := 2) (k := 2) (orcs := []) (kF := [1, 5, 7, 8, 10, 11, 12, 13, 17, 18, 19, 24]) (kL := [36]) (fr' := [(1, aD (.slice tI) a1), (5, .one (.slc 36)), (7, aD (.int .u32) v201), (8, aB x278), (10, aI v280), (11, aD (.slice (.int .u32)) a0), (12, aI (List.length a0 : Int)), (13, aI i198), (17, aD (.slice tI) a1), (18, aI (List.length a1 : Int)), (19, aI i277), (24, aB x278)]) (L' := [(36, .seq (.int .u32) x199)]) (obs := []) rfl (by kernel_rfl) allP0 ?_
            rcases Bool.eq_false_or_eq_true (x278) with h283 | h283
            · replace h := ofT h283 h
              refine WO_run (j := 5) (k := 3) (orcs := [(4, .known true), (6, .known true), (8, .known true)]) (kF := [1, 5, 7, 8, 11, 12, 13, 17, 18, 19, 24, 25, 27]) (kL := [36]) (fr' := [(1, aD (.slice tI) a1), (5, .one (.slc 36)), (7, aD (.int .u32) v201), (8, aB x278), (11, aD (.slice (.int .u32)) a0), (12, aI (List.length a0 : Int)), (13, aI i198), (17, aD (.slice tI) a1), (18, aI (List.length a1 : Int)), (19, aI i277), (24, aB x278), (25, aI v280), (27, aI (w64 (v201)))]) (L' := [(36, .seq (.int .u32) x199)]) (obs := [(x278 = true), (x278 = true), (x278 = true)]) rfl (by kernel_rfl) (allP2 h283 (allP2 h283 (allP1 h283))) ?_
              obtain ⟨r284, h285, h⟩ := bind_of h
              refine WO_call0 (us := [none, none]) (d := 28) (p := (x278 = true)) (j := 6) rfl ⟨by kernel_rfl, by kernel_rfl, by kernel_rfl⟩ h283 (ref_Odd_ok h285) (by kernel_rfl) ?_
              refine WO_run (j := 9) (k := 3) (orcs := [(12, .known true), (15, .val (.dat .bool true))]) (kF := [1, 5, 7, 8, 11, 12, 13, 17, 18, 19]) (kL := [36]) (fr' := [(1, aD (.slice tI) a1), (5, .one (.slc 36)), (7, aD (.int .u32) v201), (8, aB (!r284)), (11, aD (.slice (.int .u32)) a0), (12, aI (List.length a0 : Int)), (13, aI i198), (17, aD (.slice tI) a1), (18, aI (List.length a1 : Int)), (19, aI i277)]) (L' := [(36, .seq (.int .u32) x199)]) (obs := [(x278 = true), (x278 = true)]) rfl (by kernel_rfl) (allP2 h283 (allP1 h283)) ?_
              refine WO_fin [1, 5, 7, 8, 11, 12, 13, 17, 18, 19] [36] (fr' := [(1, aD (.slice tI) a1), (5, .one (.slc 36)), (7, aD (.int .u32) v201), (8, aB (!r284)), (11, aD (.slice (.int .u32)) a0), (12, aI (List.length a0 : Int)), (13, aI i198), (17, aD (.slice tI) a1), (18, aI (List.length a1 : Int)), (19, aI i277)]) (L' := [(36, .seq (.int .u32) x199)]) (by kernel_rfl) (by kernel_rfl) ?_
              refine blockQ_norm ?_
              refine seqQ_norm ?_
              obtain rfl := Option.some.inj h
              refine W_run 2 [] [1, 5, 7, 8, 11, 12, 13, 17, 18, 19] [36] (fr' := [(1, aD (.slice tI) a1), (5, .one (.slc 36)), (7, aD (.int .u32) v201), (8, aB (!r284)), (11, aD (.slice (.int .u32)) a0), (12, aI (List.length a0 : Int)), (13, aI i198), (17, aD (.slice tI) a1), (18, aI (List.length a1 : Int)), (19, aI (w64 (i277 + (1 : Int))))]) (L' := [(36, .seq (.int .u32) x199)]) (obs := []) (by kernel_rfl) (by kernel_rfl) (by kernel_rfl) allP0 ?_
              exact round_next' (by kernel_rfl) (by kernel_rfl)
            · replace h := ofF h283 h
              refine WO_run (j := 9) (k := 7) (orcs := [(4, .known false), (6, .known false), (8, .known false), (10, .known false), (12, .known false), (15, .val (.dat .bool false))]) (kF := [1, 5, 7, 8, 11, 12, 13, 17, 18, 19]) (kL := [36]) (fr' := [(1, aD (.slice tI) a1), (5, .one (.slc 36)), (7, aD (.int .u32) v201), (8, aB false), (11, aD (.slice (.int .u32)) a0), (12, aI (List.length a0 : Int)), (13, aI i198), (17, aD (.slice tI) a1), (18, aI (List.length a1 : Int)), (19, aI i277)]) (L' := [(36, .seq (.int .u32) x199)]) (obs := [(x278 = false), (x278 = false), (x278 = false), (x278 = false), (x278 = false), (x278 = false)]) rfl (by kernel_rfl) (allP2 h283 (allP2 h283 (allP2 h283 (allP2 h283 (allP2 h283 (allP1 h283)))))) ?_
              refine WO_fin [1, 5, 7, 8, 11, 12, 13, 17, 18, 19] [36] (fr' := [(1, aD (.slice tI) a1), (5, .one (.slc 36)), (7, aD (.int .u32) v201), (8, aB false), (11, aD (.slice (.int .u32)) a0), (12, aI (List.length a0 : Int)), (13, aI i198), (17, aD (.slice tI) a1), (18, aI (List.length a1 : Int)), (19, aI i277)]) (L' := [(36, .seq (.int .u32) x199)]) (by kernel_rfl) (by kernel_rfl) ?_
              refine blockQ_norm ?_
              refine seqQ_norm ?_
              obtain rfl := Option.some.inj h
              refine W_run 2 [] [1, 5, 7, 8, 11, 12, 13, 17, 18, 19] [36] (fr' := [(1, aD (.slice tI) a1), (5, .one (.slc 36)), (7, aD (.int .u32) v201), (8, aB false), (11, aD (.slice (.int .u32)) a0), (12, aI (List.length a0 : Int)), (13, aI i198), (17, aD (.slice tI) a1), (18, aI (List.length a1 : Int)), (19, aI (w64 (i277 + (1 : Int))))]) (L' := [(36, .seq (.int .u32) x199)]) (obs := []) (by kernel_rfl) (by kernel_rfl) (by kernel_rfl) allP0 ?_
              exact round_next' (by kernel_rfl) (by kernel_rfl)
          · obtain rfl := stepL_false h282 h
            refine W_exit (id := 2) [1, 5, 7, 8, 11, 12, 13] [36] (fr' := [(1, aD (.slice tI) a1), (5, .one (.slc 36)), (7, aD (.int .u32) v201), (8, aB x278), (11, aD (.slice (.int .u32)) a0), (12, aI (List.length a0 : Int)), (13, aI i198)]) (L' := [(36, .seq (.int .u32) x199)]) (by kernel_rfl) (by kernel_rfl) ?_
            refine seqQ_exit ?_
            refine round_exit ?_
            exact exQ_mk (by kernel_rfl) (by kernel_rfl)
        · intro e fr L hJ
          obtain ⟨rfl, rfl, rfl⟩ := hJ
          refine LT_keep [1, 5, 7, 8, 11, 12, 13] [36] (fr' := [(1, aD (.slice tI) a1), (5, .one (.slc 36)), (7, aD (.int .u32) v201), (8, aB v287), (11, aD (.slice (.int .u32)) a0), (12, aI (List.length a0 : Int)), (13, aI i198)]) (L' := [(36, .seq (.int .u32) x199)]) (by kernel_rfl) ?_
          refine blockQ_hit ?_
          refine seqQ_norm ?_
          refine W_seq (by kernel_rfl) ?_
          refine W_run 1 [] [1, 5, 7, 11, 12, 13, 32] [36] (fr' := [(1, aD (.slice tI) a1), (5, .one (.slc 36)), (7, aD (.int .u32) v201), (11, aD (.slice (.int .u32)) a0), (12, aI (List.length a0 : Int)), (13, aI i198), (32, aB v287)]) (L' := [(36, .seq (.int .u32) x199)]) (obs := []) (by kernel_rfl) (by kernel_rfl) (by kernel_rfl) allP0 ?_
          refine seqQ_norm ?_
          refine W_cond (o := .tmp 32) (b := v287) (by kernel_rfl) (by kernel_rfl) (fun h292 => ?_) (fun h292 => ?_)
          · replace h := ofT h292 h
            obtain ⟨_, h293, h⟩ := bind_of h
            replace h293 := ck_some h293
            obtain rfl := Option.some.inj h
            refine W_run 5 [] [1, 5, 11, 12, 13] [36] (fr' := [(1, aD (.slice tI) a1), (5, .one (.slc 36)), (11, aD (.slice (.int .u32)) a0), (12, aI (List.length a0 : Int)), (13, aI i198)]) (L' := [(36, .seq (.int .u32) (x199 ++ [v201]))]) (obs := [SmallLen (List.length x199 + List.length [v201])]) (by kernel_rfl) (by kernel_rfl) (by kernel_rfl) (allP1 h293) ?_
            refine blockQ_norm ?_
            exact exQ_mk (by kernel_rfl) (by kernel_rfl)
          · replace h := ofF h292 h
            obtain rfl := Option.some.inj h
            refine W_skip [1, 5, 11, 12, 13] [36] (fr' := [(1, aD (.slice tI) a1), (5, .one (.slc 36)), (11, aD (.slice (.int .u32)) a0), (12, aI (List.length a0 : Int)), (13, aI i198)]) (L' := [(36, .seq (.int .u32) x199)]) (by kernel_rfl) (by kernel_rfl) ?_
            refine blockQ_norm ?_
            exact exQ_mk (by kernel_rfl) (by kernel_rfl)
      · intro e fr L hJ
        obtain ⟨rfl, rfl, rfl⟩ := hJ
        refine LT_keep [1, 5, 11, 12, 13] [36] (fr' := [(1, aD (.slice tI) a1), (5, .one (.slc 36)), (11, aD (.slice (.int .u32)) a0), (12, aI (List.length a0 : Int)), (13, aI i198)]) (L' := [(36, .seq (.int .u32) v294)]) (by kernel_rfl) ?_
        refine seqQ_norm ?_
        obtain rfl := Option.some.inj h
        refine W_run 2 [] [1, 5, 11, 12, 13] [36] (fr' := [(1, aD (.slice tI) a1), (5, .one (.slc 36)), (11, aD (.slice (.int .u32)) a0), (12, aI (List.length a0 : Int)), (13, aI (w64 (i198 + (1 : Int))))]) (L' := [(36, .seq (.int .u32) v294)]) (obs := []) (by kernel_rfl) (by kernel_rfl) (by kernel_rfl) allP0 ?_
        exact round_next' (by kernel_rfl) (by kernel_rfl)
    · obtain rfl := stepL_false h203 h
      refine W_exit (id := 0) [5] [36] (fr' := [(5, .one (.slc 36))]) (L' := [(36, .seq (.int .u32) x199)]) (by kernel_rfl) (by kernel_rfl) ?_
      refine seqQ_exit ?_
      refine round_exit ?_
      exact exQ_mk (by kernel_rfl) (by kernel_rfl)
  · intro e fr L hJ
    obtain ⟨rfl, rfl, rfl⟩ := hJ
    refine LT_keep [5] [36] (fr' := [(5, .one (.slc 36))]) (L' := [(36, .seq (.int .u32) v297)]) (by kernel_rfl) ?_
    refine blockQ_hit ?_
    refine seqQ_norm ?_
    refine W_seq (by kernel_rfl) ?_
    refine W_run 2 [] [4] [36] (fr' := [(4, .one (.slc 36))]) (L' := [(36, .seq (.int .u32) v297)]) (obs := []) (by kernel_rfl) (by kernel_rfl) (by kernel_rfl) allP0 ?_
    refine seqQ_norm ?_
    obtain rfl := Option.some.inj h
    refine W_frz 36 (by kernel_rfl) ?_
    refine W_ret [4] [] (fr' := [(4, aD (.slice (.int .u32)) v297)]) (L' := []) (by kernel_rfl) (by kernel_rfl) ?_
    exact retQ_mk (by kernel_rfl) (by kernel_rfl) (by kernel_rfl)

@[reducible] noncomputable def law_LoneLuckies_s3 (a0 : Int) (a1 : (List Int)) (a2 : Int) (r1 : (Int × Int × Int)) (r3 : Int) (v : Bool) : Fr × LL := ([(0, aI a0), (1, aD (.slice (.int .u32)) a1), (2, aI a2), (7, aI r1.1), (8, aI r1.2.1), (9, aI r1.2.2), (10, aI r3), (36, aB v)], [])
noncomputable def law_LoneLuckies_g4 (a0 : Int) (a2 : Int) (r3 : Int) : Option Int :=
(bif r3 == (0 : Int) then
((ref_Within (0 : Int) a2 (12 : Int)).bind fun r36 =>
some ((!r36) || (decide ((w64 (a2 * a0)) > (12 : Int)))))
else
(some false)).bind fun v38 =>
bif v38 then
(some (2 : Int))
else
(some r3)
noncomputable def law_LoneLuckies_g9 (a0 : Int) (a1 : (List Int)) (a2 : Int) (x67 : (Int × Int)) : Option Int :=
(ck (0 ≤ IntKind.wrap .u64 (a0))).bind fun _ =>
(ref_Dice a2 (bShl .i64 (1 : Int) (IntKind.wrap .u64 (a0))) x67.2).bind fun r105 =>
(ref_Sieved a1 r105).bind fun r107 =>
bif (List.length r107 : Int) == (1 : Int) then
(some (w64 (x67.1 + (1 : Int))))
else
(some x67.1)
@[reducible] noncomputable def law_LoneLuckies_s10 (a0 : Int) (a1 : (List Int)) (a2 : Int) (r1 : (Int × Int × Int)) (x67 : (Int × Int)) (v : Int) : Fr × LL := ([(0, aI a0), (1, aD (.slice (.int .u32)) a1), (2, aI a2), (7, aI r1.1), (8, aI r1.2.1), (9, aI r1.2.2), (11, aI v), (12, aI x67.2)], [])
noncomputable def law_LoneLuckies_b11 (a0 : Int) (a1 : (List Int)) (a2 : Int) (x67 : (Int × Int)) : Option (Flow (Int × Int) Int) :=
(ck (0 ≤ IntKind.wrap .u64 (w64 (a2 * a0)))).bind fun _ =>
bif decide (x67.2 < (bShl .i64 (1 : Int) (IntKind.wrap .u64 (w64 (a2 * a0))))) then
((law_LoneLuckies_g9 a0 a1 a2 x67).bind fun v110 =>
some (.next (v110, w64 (x67.2 + (1 : Int)))))
else
(some (.done x67.1))
@[reducible] noncomputable def law_LoneLuckies_s12 (a0 : Int) (a1 : (List Int)) (a2 : Int) (r1 : (Int × Int × Int)) (v : (Int × Int)) : Fr × LL := ([(0, aI a0), (1, aD (.slice (.int .u32)) a1), (2, aI a2), (7, aI r1.1), (8, aI r1.2.1), (9, aI r1.2.2), (11, aI v.1), (12, aI v.2)], [])
@[reducible] noncomputable def law_LoneLuckies_s13 (a0 : Int) (a2 : Int) (r1 : (Int × Int × Int)) (v : Int) : Fr × LL := ([(0, aI a0), (2, aI a2), (7, aI r1.1), (8, aI r1.2.1), (9, aI r1.2.2), (11, aI v)], [])
@[reducible] noncomputable def law_LoneLuckies_s14 (a0 : Int) (a1 : (List Int)) (a2 : Int) (r1 : (Int × Int × Int)) (v : Int) : Fr × LL := ([(0, aI a0), (1, aD (.slice (.int .u32)) a1), (2, aI a2), (7, aI r1.1), (8, aI r1.2.1), (9, aI r1.2.2), (10, aI v)], [])
noncomputable def law_LoneLuckies (fuel : Nat) (a0 : Int) (a1 : (List Int)) (a2 : Int) : Option Bool :=
(lone_Lucky fuel a0 a1 a2).bind fun r1 =>
(ref_LoneCheck fuel a0 a1).bind fun r3 =>
(law_LoneLuckies_g4 a0 a2 r3).bind fun v41 =>
bif v41 != (0 : Int) then
(some (((r1.2.2 == v41) && (r1.1 == (0 : Int))) && (r1.2.1 == (0 : Int))))
else
((iter (law_LoneLuckies_b11 a0 a1 a2) fuel ((0 : Int), (0 : Int))).bind fun v112 =>
bif r1.2.2 == (0 : Int) then
((ck (0 ≤ IntKind.wrap .u64 (w64 (a2 * a0)))).bind fun _ =>
some ((r1.2.1 == (bShl .i64 (1 : Int) (IntKind.wrap .u64 (w64 (a2 * a0))))) && (r1.1 == v112)))
else
(some false))
theorem law_LoneLuckies_ok {fuel : Nat} {a0 : Int} {a1 : (List Int)} {a2 : Int} {r : Bool} (h : law_LoneLuckies fuel a0 a1 a2 = some r) : FnC Try.prog 6 [aI a0, aD (.slice (.int .u32)) a1, aI a2] [] (aB r) [] := by
  refine fnC_of_W (B := bodyOf Try.f6) (n := 87) Try.func6 (by kernel_rfl) (by kernel_rfl) (by kernel_rfl) (by kernel_rfl) (by kernel_rfl) ?_
  intro K
  refine W_seq (by kernel_rfl) ?_
  refine W_run 1 [] [0, 1, 2] [] (fr' := [(0, aI a0), (1, aD (.slice (.int .u32)) a1), (2, aI a2)]) (L' := []) (obs := []) (by kernel_rfl) (by kernel_rfl) (by kernel_rfl) allP0 ?_
  refine seqQ_norm ?_
  refine W_seq (by kernel_rfl) ?_
  refine W_region (by kernel_rfl) ?_
  refine WO_run (j := 3) (k := 3) (orcs := []) (kF := [0, 1, 2, 14, 15, 16]) (kL := []) (fr' := [(0, aI a0), (1, aD (.slice (.int .u32)) a1), (2, aI a2), (14, aI a0), (15, aD (.slice (.int .u32)) a1), (16, aI a2)]) (L' := []) (obs := []) rfl (by kernel_rfl) allP0 ?_
  obtain ⟨r1, h2, h⟩ := bind_of h
  refine WO_call0 (us := [none, none, none]) (d := 17) (p := True) (j := 4) rfl ⟨by kernel_rfl, by kernel_rfl, by kernel_rfl⟩ trivial (lone_Lucky_ok h2) (by kernel_rfl) ?_
  refine WO_run (j := 11) (k := 7) (orcs := []) (kF := [0, 1, 2, 7, 8, 9]) (kL := []) (fr' := [(0, aI a0), (1, aD (.slice (.int .u32)) a1), (2, aI a2), (7, aI r1.1), (8, aI r1.2.1), (9, aI r1.2.2)]) (L' := []) (obs := []) rfl (by kernel_rfl) allP0 ?_
  refine WO_fin [0, 1, 2, 7, 8, 9] [] (fr' := [(0, aI a0), (1, aD (.slice (.int .u32)) a1), (2, aI a2), (7, aI r1.1), (8, aI r1.2.1), (9, aI r1.2.2)]) (L' := []) (by kernel_rfl) (by kernel_rfl) ?_
  refine seqQ_norm ?_
  refine W_seq (by kernel_rfl) ?_
  refine W_region (by kernel_rfl) ?_
  refine WO_run (j := 2) (k := 2) (orcs := []) (kF := [0, 1, 2, 7, 8, 9, 21, 22]) (kL := []) (fr' := [(0, aI a0), (1, aD (.slice (.int .u32)) a1), (2, aI a2), (7, aI r1.1), (8, aI r1.2.1), (9, aI r1.2.2), (21, aI a0), (22, aD (.slice (.int .u32)) a1)]) (L' := []) (obs := []) rfl (by kernel_rfl) allP0 ?_
  obtain ⟨r3, h4, h⟩ := bind_of h
  refine WO_call0 (us := [none, none]) (d := 23) (p := True) (j := 3) rfl ⟨by kernel_rfl, by kernel_rfl, by kernel_rfl⟩ trivial (ref_LoneCheck_ok h4) (by kernel_rfl) ?_
  refine WO_run (j := 4) (k := 1) (orcs := []) (kF := [0, 1, 2, 7, 8, 9, 10]) (kL := []) (fr' := [(0, aI a0), (1, aD (.slice (.int .u32)) a1), (2, aI a2), (7, aI r1.1), (8, aI r1.2.1), (9, aI r1.2.2), (10, aI r3)]) (L' := []) (obs := []) rfl (by kernel_rfl) allP0 ?_
  refine WO_fin [0, 1, 2, 7, 8, 9, 10] [] (fr' := [(0, aI a0), (1, aD (.slice (.int .u32)) a1), (2, aI a2), (7, aI r1.1), (8, aI r1.2.1), (9, aI r1.2.2), (10, aI r3)]) (L' := []) (by kernel_rfl) (by kernel_rfl) ?_
  refine seqQ_norm ?_
  refine W_seq (by kernel_rfl) ?_
  obtain ⟨v41, h42, h⟩ := bind_of h
  refine W_cutK (Q' := (exQ .normal (law_LoneLuckies_s14 a0 a1 a2 r1)) v41) ?_ ?_
  · replace h := h42
    refine W_seq (by kernel_rfl) ?_
    obtain ⟨v38, h39, h⟩ := bind_of h
    refine W_cutK (Q' := (exQ .normal (law_LoneLuckies_s3 a0 a1 a2 r1 r3)) v38) ?_ ?_
    · replace h := h39
      refine W_region (by kernel_rfl) ?_
      refine WO_run (j := 3) (k := 3) (orcs := []) (kF := [0, 1, 2, 7, 8, 9, 10, 26]) (kL := []) (fr' := [(0, aI a0), (1, aD (.slice (.int .u32)) a1), (2, aI a2), (7, aI r1.1), (8, aI r1.2.1), (9, aI r1.2.2), (10, aI r3), (26, aB (r3 == (0 : Int)))]) (L' := []) (obs := []) rfl (by kernel_rfl) allP0 ?_
      rcases Bool.eq_false_or_eq_true (r3 == (0 : Int)) with h35 | h35
      · replace h := ofT h35 h
        refine WO_run (j := 4) (k := 1) (orcs := [(6, .known true)]) (kF := [0, 1, 2, 7, 8, 9, 10, 26, 27]) (kL := []) (fr' := [(0, aI a0), (1, aD (.slice (.int .u32)) a1), (2, aI a2), (7, aI r1.1), (8, aI r1.2.1), (9, aI r1.2.2), (10, aI r3), (26, aB (r3 == (0 : Int))), (27, aI a2)]) (L' := []) (obs := [((r3 == (0 : Int)) = true)]) rfl (by kernel_rfl) (allP1 h35) ?_
        obtain ⟨r36, h37, h⟩ := bind_of h
        refine WO_call0 (us := [none, none, none]) (d := 28) (p := ((r3 == (0 : Int)) = true)) (j := 5) rfl ⟨by kernel_rfl, by kernel_rfl, by kernel_rfl⟩ h35 (ref_Within_ok h37) (by kernel_rfl) ?_
        refine WO_run (j := 13) (k := 8) (orcs := [(10, .known true), (12, .known true), (22, .known true), (25, .val (.dat .bool true))]) (kF := [0, 1, 2, 7, 8, 9, 10, 36]) (kL := []) (fr' := [(0, aI a0), (1, aD (.slice (.int .u32)) a1), (2, aI a2), (7, aI r1.1), (8, aI r1.2.1), (9, aI r1.2.2), (10, aI r3), (36, aB ((!r36) || (decide ((w64 (a2 * a0)) > (12 : Int)))))]) (L' := []) (obs := [((r3 == (0 : Int)) = true), ((r3 == (0 : Int)) = true), ((r3 == (0 : Int)) = true), ((r3 == (0 : Int)) = true)]) rfl (by kernel_rfl) (allP2 h35 (allP2 h35 (allP2 h35 (allP1 h35)))) ?_
        obtain rfl := Option.some.inj h
        refine WO_fin [0, 1, 2, 7, 8, 9, 10, 36] [] (fr' := [(0, aI a0), (1, aD (.slice (.int .u32)) a1), (2, aI a2), (7, aI r1.1), (8, aI r1.2.1), (9, aI r1.2.2), (10, aI r3), (36, aB ((!r36) || (decide ((w64 (a2 * a0)) > (12 : Int)))))]) (L' := []) (by kernel_rfl) (by kernel_rfl) ?_
        exact exQ_mk (by kernel_rfl) (by kernel_rfl)
      · replace h := ofF h35 h
        refine WO_run (j := 13) (k := 10) (orcs := [(6, .known false), (8, .known false), (10, .known false), (12, .known false), (14, .known true), (16, .known true), (18, .known true), (20, .known true), (22, .known false), (25, .val (.dat .bool false))]) (kF := [0, 1, 2, 7, 8, 9, 10, 36]) (kL := []) (fr' := [(0, aI a0), (1, aD (.slice (.int .u32)) a1), (2, aI a2), (7, aI r1.1), (8, aI r1.2.1), (9, aI r1.2.2), (10, aI r3), (36, aB false)]) (L' := []) (obs := [((r3 == (0 : Int)) = false), ((r3 == (0 : Int)) = false), ((r3 == (0 : Int)) = false), ((r3 == (0 : Int)) = false), ((r3 == (0 : Int)) = false), ((r3 == (0 : Int)) = false)]) rfl (by kernel_rfl) (allP2 h35 (allP2 h35 (allP2 h35 (allP2 h35 (allP2 h35 (allP1 h35)))))) ?_
        obtain rfl := Option.some.inj h
        refine WO_fin [0, 1, 2, 7, 8, 9, 10, 36] [] (fr' := [(0, aI a0), (1, aD (.slice (.int .u32)) a1), (2, aI a2), (7, aI r1.1), (8, aI r1.2.1), (9, aI r1.2.2), (10, aI r3), (36, aB false)]) (L' := []) (by kernel_rfl) (by kernel_rfl) ?_
        exact exQ_mk (by kernel_rfl) (by kernel_rfl)
    · intro e fr L hJ
      obtain ⟨rfl, rfl, rfl⟩ := hJ
      refine LT_keep [0, 1, 2, 7, 8, 9, 10, 36] [] (fr' := [(0, aI a0), (1, aD (.slice (.int .u32)) a1), (2, aI a2), (7, aI r1.1), (8, aI r1.2.1), (9, aI r1.2.2), (10, aI r3), (36, aB v38)]) (L' := []) (by kernel_rfl) ?_
      refine seqQ_norm ?_
      refine W_cond (o := .tmp 36) (b := v38) (by kernel_rfl) (by kernel_rfl) (fun h40 => ?_) (fun h40 => ?_)
      · replace h := ofT h40 h
        obtain rfl := Option.some.inj h
        refine W_run 1 [] [0, 1, 2, 7, 8, 9, 10] [] (fr' := [(0, aI a0), (1, aD (.slice (.int .u32)) a1), (2, aI a2), (7, aI r1.1), (8, aI r1.2.1), (9, aI r1.2.2), (10, aI (2 : Int))]) (L' := []) (obs := []) (by kernel_rfl) (by kernel_rfl) (by kernel_rfl) allP0 ?_
        exact exQ_mk (by kernel_rfl) (by kernel_rfl)
      · replace h := ofF h40 h
        obtain rfl := Option.some.inj h
        refine W_skip [0, 1, 2, 7, 8, 9, 10] [] (fr' := [(0, aI a0), (1, aD (.slice (.int .u32)) a1), (2, aI a2), (7, aI r1.1), (8, aI r1.2.1), (9, aI r1.2.2), (10, aI r3)]) (L' := []) (by kernel_rfl) (by kernel_rfl) ?_
        exact exQ_mk (by kernel_rfl) (by kernel_rfl)
  · intro e fr L hJ
    obtain ⟨rfl, rfl, rfl⟩ := hJ
    refine LT_keep [0, 1, 2, 7, 8, 9, 10] [] (fr' := [(0, aI a0), (1, aD (.slice (.int .u32)) a1), (2, aI a2), (7, aI r1.1), (8, aI r1.2.1), (9, aI r1.2.2), (10, aI v41)]) (L' := []) (by kernel_rfl) ?_
    refine seqQ_norm ?_
    refine W_seq (by kernel_rfl) ?_
    refine W_seq (by kernel_rfl) ?_
    refine W_run 2 [] [0, 1, 2, 7, 8, 9, 10, 38] [] (fr' := [(0, aI a0), (1, aD (.slice (.int .u32)) a1), (2, aI a2), (7, aI r1.1), (8, aI r1.2.1), (9, aI r1.2.2), (10, aI v41), (38, aB (v41 != (0 : Int)))]) (L' := []) (obs := []) (by kernel_rfl) (by kernel_rfl) (by kernel_rfl) allP0 ?_
    refine seqQ_norm ?_
    refine W_cond (o := .tmp 38) (b := v41 != (0 : Int)) (by kernel_rfl) (by kernel_rfl) (fun h43 => ?_) (fun h43 => ?_)
    · replace h := ofT h43 h
      refine W_seq (by kernel_rfl) ?_
      refine W_run 12 [] [6] [] (fr' := [(6, aB (((r1.2.2 == v41) && (r1.1 == (0 : Int))) && (r1.2.1 == (0 : Int))))]) (L' := []) (obs := []) (by kernel_rfl) (by kernel_rfl) (by kernel_rfl) allP0 ?_
      refine seqQ_norm ?_
      obtain rfl := Option.some.inj h
      refine W_ret [6] [] (fr' := [(6, aB (((r1.2.2 == v41) && (r1.1 == (0 : Int))) && (r1.2.1 == (0 : Int))))]) (L' := []) (by kernel_rfl) (by kernel_rfl) ?_
      refine seqQ_ret ?_
      exact retQ_mk (by kernel_rfl) (by kernel_rfl) (by kernel_rfl)
    · replace h := ofF h43 h
      refine W_skip [0, 1, 2, 7, 8, 9] [] (fr' := [(0, aI a0), (1, aD (.slice (.int .u32)) a1), (2, aI a2), (7, aI r1.1), (8, aI r1.2.1), (9, aI r1.2.2)]) (L' := []) (by kernel_rfl) (by kernel_rfl) ?_
      refine seqQ_norm ?_
      refine W_seq (by kernel_rfl) ?_
      refine W_run 1 [] [0, 1, 2, 7, 8, 9, 11] [] (fr' := [(0, aI a0), (1, aD (.slice (.int .u32)) a1), (2, aI a2), (7, aI r1.1), (8, aI r1.2.1), (9, aI r1.2.2), (11, aI (0 : Int))]) (L' := []) (obs := []) (by kernel_rfl) (by kernel_rfl) (by kernel_rfl) allP0 ?_
      refine seqQ_norm ?_
      refine W_seq (by kernel_rfl) ?_
      refine W_seq (by kernel_rfl) ?_
      refine W_run 1 [] [0, 1, 2, 7, 8, 9, 11, 12] [] (fr' := [(0, aI a0), (1, aD (.slice (.int .u32)) a1), (2, aI a2), (7, aI r1.1), (8, aI r1.2.1), (9, aI r1.2.2), (11, aI (0 : Int)), (12, aI (0 : Int))]) (L' := []) (obs := []) (by kernel_rfl) (by kernel_rfl) (by kernel_rfl) allP0 ?_
      refine seqQ_norm ?_
      refine W_block (id := 0) (by kernel_rfl) ?_
      obtain ⟨v112, h113, h⟩ := bind_of h
      refine W_weaken [0, 1, 2, 7, 8, 9, 11, 12] [] (fr' := ((law_LoneLuckies_s12 a0 a1 a2 r1) ((0 : Int), (0 : Int))).1) (L' := ((law_LoneLuckies_s12 a0 a1 a2 r1) ((0 : Int), (0 : Int))).2) (by kernel_rfl) ?_
      refine W_cutK (W_loop (S := (law_LoneLuckies_s12 a0 a1 a2 r1)) (J := (exQ (.exit 0) (law_LoneLuckies_s13 a0 a2 r1))) (by kernel_rfl) ?_ fuel _ v112 h113) ?_
      · rintro x67 s h
        refine W_seq (by kernel_rfl) ?_
        refine W_seq (by kernel_rfl) ?_
        obtain ⟨_, h90, h⟩ := bind_of h
        replace h90 := ck_some h90
        refine W_run 7 [] [0, 1, 2, 7, 8, 9, 11, 12, 56] [] (fr' := [(0, aI a0), (1, aD (.slice (.int .u32)) a1), (2, aI a2), (7, aI r1.1), (8, aI r1.2.1), (9, aI r1.2.2), (11, aI x67.1), (12, aI x67.2), (56, aB (decide (x67.2 < (bShl .i64 (1 : Int) (IntKind.wrap .u64 (w64 (a2 * a0)))))))]) (L' := []) (obs := [(0 ≤ IntKind.wrap .u64 (w64 (a2 * a0)))]) (by kernel_rfl) (by kernel_rfl) (by kernel_rfl) (allP1 h90) ?_
        refine seqQ_norm ?_
        refine W_cond (o := .tmp 56) (b := decide (x67.2 < (bShl .i64 (1 : Int) (IntKind.wrap .u64 (w64 (a2 * a0)))))) (by kernel_rfl) (by kernel_rfl) (fun h91 => ?_) (fun h91 => ?_)
        · replace h := ofT h91 h
          refine W_skip [0, 1, 2, 7, 8, 9, 11, 12] [] (fr' := [(0, aI a0), (1, aD (.slice (.int .u32)) a1), (2, aI a2), (7, aI r1.1), (8, aI r1.2.1), (9, aI r1.2.2), (11, aI x67.1), (12, aI x67.2)]) (L' := []) (by kernel_rfl) (by kernel_rfl) ?_
          refine seqQ_norm ?_
          refine W_seq (by kernel_rfl) ?_
          obtain ⟨v110, h111, h⟩ := bind_of h
          refine W_cutK (Q' := (exQ .normal (law_LoneLuckies_s10 a0 a1 a2 r1 x67)) v110) ?_ ?_
          · replace h := h111
            refine W_block (id := 1) (by kernel_rfl) ?_
            refine W_seq (by kernel_rfl) ?_
            obtain ⟨_, h104, h⟩ := bind_of h
            replace h104 := ck_some h104
            refine W_region (by kernel_rfl) ?_
            refine WO_run (j := 6) (k := 6) (orcs := []) (kF := [0, 1, 2, 7, 8, 9, 11, 12, 59, 60, 63, 64]) (kL := []) (fr' := [(0, aI a0), (1, aD (.slice (.int .u32)) a1), (2, aI a2), (7, aI r1.1), (8, aI r1.2.1), (9, aI r1.2.2), (11, aI x67.1), (12, aI x67.2), (59, aD (.slice (.int .u32)) a1), (60, aI a2), (63, aI (bShl .i64 (1 : Int) (IntKind.wrap .u64 (a0)))), (64, aI x67.2)]) (L' := []) (obs := [(0 ≤ IntKind.wrap .u64 (a0))]) rfl (by kernel_rfl) (allP1 h104) ?_
            obtain ⟨r105, h106, h⟩ := bind_of h
            refine WO_call1 (us := [none, none, none]) (d := 65) (t := 65) (p := True) (j := 7) rfl ⟨by kernel_rfl, by kernel_rfl, by kernel_rfl⟩ trivial (ref_Dice_ok h106) (by kernel_rfl) ?_
            obtain ⟨r107, h108, h⟩ := bind_of h
            refine WO_frz 65 (by kernel_rfl) ?_
            refine WO_call0 (us := [none, none]) (d := 66) (p := True) (j := 8) rfl ⟨by kernel_rfl, by kernel_rfl, by kernel_rfl⟩ trivial (ref_Sieved_ok h108) (by kernel_rfl) ?_
            refine WO_run (j := 10) (k := 2) (orcs := []) (kF := [0, 1, 2, 7, 8, 9, 11, 12, 68]) (kL := []) (fr' := [(0, aI a0), (1, aD (.slice (.int .u32)) a1), (2, aI a2), (7, aI r1.1), (8, aI r1.2.1), (9, aI r1.2.2), (11, aI x67.1), (12, aI x67.2), (68, aB ((List.length r107 : Int) == (1 : Int)))]) (L' := []) (obs := []) rfl (by kernel_rfl) allP0 ?_
            refine WO_fin [0, 1, 2, 7, 8, 9, 11, 12, 68] [] (fr' := [(0, aI a0), (1, aD (.slice (.int .u32)) a1), (2, aI a2), (7, aI r1.1), (8, aI r1.2.1), (9, aI r1.2.2), (11, aI x67.1), (12, aI x67.2), (68, aB ((List.length r107 : Int) == (1 : Int)))]) (L' := []) (by kernel_rfl) (by kernel_rfl) ?_
            refine seqQ_norm ?_
            refine W_cond (o := .tmp 68) (b := (List.length r107 : Int) == (1 : Int)) (by kernel_rfl) (by kernel_rfl) (fun h109 => ?_) (fun h109 => ?_)
            · replace h := ofT h109 h
              obtain rfl := Option.some.inj h
              refine W_run 3 [] [0, 1, 2, 7, 8, 9, 11, 12] [] (fr' := [(0, aI a0), (1, aD (.slice (.int .u32)) a1), (2, aI a2), (7, aI r1.1), (8, aI r1.2.1), (9, aI r1.2.2), (11, aI (w64 (x67.1 + (1 : Int)))), (12, aI x67.2)]) (L' := []) (obs := []) (by kernel_rfl) (by kernel_rfl) (by kernel_rfl) allP0 ?_
              refine blockQ_norm ?_
              exact exQ_mk (by kernel_rfl) (by kernel_rfl)
            · replace h := ofF h109 h
              obtain rfl := Option.some.inj h
              refine W_skip [0, 1, 2, 7, 8, 9, 11, 12] [] (fr' := [(0, aI a0), (1, aD (.slice (.int .u32)) a1), (2, aI a2), (7, aI r1.1), (8, aI r1.2.1), (9, aI r1.2.2), (11, aI x67.1), (12, aI x67.2)]) (L' := []) (by kernel_rfl) (by kernel_rfl) ?_
              refine blockQ_norm ?_
              exact exQ_mk (by kernel_rfl) (by kernel_rfl)
          · intro e fr L hJ
            obtain ⟨rfl, rfl, rfl⟩ := hJ
            refine LT_keep [0, 1, 2, 7, 8, 9, 11, 12] [] (fr' := [(0, aI a0), (1, aD (.slice (.int .u32)) a1), (2, aI a2), (7, aI r1.1), (8, aI r1.2.1), (9, aI r1.2.2), (11, aI v110), (12, aI x67.2)]) (L' := []) (by kernel_rfl) ?_
            refine seqQ_norm ?_
            obtain rfl := Option.some.inj h
            refine W_run 3 [] [0, 1, 2, 7, 8, 9, 11, 12] [] (fr' := [(0, aI a0), (1, aD (.slice (.int .u32)) a1), (2, aI a2), (7, aI r1.1), (8, aI r1.2.1), (9, aI r1.2.2), (11, aI v110), (12, aI (w64 (x67.2 + (1 : Int))))]) (L' := []) (obs := []) (by kernel_rfl) (by kernel_rfl) (by kernel_rfl) allP0 ?_
            exact round_next' (by kernel_rfl) (by kernel_rfl)
        · replace h := ofF h91 h
          obtain rfl := Option.some.inj h
          refine W_exit (id := 0) [0, 2, 7, 8, 9, 11] [] (fr' := [(0, aI a0), (2, aI a2), (7, aI r1.1), (8, aI r1.2.1), (9, aI r1.2.2), (11, aI x67.1)]) (L' := []) (by kernel_rfl) (by kernel_rfl) ?_
          refine seqQ_exit ?_
          refine round_exit ?_
          exact exQ_mk (by kernel_rfl) (by kernel_rfl)
      · intro e fr L hJ
        obtain ⟨rfl, rfl, rfl⟩ := hJ
        refine LT_keep [0, 2, 7, 8, 9, 11] [] (fr' := [(0, aI a0), (2, aI a2), (7, aI r1.1), (8, aI r1.2.1), (9, aI r1.2.2), (11, aI v112)]) (L' := []) (by kernel_rfl) ?_
        refine blockQ_hit ?_
        refine seqQ_norm ?_
        refine W_seq (by kernel_rfl) ?_
        refine W_region (by kernel_rfl) ?_
        refine WO_run (j := 3) (k := 3) (orcs := []) (kF := [0, 2, 7, 8, 11, 73]) (kL := []) (fr' := [(0, aI a0), (2, aI a2), (7, aI r1.1), (8, aI r1.2.1), (11, aI v112), (73, aB (r1.2.2 == (0 : Int)))]) (L' := []) (obs := []) rfl (by kernel_rfl) allP0 ?_
        rcases Bool.eq_false_or_eq_true (r1.2.2 == (0 : Int)) with h116 | h116
        · replace h := ofT h116 h
          obtain ⟨_, h117, h⟩ := bind_of h
          replace h117 := ck_some h117
          refine WO_run (j := 17) (k := 14) (orcs := [(6, .known true), (8, .known true), (10, .known true), (12, .known true), (14, .known true), (16, .known true), (18, .known true), (21, .val (.dat .bool true))]) (kF := [6]) (kL := []) (fr' := [(6, aB ((r1.2.1 == (bShl .i64 (1 : Int) (IntKind.wrap .u64 (w64 (a2 * a0))))) && (r1.1 == v112)))]) (L' := []) (obs := [((r1.2.2 == (0 : Int)) = true), ((r1.2.2 == (0 : Int)) = true), ((r1.2.2 == (0 : Int)) = true), ((r1.2.2 == (0 : Int)) = true), ((r1.2.2 == (0 : Int)) = true), ((r1.2.2 == (0 : Int)) = true), (0 ≤ IntKind.wrap .u64 (w64 (a2 * a0))), ((r1.2.2 == (0 : Int)) = true), ((r1.2.2 == (0 : Int)) = true)]) rfl (by kernel_rfl) (allP2 h116 (allP2 h116 (allP2 h116 (allP2 h116 (allP2 h116 (allP2 h116 (allP2 h117 (allP2 h116 (allP1 h116))))))))) ?_
          refine WO_fin [6] [] (fr' := [(6, aB ((r1.2.1 == (bShl .i64 (1 : Int) (IntKind.wrap .u64 (w64 (a2 * a0))))) && (r1.1 == v112)))]) (L' := []) (by kernel_rfl) (by kernel_rfl) ?_
          refine seqQ_norm ?_
          obtain rfl := Option.some.inj h
          refine W_ret [6] [] (fr' := [(6, aB ((r1.2.1 == (bShl .i64 (1 : Int) (IntKind.wrap .u64 (w64 (a2 * a0))))) && (r1.1 == v112)))]) (L' := []) (by kernel_rfl) (by kernel_rfl) ?_
          exact retQ_mk (by kernel_rfl) (by kernel_rfl) (by kernel_rfl)
        · replace h := ofF h116 h
          refine WO_run (j := 17) (k := 14) (orcs := [(6, .known false), (8, .known false), (10, .known false), (12, .known false), (14, .known false), (16, .known false), (18, .known false), (21, .val (.dat .bool false)), (24, .known false), (26, .known false), (28, .known false), (31, .val (.dat .bool false))]) (kF := [6]) (kL := []) (fr' := [(6, aB false)]) (L' := []) (obs := [((r1.2.2 == (0 : Int)) = false), ((r1.2.2 == (0 : Int)) = false), ((r1.2.2 == (0 : Int)) = false), ((r1.2.2 == (0 : Int)) = false), ((r1.2.2 == (0 : Int)) = false), ((r1.2.2 == (0 : Int)) = false), ((r1.2.2 == (0 : Int)) = false), ((r1.2.2 == (0 : Int)) = false), (false = false), (false = false), (false = false), (false = false)]) rfl (by kernel_rfl) (allP2 h116 (allP2 h116 (allP2 h116 (allP2 h116 (allP2 h116 (allP2 h116 (allP2 h116 (allP2 h116 (allP2 rfl (allP2 rfl (allP2 rfl (allP1 rfl)))))))))))) ?_
          refine WO_fin [6] [] (fr' := [(6, aB false)]) (L' := []) (by kernel_rfl) (by kernel_rfl) ?_
          refine seqQ_norm ?_
          obtain rfl := Option.some.inj h
          refine W_ret [6] [] (fr' := [(6, aB false)]) (L' := []) (by kernel_rfl) (by kernel_rfl) ?_
          exact retQ_mk (by kernel_rfl) (by kernel_rfl) (by kernel_rfl)
end Go.Proofs.Ytkkmiclmbhbmjaa.loneLuckies
