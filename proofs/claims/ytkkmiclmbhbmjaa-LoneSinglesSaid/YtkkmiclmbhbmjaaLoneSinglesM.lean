/- What the functions that LoneSingles calls compute, as models, and that they compute it: written by a program of mine. -/
import Derived.Test.YtkkmiclmbhbmjaaProg
import Derived.Test.YtkkmiclmbhbmjaaSl5
set_option linter.all false
set_option maxRecDepth 100000
namespace Go.Proofs.Ytkkmiclmbhbmjaa.loneSingles
open Go Go.Sl
noncomputable def lone_wrong_1 (a0 : Int) (c0 : Int) : Option Bool :=
(ck (0 ≤ c0)).bind fun _ =>
some ((bShr .u32 a0 c0) != (0 : Int))
theorem lone_wrong_1_ok {a0 : Int} {c0 : Int} {r : Bool} (h : lone_wrong_1 a0 c0 = some r) : FnC Try.prog 76 [aD (.int .u32) a0, .one (.ptr 1000 0)] [(1000, .cells [.dat tI c0])] (aB r) [(1000, .cells [.dat tI c0])] := by
  refine fnC_of_W (B := bodyOf Try.f76) (n := 8) Try.func76 (by kernel_rfl) (by kernel_rfl) (by kernel_rfl) (by kernel_rfl) (by kernel_rfl) ?_
  intro K
  refine W_seq (by kernel_rfl) ?_
  refine W_run 1 [] [0, 1] [1000] (fr' := [(0, aD (.int .u32) a0), (1, .one (.ptr 1000 0))]) (L' := [(1000, .cells [.dat tI c0])]) (obs := []) (by kernel_rfl) (by kernel_rfl) (by kernel_rfl) allP0 ?_
  refine seqQ_norm ?_
  refine W_seq (by kernel_rfl) ?_
  obtain ⟨_, h1, h⟩ := bind_of h
  replace h1 := ck_some h1
  refine W_run 5 [] [3] [1000] (fr' := [(3, aB ((bShr .u32 a0 c0) != (0 : Int)))]) (L' := [(1000, .cells [.dat tI c0])]) (obs := [(0 ≤ c0)]) (by kernel_rfl) (by kernel_rfl) (by kernel_rfl) (allP1 h1) ?_
  refine seqQ_norm ?_
  obtain rfl := Option.some.inj h
  refine W_ret [3] [1000] (fr' := [(3, aB ((bShr .u32 a0 c0) != (0 : Int)))]) (L' := [(1000, .cells [.dat tI c0])]) (by kernel_rfl) (by kernel_rfl) ?_
  exact retQ_mk (by kernel_rfl) (by kernel_rfl) (by kernel_rfl)

noncomputable def slices_IndexFunc_Luint32uint32_with_lone_wrong_1_b1 (c0 : Int) (i15 : Int) (v18 : Int) (x16 : Unit) : Option (Flow Unit (Esc Int Unit)) :=
(lone_wrong_1 v18 c0).bind fun r21 =>
bif r21 then
(some (.done (.ret i15)))
else
(some (.next ()))
@[reducible] noncomputable def slices_IndexFunc_Luint32uint32_with_lone_wrong_1_s2 (a0 : (List Int)) (c0 : Int) (v : Int × Unit) : Fr × LL := ([(0, aD (.slice (.int .u32)) a0), (1, .one (.fn 76 [(1000, 0)])), (7, aI (List.length a0 : Int)), (8, aI v.1)], [(1000, .cells [.dat tI c0])])
@[reducible] noncomputable def slices_IndexFunc_Luint32uint32_with_lone_wrong_1_s3 (c0 : Int) (v : Int) : Fr × LL := ([(4, aI v)], [(1000, .cells [.dat tI c0])])
@[reducible] noncomputable def slices_IndexFunc_Luint32uint32_with_lone_wrong_1_s4 (c0 : Int) (v : Unit) : Fr × LL := ([], [(1000, .cells [.dat tI c0])])
noncomputable def slices_IndexFunc_Luint32uint32_with_lone_wrong_1 (a0 : (List Int)) (c0 : Int) : Option Int :=
(forL (slices_IndexFunc_Luint32uint32_with_lone_wrong_1_b1 c0) (fun x16 => (.brk ())) a0 0 ()).bind fun v25 =>
match v25 with
| .ret v30 =>
(some v30)
| .brk v31 =>
(some (-1 : Int))
theorem slices_IndexFunc_Luint32uint32_with_lone_wrong_1_ok {a0 : (List Int)} {c0 : Int} {r : Int} (h : slices_IndexFunc_Luint32uint32_with_lone_wrong_1 a0 c0 = some r) : FnC Try.prog 77 [aD (.slice (.int .u32)) a0, .one (.fn 76 [(1000, 0)])] [(1000, .cells [.dat tI c0])] (aI r) [(1000, .cells [.dat tI c0])] := by
  refine fnC_of_W (B := bodyOf Try.f77) (n := 19) Try.func77 (by kernel_rfl) (by kernel_rfl) (by kernel_rfl) (by kernel_rfl) (by kernel_rfl) ?_
  intro K
  refine W_seq (by kernel_rfl) ?_
  refine W_run 1 [] [0, 1] [1000] (fr' := [(0, aD (.slice (.int .u32)) a0), (1, .one (.fn 76 [(1000, 0)]))]) (L' := [(1000, .cells [.dat tI c0])]) (obs := []) (by kernel_rfl) (by kernel_rfl) (by kernel_rfl) allP0 ?_
  refine seqQ_norm ?_
  refine W_seq (by kernel_rfl) ?_
  refine W_seq (by kernel_rfl) ?_
  refine W_run 3 [] [0, 1, 7, 8] [1000] (fr' := [(0, aD (.slice (.int .u32)) a0), (1, .one (.fn 76 [(1000, 0)])), (7, aI (List.length a0 : Int)), (8, aI (0 : Int))]) (L' := [(1000, .cells [.dat tI c0])]) (obs := []) (by kernel_rfl) (by kernel_rfl) (by kernel_rfl) allP0 ?_
  refine seqQ_norm ?_
  refine W_block (id := 0) (by kernel_rfl) ?_
  obtain ⟨v25, h26, h⟩ := bind_of h
  refine W_len (t := 0) (u := (.int .u32)) (xs := a0) (by kernel_rfl) (fun h29 => ?_)
  obtain ⟨h27, h28⟩ := forL_iter h29 h26
  refine W_weaken [0, 1, 7, 8] [1000] (fr' := ((slices_IndexFunc_Luint32uint32_with_lone_wrong_1_s2 a0 c0) ((0 : Int), ())).1) (L' := ((slices_IndexFunc_Luint32uint32_with_lone_wrong_1_s2 a0 c0) ((0 : Int), ())).2) (by kernel_rfl) ?_
  refine W_cutK (W_loop (S := (slices_IndexFunc_Luint32uint32_with_lone_wrong_1_s2 a0 c0)) (J := (escQ (exQ .ret (slices_IndexFunc_Luint32uint32_with_lone_wrong_1_s3 c0)) (exQ (.exit 0) (slices_IndexFunc_Luint32uint32_with_lone_wrong_1_s4 c0)))) (by kernel_rfl) ?_ h27 _ v25 h28) ?_
  · rintro ⟨i15, x16⟩ s h
    refine W_seq (by kernel_rfl) ?_
    refine W_run 1 [] [0, 1, 7, 8, 9] [1000] (fr' := [(0, aD (.slice (.int .u32)) a0), (1, .one (.fn 76 [(1000, 0)])), (7, aI (List.length a0 : Int)), (8, aI i15), (9, aB (decide (i15 < (List.length a0 : Int))))]) (L' := [(1000, .cells [.dat tI c0])]) (obs := []) (by kernel_rfl) (by kernel_rfl) (by kernel_rfl) allP0 ?_
    refine seqQ_norm ?_
    refine W_seq (by kernel_rfl) ?_
    refine W_cond (o := .tmp 9) (b := decide (i15 < (List.length a0 : Int))) (by kernel_rfl) (by kernel_rfl) (fun h20 => ?_) (fun h20 => ?_)
    · replace h := stepL_true h20 h
      obtain ⟨v18, _, h19, h, rfl⟩ := h
      refine W_skip [0, 1, 7, 8] [1000] (fr' := [(0, aD (.slice (.int .u32)) a0), (1, .one (.fn 76 [(1000, 0)])), (7, aI (List.length a0 : Int)), (8, aI i15)]) (L' := [(1000, .cells [.dat tI c0])]) (by kernel_rfl) (by kernel_rfl) ?_
      refine seqQ_norm ?_
      refine W_seq (by kernel_rfl) ?_
      refine W_block (id := 1) (by kernel_rfl) ?_
      refine W_seq (by kernel_rfl) ?_
      refine W_run 2 [] [0, 1, 5, 7, 8] [1000] (fr' := [(0, aD (.slice (.int .u32)) a0), (1, .one (.fn 76 [(1000, 0)])), (5, aI i15), (7, aI (List.length a0 : Int)), (8, aI i15)]) (L' := [(1000, .cells [.dat tI c0])]) (obs := []) (by kernel_rfl) (by kernel_rfl) (by kernel_rfl) allP0 ?_
      refine seqQ_norm ?_
      refine W_seq (by kernel_rfl) ?_
      refine W_region (by kernel_rfl) ?_
      refine WO_run (j := 5) (k := 5) (orcs := [(7, .val (.dat (.int .u32) v18))]) (kF := [0, 1, 5, 7, 8, 11, 15]) (kL := [1000]) (fr' := [(0, aD (.slice (.int .u32)) a0), (1, .one (.fn 76 [(1000, 0)])), (5, aI i15), (7, aI (List.length a0 : Int)), (8, aI i15), (11, .one (.fn 76 [(1000, 0)])), (15, aD (.int .u32) v18)]) (L' := [(1000, .cells [.dat tI c0])]) (obs := [Idx a0 i15 v18]) rfl (by kernel_rfl) (allP1 (Idx.of h19)) ?_
      obtain ⟨r21, h22, h⟩ := bind_of h
      refine WO_lend [(1000, 1000)] (us := [none, none]) (d := 16) (p := True) (j := 6) rfl ⟨by kernel_rfl, by kernel_rfl, by kernel_rfl⟩ trivial (lone_wrong_1_ok h22) (by kernel_rfl) (by kernel_rfl) ?_
      refine WO_fin [0, 1, 5, 7, 8, 16] [1000] (fr' := [(0, aD (.slice (.int .u32)) a0), (1, .one (.fn 76 [(1000, 0)])), (5, aI i15), (7, aI (List.length a0 : Int)), (8, aI i15), (16, aB r21)]) (L' := [(1000, .cells [.dat tI c0])]) (by kernel_rfl) (by kernel_rfl) ?_
      refine seqQ_norm ?_
      refine W_cond (o := .tmp 16) (b := r21) (by kernel_rfl) (by kernel_rfl) (fun h23 => ?_) (fun h23 => ?_)
      · replace h := ofT h23 h
        refine W_seq (by kernel_rfl) ?_
        refine W_run 2 [] [4] [1000] (fr' := [(4, aI i15)]) (L' := [(1000, .cells [.dat tI c0])]) (obs := []) (by kernel_rfl) (by kernel_rfl) (by kernel_rfl) allP0 ?_
        refine seqQ_norm ?_
        obtain rfl := Option.some.inj h
        refine W_ret [4] [1000] (fr' := [(4, aI i15)]) (L' := [(1000, .cells [.dat tI c0])]) (by kernel_rfl) (by kernel_rfl) ?_
        refine blockQ_ret ?_
        refine seqQ_ret ?_
        refine round_ret ?_
        refine escQ_ret ?_
        exact exQ_mk (by kernel_rfl) (by kernel_rfl)
      · replace h := ofF h23 h
        refine W_skip [0, 1, 7, 8] [1000] (fr' := [(0, aD (.slice (.int .u32)) a0), (1, .one (.fn 76 [(1000, 0)])), (7, aI (List.length a0 : Int)), (8, aI i15)]) (L' := [(1000, .cells [.dat tI c0])]) (by kernel_rfl) (by kernel_rfl) ?_
        refine blockQ_norm ?_
        refine seqQ_norm ?_
        obtain rfl := Option.some.inj h
        refine W_run 2 [] [0, 1, 7, 8] [1000] (fr' := [(0, aD (.slice (.int .u32)) a0), (1, .one (.fn 76 [(1000, 0)])), (7, aI (List.length a0 : Int)), (8, aI (w64 (i15 + (1 : Int))))]) (L' := [(1000, .cells [.dat tI c0])]) (obs := []) (by kernel_rfl) (by kernel_rfl) (by kernel_rfl) allP0 ?_
        exact round_next' (by kernel_rfl) (by kernel_rfl)
    · obtain rfl := stepL_false h20 h
      refine W_exit (id := 0) [] [1000] (fr' := []) (L' := [(1000, .cells [.dat tI c0])]) (by kernel_rfl) (by kernel_rfl) ?_
      refine seqQ_exit ?_
      refine round_exit ?_
      refine escQ_brk ?_
      exact exQ_mk (by kernel_rfl) (by kernel_rfl)
  · intro e fr L hJ
    rcases v25 with v30 | v31
    · obtain ⟨rfl, rfl, rfl⟩ := hJ
      obtain rfl := Option.some.inj h
      refine LT_keep [4] [1000] (fr' := [(4, aI v30)]) (L' := [(1000, .cells [.dat tI c0])]) (by kernel_rfl) ?_
      refine blockQ_ret ?_
      refine seqQ_ret ?_
      exact retQ_mk (by kernel_rfl) (by kernel_rfl) (by kernel_rfl)
    · obtain ⟨rfl, rfl, rfl⟩ := hJ
      refine LT_keep [] [1000] (fr' := []) (L' := [(1000, .cells [.dat tI c0])]) (by kernel_rfl) ?_
      refine blockQ_hit ?_
      refine seqQ_norm ?_
      refine W_seq (by kernel_rfl) ?_
      refine W_run 1 [] [4] [1000] (fr' := [(4, aI (-1 : Int))]) (L' := [(1000, .cells [.dat tI c0])]) (obs := []) (by kernel_rfl) (by kernel_rfl) (by kernel_rfl) allP0 ?_
      refine seqQ_norm ?_
      obtain rfl := Option.some.inj h
      refine W_ret [4] [1000] (fr' := [(4, aI (-1 : Int))]) (L' := [(1000, .cells [.dat tI c0])]) (by kernel_rfl) (by kernel_rfl) ?_
      exact retQ_mk (by kernel_rfl) (by kernel_rfl) (by kernel_rfl)

noncomputable def slices_ContainsFunc_Luint32uint32_with_lone_wrong_1 (a0 : (List Int)) (c0 : Int) : Option Bool :=
(slices_IndexFunc_Luint32uint32_with_lone_wrong_1 a0 c0).bind fun r1 =>
some (decide (r1 ≥ (0 : Int)))
theorem slices_ContainsFunc_Luint32uint32_with_lone_wrong_1_ok {a0 : (List Int)} {c0 : Int} {r : Bool} (h : slices_ContainsFunc_Luint32uint32_with_lone_wrong_1 a0 c0 = some r) : FnC Try.prog 49 [aD (.slice (.int .u32)) a0, .one (.fn 76 [(1000, 0)])] [(1000, .cells [.dat tI c0])] (aB r) [(1000, .cells [.dat tI c0])] := by
  refine fnC_of_W (B := bodyOf Try.f49) (n := 9) Try.func49 (by kernel_rfl) (by kernel_rfl) (by kernel_rfl) (by kernel_rfl) (by kernel_rfl) ?_
  intro K
  refine W_seq (by kernel_rfl) ?_
  refine W_run 1 [] [0, 1] [1000] (fr' := [(0, aD (.slice (.int .u32)) a0), (1, .one (.fn 76 [(1000, 0)]))]) (L' := [(1000, .cells [.dat tI c0])]) (obs := []) (by kernel_rfl) (by kernel_rfl) (by kernel_rfl) allP0 ?_
  refine seqQ_norm ?_
  refine W_seq (by kernel_rfl) ?_
  refine W_region (by kernel_rfl) ?_
  refine WO_run (j := 2) (k := 2) (orcs := []) (kF := [5, 6]) (kL := [1000]) (fr' := [(5, aD (.slice (.int .u32)) a0), (6, .one (.fn 76 [(1000, 0)]))]) (L' := [(1000, .cells [.dat tI c0])]) (obs := []) rfl (by kernel_rfl) allP0 ?_
  obtain ⟨r1, h2, h⟩ := bind_of h
  refine WO_lend [(1000, 1000)] (us := [none, none]) (d := 7) (p := True) (j := 3) rfl ⟨by kernel_rfl, by kernel_rfl, by kernel_rfl⟩ trivial (slices_IndexFunc_Luint32uint32_with_lone_wrong_1_ok h2) (by kernel_rfl) (by kernel_rfl) ?_
  refine WO_run (j := 5) (k := 2) (orcs := []) (kF := [4]) (kL := [1000]) (fr' := [(4, aB (decide (r1 ≥ (0 : Int))))]) (L' := [(1000, .cells [.dat tI c0])]) (obs := []) rfl (by kernel_rfl) allP0 ?_
  refine WO_fin [4] [1000] (fr' := [(4, aB (decide (r1 ≥ (0 : Int))))]) (L' := [(1000, .cells [.dat tI c0])]) (by kernel_rfl) (by kernel_rfl) ?_
  refine seqQ_norm ?_
  obtain rfl := Option.some.inj h
  refine W_ret [4] [1000] (fr' := [(4, aB (decide (r1 ≥ (0 : Int))))]) (L' := [(1000, .cells [.dat tI c0])]) (by kernel_rfl) (by kernel_rfl) ?_
  exact retQ_mk (by kernel_rfl) (by kernel_rfl) (by kernel_rfl)

noncomputable def lone_wrong_b1 (i16 : Int) (v19 : Int) (x17 : (Option (List (Int × Bool)))) : Option (Flow (Option (List (Int × Bool))) (Esc Int Unit)) :=
bif Option.getD (mGet (deqT (.int .u32)) (Option.getD x17 []) v19) false then
(some (.done (.ret (3 : Int))))
else
((ck (Option.isSome x17 = true)).bind fun _ =>
some (.next (Option.map (fun l => mPut (deqT (.int .u32)) l v19 true) x17)))
@[reducible] noncomputable def lone_wrong_s2 (a1 : (List Int)) (v : Int × (Option (List (Int × Bool)))) : Fr × LL := ([(5, .one (.slc 27)), (28, aD (.slice (.int .u32)) a1), (29, aI (List.length a1 : Int)), (30, aI v.1)], [(27, .map (.int .u32) .bool v.2)])
@[reducible] noncomputable def lone_wrong_s3 (v : Int) : Fr × LL := ([(4, aI v)], [])
@[reducible] noncomputable def lone_wrong_s4 (v : Unit) : Fr × LL := ([], [])
noncomputable def lone_wrong (a0 : Int) (a1 : (List Int)) : Option Int :=
bif (((decide (a0 < (1 : Int))) || (decide (a0 > (5 : Int)))) || (decide ((List.length a1 : Int) < (1 : Int)))) || (decide ((List.length a1 : Int) > (200 : Int))) then
(some (1 : Int))
else
((slices_ContainsFunc_Luint32uint32_with_lone_wrong_1 a1 a0).bind fun r2 =>
bif r2 then
(some (4 : Int))
else
((forL lone_wrong_b1 (fun x17 => (.brk ())) a1 0 (some [] : Option (List (Int × Bool)))).bind fun v25 =>
match v25 with
| .ret v30 =>
(some v30)
| .brk v31 =>
(some (0 : Int))))
theorem lone_wrong_ok {a0 : Int} {a1 : (List Int)} {r : Int} (h : lone_wrong a0 a1 = some r) : FnC Try.prog 48 [aI a0, aD (.slice (.int .u32)) a1] [] (aI r) [] := by
  refine fnC_of_W (B := bodyOf Try.f48) (n := 40) Try.func48 (by kernel_rfl) (by kernel_rfl) (by kernel_rfl) (by kernel_rfl) (by kernel_rfl) ?_
  intro K
  refine W_seq (by kernel_rfl) ?_
  refine W_run 2 [] [1, 2] [2] (fr' := [(1, aD (.slice (.int .u32)) a1), (2, .one (.ptr 2 0))]) (L' := [(2, .cells [.dat tI a0])]) (obs := []) (by kernel_rfl) (by kernel_rfl) (by kernel_rfl) allP0 ?_
  refine seqQ_norm ?_
  refine W_seq (by kernel_rfl) ?_
  refine W_seq (by kernel_rfl) ?_
  refine W_run 16 [] [1, 2, 23] [2] (fr' := [(1, aD (.slice (.int .u32)) a1), (2, .one (.ptr 2 0)), (23, aB ((((decide (a0 < (1 : Int))) || (decide (a0 > (5 : Int)))) || (decide ((List.length a1 : Int) < (1 : Int)))) || (decide ((List.length a1 : Int) > (200 : Int)))))]) (L' := [(2, .cells [.dat tI a0])]) (obs := []) (by kernel_rfl) (by kernel_rfl) (by kernel_rfl) allP0 ?_
  refine seqQ_norm ?_
  refine W_cond (o := .tmp 23) (b := (((decide (a0 < (1 : Int))) || (decide (a0 > (5 : Int)))) || (decide ((List.length a1 : Int) < (1 : Int)))) || (decide ((List.length a1 : Int) > (200 : Int)))) (by kernel_rfl) (by kernel_rfl) (fun h1 => ?_) (fun h1 => ?_)
  · replace h := ofT h1 h
    refine W_seq (by kernel_rfl) ?_
    refine W_run 1 [] [4] [] (fr' := [(4, aI (1 : Int))]) (L' := []) (obs := []) (by kernel_rfl) (by kernel_rfl) (by kernel_rfl) allP0 ?_
    refine seqQ_norm ?_
    obtain rfl := Option.some.inj h
    refine W_ret [4] [] (fr' := [(4, aI (1 : Int))]) (L' := []) (by kernel_rfl) (by kernel_rfl) ?_
    refine seqQ_ret ?_
    exact retQ_mk (by kernel_rfl) (by kernel_rfl) (by kernel_rfl)
  · replace h := ofF h1 h
    refine W_skip [1, 2] [2] (fr' := [(1, aD (.slice (.int .u32)) a1), (2, .one (.ptr 2 0))]) (L' := [(2, .cells [.dat tI a0])]) (by kernel_rfl) (by kernel_rfl) ?_
    refine seqQ_norm ?_
    refine W_seq (by kernel_rfl) ?_
    refine W_seq (by kernel_rfl) ?_
    refine W_region (by kernel_rfl) ?_
    refine WO_run (j := 2) (k := 2) (orcs := []) (kF := [1, 24, 25]) (kL := [2]) (fr' := [(1, aD (.slice (.int .u32)) a1), (24, aD (.slice (.int .u32)) a1), (25, .one (.fn 76 [(2, 0)]))]) (L' := [(2, .cells [.dat tI a0])]) (obs := []) rfl (by kernel_rfl) allP0 ?_
    obtain ⟨r2, h3, h⟩ := bind_of h
    refine WO_lend [(1000, 2)] (us := [none, none]) (d := 26) (p := True) (j := 3) rfl ⟨by kernel_rfl, by kernel_rfl, by kernel_rfl⟩ trivial (slices_ContainsFunc_Luint32uint32_with_lone_wrong_1_ok h3) (by kernel_rfl) (by kernel_rfl) ?_
    refine WO_fin [1, 26] [] (fr' := [(1, aD (.slice (.int .u32)) a1), (26, aB r2)]) (L' := []) (by kernel_rfl) (by kernel_rfl) ?_
    refine seqQ_norm ?_
    refine W_cond (o := .tmp 26) (b := r2) (by kernel_rfl) (by kernel_rfl) (fun h4 => ?_) (fun h4 => ?_)
    · replace h := ofT h4 h
      refine W_seq (by kernel_rfl) ?_
      refine W_run 1 [] [4] [] (fr' := [(4, aI (4 : Int))]) (L' := []) (obs := []) (by kernel_rfl) (by kernel_rfl) (by kernel_rfl) allP0 ?_
      refine seqQ_norm ?_
      obtain rfl := Option.some.inj h
      refine W_ret [4] [] (fr' := [(4, aI (4 : Int))]) (L' := []) (by kernel_rfl) (by kernel_rfl) ?_
      refine seqQ_ret ?_
      exact retQ_mk (by kernel_rfl) (by kernel_rfl) (by kernel_rfl)
    · replace h := ofF h4 h
      refine W_skip [1] [] (fr' := [(1, aD (.slice (.int .u32)) a1)]) (L' := []) (by kernel_rfl) (by kernel_rfl) ?_
      refine seqQ_norm ?_
      refine W_seq (by kernel_rfl) ?_
      refine W_run 2 [] [1, 5] [27] (fr' := [(1, aD (.slice (.int .u32)) a1), (5, .one (.slc 27))]) (L' := [(27, .map (.int .u32) .bool (some [] : Option (List (Int × Bool))))]) (obs := []) (by kernel_rfl) (by kernel_rfl) (by kernel_rfl) allP0 ?_
      refine seqQ_norm ?_
      refine W_seq (by kernel_rfl) ?_
      refine W_seq (by kernel_rfl) ?_
      refine W_run 3 [] [5, 28, 29, 30] [27] (fr' := [(5, .one (.slc 27)), (28, aD (.slice (.int .u32)) a1), (29, aI (List.length a1 : Int)), (30, aI (0 : Int))]) (L' := [(27, .map (.int .u32) .bool (some [] : Option (List (Int × Bool))))]) (obs := []) (by kernel_rfl) (by kernel_rfl) (by kernel_rfl) allP0 ?_
      refine seqQ_norm ?_
      refine W_block (id := 0) (by kernel_rfl) ?_
      obtain ⟨v25, h26, h⟩ := bind_of h
      refine W_len (t := 28) (u := (.int .u32)) (xs := a1) (by kernel_rfl) (fun h29 => ?_)
      obtain ⟨h27, h28⟩ := forL_iter h29 h26
      refine W_weaken [5, 28, 29, 30] [27] (fr' := ((lone_wrong_s2 a1) ((0 : Int), (some [] : Option (List (Int × Bool))))).1) (L' := ((lone_wrong_s2 a1) ((0 : Int), (some [] : Option (List (Int × Bool))))).2) (by kernel_rfl) ?_
      refine W_cutK (W_loop (S := (lone_wrong_s2 a1)) (J := (escQ (exQ .ret lone_wrong_s3) (exQ (.exit 0) lone_wrong_s4))) (by kernel_rfl) ?_ h27 _ v25 h28) ?_
      · rintro ⟨i16, x17⟩ s h
        refine W_seq (by kernel_rfl) ?_
        refine W_run 1 [] [5, 28, 29, 30, 31] [27] (fr' := [(5, .one (.slc 27)), (28, aD (.slice (.int .u32)) a1), (29, aI (List.length a1 : Int)), (30, aI i16), (31, aB (decide (i16 < (List.length a1 : Int))))]) (L' := [(27, .map (.int .u32) .bool x17)]) (obs := []) (by kernel_rfl) (by kernel_rfl) (by kernel_rfl) allP0 ?_
        refine seqQ_norm ?_
        refine W_seq (by kernel_rfl) ?_
        refine W_cond (o := .tmp 31) (b := decide (i16 < (List.length a1 : Int))) (by kernel_rfl) (by kernel_rfl) (fun h21 => ?_) (fun h21 => ?_)
        · replace h := stepL_true h21 h
          obtain ⟨v19, _, h20, h, rfl⟩ := h
          refine W_skip [5, 28, 29, 30] [27] (fr' := [(5, .one (.slc 27)), (28, aD (.slice (.int .u32)) a1), (29, aI (List.length a1 : Int)), (30, aI i16)]) (L' := [(27, .map (.int .u32) .bool x17)]) (by kernel_rfl) (by kernel_rfl) ?_
          refine seqQ_norm ?_
          refine W_seq (by kernel_rfl) ?_
          refine W_block (id := 1) (by kernel_rfl) ?_
          refine W_seq (by kernel_rfl) ?_
          refine W_run 3 [(1, .val (.dat (.int .u32) v19))] [5, 7, 28, 29, 30] [27] (fr' := [(5, .one (.slc 27)), (7, aD (.int .u32) v19), (28, aD (.slice (.int .u32)) a1), (29, aI (List.length a1 : Int)), (30, aI i16)]) (L' := [(27, .map (.int .u32) .bool x17)]) (obs := [Idx a1 i16 v19]) (by kernel_rfl) (by kernel_rfl) (by kernel_rfl) (allP1 (Idx.of h20)) ?_
          refine seqQ_norm ?_
          refine W_seq (by kernel_rfl) ?_
          refine W_seq (by kernel_rfl) ?_
          refine W_run 3 [] [5, 7, 28, 29, 30, 36] [27] (fr' := [(5, .one (.slc 27)), (7, aD (.int .u32) v19), (28, aD (.slice (.int .u32)) a1), (29, aI (List.length a1 : Int)), (30, aI i16), (36, aB (Option.getD (mGet (deqT (.int .u32)) (Option.getD x17 []) v19) false))]) (L' := [(27, .map (.int .u32) .bool x17)]) (obs := []) (by kernel_rfl) (by kernel_rfl) (by kernel_rfl) allP0 ?_
          refine seqQ_norm ?_
          refine W_cond (o := .tmp 36) (b := Option.getD (mGet (deqT (.int .u32)) (Option.getD x17 []) v19) false) (by kernel_rfl) (by kernel_rfl) (fun h22 => ?_) (fun h22 => ?_)
          · replace h := ofT h22 h
            refine W_seq (by kernel_rfl) ?_
            refine W_run 1 [] [4] [] (fr' := [(4, aI (3 : Int))]) (L' := []) (obs := []) (by kernel_rfl) (by kernel_rfl) (by kernel_rfl) allP0 ?_
            refine seqQ_norm ?_
            obtain rfl := Option.some.inj h
            refine W_ret [4] [] (fr' := [(4, aI (3 : Int))]) (L' := []) (by kernel_rfl) (by kernel_rfl) ?_
            refine seqQ_ret ?_
            refine blockQ_ret ?_
            refine seqQ_ret ?_
            refine round_ret ?_
            refine escQ_ret ?_
            exact exQ_mk (by kernel_rfl) (by kernel_rfl)
          · replace h := ofF h22 h
            refine W_skip [5, 7, 28, 29, 30] [27] (fr' := [(5, .one (.slc 27)), (7, aD (.int .u32) v19), (28, aD (.slice (.int .u32)) a1), (29, aI (List.length a1 : Int)), (30, aI i16)]) (L' := [(27, .map (.int .u32) .bool x17)]) (by kernel_rfl) (by kernel_rfl) ?_
            refine seqQ_norm ?_
            obtain ⟨_, h23, h⟩ := bind_of h
            replace h23 := ck_some h23
            refine W_run 3 [] [5, 28, 29, 30] [27] (fr' := [(5, .one (.slc 27)), (28, aD (.slice (.int .u32)) a1), (29, aI (List.length a1 : Int)), (30, aI i16)]) (L' := [(27, .map (.int .u32) .bool (Option.map (fun l => mPut (deqT (.int .u32)) l v19 true) x17))]) (obs := [Option.isSome x17 = true]) (by kernel_rfl) (by kernel_rfl) (by kernel_rfl) (allP1 h23) ?_
            refine blockQ_norm ?_
            refine seqQ_norm ?_
            obtain rfl := Option.some.inj h
            refine W_run 2 [] [5, 28, 29, 30] [27] (fr' := [(5, .one (.slc 27)), (28, aD (.slice (.int .u32)) a1), (29, aI (List.length a1 : Int)), (30, aI (w64 (i16 + (1 : Int))))]) (L' := [(27, .map (.int .u32) .bool (Option.map (fun l => mPut (deqT (.int .u32)) l v19 true) x17))]) (obs := []) (by kernel_rfl) (by kernel_rfl) (by kernel_rfl) allP0 ?_
            exact round_next' (by kernel_rfl) (by kernel_rfl)
        · obtain rfl := stepL_false h21 h
          refine W_exit (id := 0) [] [] (fr' := []) (L' := []) (by kernel_rfl) (by kernel_rfl) ?_
          refine seqQ_exit ?_
          refine round_exit ?_
          refine escQ_brk ?_
          exact exQ_mk (by kernel_rfl) (by kernel_rfl)
      · intro e fr L hJ
        rcases v25 with v30 | v31
        · obtain ⟨rfl, rfl, rfl⟩ := hJ
          obtain rfl := Option.some.inj h
          refine LT_keep [4] [] (fr' := [(4, aI v30)]) (L' := []) (by kernel_rfl) ?_
          refine blockQ_ret ?_
          refine seqQ_ret ?_
          exact retQ_mk (by kernel_rfl) (by kernel_rfl) (by kernel_rfl)
        · obtain ⟨rfl, rfl, rfl⟩ := hJ
          refine LT_keep [] [] (fr' := []) (L' := []) (by kernel_rfl) ?_
          refine blockQ_hit ?_
          refine seqQ_norm ?_
          refine W_seq (by kernel_rfl) ?_
          refine W_run 1 [] [4] [] (fr' := [(4, aI (0 : Int))]) (L' := []) (obs := []) (by kernel_rfl) (by kernel_rfl) (by kernel_rfl) allP0 ?_
          refine seqQ_norm ?_
          obtain rfl := Option.some.inj h
          refine W_ret [4] [] (fr' := [(4, aI (0 : Int))]) (L' := []) (by kernel_rfl) (by kernel_rfl) ?_
          exact retQ_mk (by kernel_rfl) (by kernel_rfl) (by kernel_rfl)

noncomputable def lone_choices (a0 : Int) (a1 : Int) : Option (Int × Int) :=
some (a0, a1)
theorem lone_choices_ok {a0 : Int} {a1 : Int} {r : (Int × Int)} (h : lone_choices a0 a1 = some r) : FnC Try.prog 57 [aI a0, aI a1] [] (.one (.fn 83 [(2, 0), (3, 0)])) [(2, .cells [.dat tI r.1]), (3, .cells [.dat tI r.2])] := by
  refine fnC_of_W (B := bodyOf Try.f57) (n := 6) Try.func57 (by kernel_rfl) (by kernel_rfl) (by kernel_rfl) (by kernel_rfl) (by kernel_rfl) ?_
  intro K
  refine W_seq (by kernel_rfl) ?_
  refine W_run 3 [] [2, 3] [2, 3] (fr' := [(2, .one (.ptr 2 0)), (3, .one (.ptr 3 0))]) (L' := [(2, .cells [.dat tI a0]), (3, .cells [.dat tI a1])]) (obs := []) (by kernel_rfl) (by kernel_rfl) (by kernel_rfl) allP0 ?_
  refine seqQ_norm ?_
  refine W_seq (by kernel_rfl) ?_
  refine W_run 2 [] [4] [2, 3] (fr' := [(4, .one (.fn 83 [(2, 0), (3, 0)]))]) (L' := [(2, .cells [.dat tI a0]), (3, .cells [.dat tI a1])]) (obs := []) (by kernel_rfl) (by kernel_rfl) (by kernel_rfl) allP0 ?_
  refine seqQ_norm ?_
  obtain rfl := Option.some.inj h
  refine W_ret [4] [2, 3] (fr' := [(4, .one (.fn 83 [(2, 0), (3, 0)]))]) (L' := [(2, .cells [.dat tI a0]), (3, .cells [.dat tI a1])]) (by kernel_rfl) (by kernel_rfl) ?_
  exact retQ_mk (by kernel_rfl) (by kernel_rfl) (by kernel_rfl)

noncomputable def slices_Clone_Lintint_i2 (a0 : (List Int)) : Option (List Int) :=
(ck ((0 : Int) + (List.length a0 : Int) ≤ 4294967296)).bind fun _ =>
some ([] ++ a0)
theorem slices_Clone_Lintint_i2_ok {a0 : (List Int)} {r : (List Int)} (h : slices_Clone_Lintint_i2 a0 = some r) : FnC Try.prog 58 [aD (.slice tI) a0] [] (.one (.slc 5)) [(5, .seq tI r)] := by
  refine fnC_of_W (B := bodyOf Try.f58) (n := 8) Try.func58 (by kernel_rfl) (by kernel_rfl) (by kernel_rfl) (by kernel_rfl) (by kernel_rfl) ?_
  intro K
  refine W_seq (by kernel_rfl) ?_
  refine W_run 1 [] [0] [] (fr' := [(0, aD (.slice tI) a0)]) (L' := []) (obs := []) (by kernel_rfl) (by kernel_rfl) (by kernel_rfl) allP0 ?_
  refine seqQ_norm ?_
  refine W_seq (by kernel_rfl) ?_
  refine W_seq (by kernel_rfl) ?_
  refine W_region (by kernel_rfl) ?_
  refine WO_run (j := 1) (k := 1) (orcs := []) (kF := [0, 3]) (kL := []) (fr' := [(0, aD (.slice tI) a0), (3, aD (.slice tI) a0)]) (L' := []) (obs := []) rfl (by kernel_rfl) allP0 ?_
  refine WO_nilcmp (u := tI) (xs := a0) (d := 4) (j := 2) rfl (by kernel_rfl) (by kernel_rfl) (fun h12 h10 => ?_)
  cases h12
  · refine WO_fin [0, 4] [] (fr' := [(0, aD (.slice tI) a0), (4, aB false)]) (L' := []) (by kernel_rfl) (by kernel_rfl) ?_
    refine seqQ_norm ?_
    refine W_cond (o := .tmp 4) (b := false) (by kernel_rfl) (by kernel_rfl) (fun h7 => by have := (rfl : false = false).symm.trans h7; cases this) (fun h7 => ?_)
    refine W_skip [0] [] (fr' := [(0, aD (.slice tI) a0)]) (L' := []) (by kernel_rfl) (by kernel_rfl) ?_
    refine seqQ_norm ?_
    refine W_seq (by kernel_rfl) ?_
    obtain ⟨_, h8, h⟩ := bind_of h
    replace h8 := ck_some h8
    refine W_run 4 [] [2] [5] (fr' := [(2, .one (.slc 5))]) (L' := [(5, .seq tI ([] ++ a0))]) (obs := [SmallLen (List.length ([] : (List Int)) + List.length a0)]) (by kernel_rfl) (by kernel_rfl) (by kernel_rfl) (allP1 h8) ?_
    refine seqQ_norm ?_
    obtain rfl := Option.some.inj h
    refine W_ret [2] [5] (fr' := [(2, .one (.slc 5))]) (L' := [(5, .seq tI ([] ++ a0))]) (by kernel_rfl) (by kernel_rfl) ?_
    exact retQ_mk (by kernel_rfl) (by kernel_rfl) (by kernel_rfl)
  · replace h10 := h10 rfl
    have h11 : (some [] : Option (List Int)) = ((ck ((0 : Int) + (List.length a0 : Int) ≤ 4294967296)).bind fun _ => some ([] ++ a0)) := by rw [h10]; simp [ck]
    replace h := h11.trans h
    refine WO_fin [0, 4] [] (fr' := [(0, aD (.slice tI) a0), (4, aB true)]) (L' := []) (by kernel_rfl) (by kernel_rfl) ?_
    refine seqQ_norm ?_
    refine W_cond (o := .tmp 4) (b := true) (by kernel_rfl) (by kernel_rfl) (fun h9 => ?_) (fun h9 => by have := (rfl : true = true).symm.trans h9; cases this)
    refine W_seq (by kernel_rfl) ?_
    refine W_run 1 [] [2] [] (fr' := [(2, .one (.nilS))]) (L' := []) (obs := []) (by kernel_rfl) (by kernel_rfl) (by kernel_rfl) allP0 ?_
    refine seqQ_norm ?_
    obtain rfl := Option.some.inj h
    refine W_mine 2 5 tI (by kernel_rfl) ?_
    refine W_ret [2] [5] (fr' := [(2, .one (.slc 5))]) (L' := [(5, .seq tI [])]) (by kernel_rfl) (by kernel_rfl) ?_
    refine seqQ_ret ?_
    exact retQ_mk (by kernel_rfl) (by kernel_rfl) (by kernel_rfl)

noncomputable def lone_least_b24 (v141 : Int) (i203 : Int) (v206 : Int) (x204 : Int) : Option (Flow Int Int) :=
(ck (0 ≤ i203)).bind fun _ =>
some (.next (w64 (x204 + (w64 ((w64 (bAnd .u32 (bShr .u32 v141 i203) (1 : Int))) * v206)))))
@[reducible] noncomputable def lone_least_s25 (a0 : (List Int)) (a1 : (List Int)) (i138 : Int) (x139 : (Int × (List Int))) (v141 : Int) (v : Int × Int) : Fr × LL := ([(1, aD (.slice tI) a1), (6, aI x139.1), (7, .one (.slc 46)), (9, aD (.int .u32) v141), (10, aI v.2), (13, aD (.slice (.int .u32)) a0), (14, aI (List.length a0 : Int)), (15, aI i138), (19, aD (.slice tI) a1), (20, aI (List.length a1 : Int)), (21, aI v.1)], [(46, .seq (.int .u32) x139.2)])
@[reducible] noncomputable def lone_least_s26 (a0 : (List Int)) (a1 : (List Int)) (i138 : Int) (x139 : (Int × (List Int))) (v141 : Int) (v : Int) : Fr × LL := ([(1, aD (.slice tI) a1), (6, aI x139.1), (7, .one (.slc 46)), (9, aD (.int .u32) v141), (10, aI v), (13, aD (.slice (.int .u32)) a0), (14, aI (List.length a0 : Int)), (15, aI i138)], [(46, .seq (.int .u32) x139.2)])
noncomputable def lone_least_g27 (a1 : (List Int)) (x139 : (Int × (List Int))) (v141 : Int) : Option (Int × (List Int)) :=
(forL (lone_least_b24 v141) (fun x204 => x204) a1 0 (0 : Int)).bind fun v211 =>
bif (decide (x139.1 < (0 : Int))) || (decide (v211 < x139.1)) then
(some (v211, [v141]))
else
(bif v211 == x139.1 then
((ck ((List.length x139.2 : Int) + 1 ≤ 4294967296)).bind fun _ =>
some (x139.1, x139.2 ++ [v141]))
else
(some (x139.1, x139.2)))
@[reducible] noncomputable def lone_least_s28 (a0 : (List Int)) (a1 : (List Int)) (i138 : Int) (v : (Int × (List Int))) : Fr × LL := ([(1, aD (.slice tI) a1), (6, aI v.1), (7, .one (.slc 46)), (13, aD (.slice (.int .u32)) a0), (14, aI (List.length a0 : Int)), (15, aI i138)], [(46, .seq (.int .u32) v.2)])
noncomputable def lone_least_b29 (a1 : (List Int)) (i138 : Int) (v141 : Int) (x139 : (Int × (List Int))) : Option (Flow (Int × (List Int)) (Int × (List Int))) :=
(lone_least_g27 a1 x139 v141).bind fun v219 =>
some (.next (v219.1, v219.2))
@[reducible] noncomputable def lone_least_s30 (a0 : (List Int)) (a1 : (List Int)) (v : Int × (Int × (List Int))) : Fr × LL := ([(1, aD (.slice tI) a1), (6, aI v.2.1), (7, .one (.slc 46)), (13, aD (.slice (.int .u32)) a0), (14, aI (List.length a0 : Int)), (15, aI v.1)], [(46, .seq (.int .u32) v.2.2)])
@[reducible] noncomputable def lone_least_s31 (v : (Int × (List Int))) : Fr × LL := ([(6, aI v.1), (7, .one (.slc 46))], [(46, .seq (.int .u32) v.2)])
noncomputable def lone_least (a0 : (List Int)) (a1 : (List Int)) : Option (Int × (List Int)) :=
(forL (lone_least_b29 a1) (fun x139 => (x139.1, x139.2)) a0 0 ((-1 : Int), [])).bind fun v222 =>
some (v222.1, v222.2)
theorem lone_least_ok {a0 : (List Int)} {a1 : (List Int)} {r : (Int × (List Int))} (h : lone_least a0 a1 = some r) : FnC Try.prog 55 [aD (.slice (.int .u32)) a0, aD (.slice tI) a1] [] (.tup [.dat tI r.1, .dat (.slice (.int .u32)) r.2]) [] := by
  refine fnC_of_W (B := bodyOf Try.f55) (n := 58) Try.func55 (by kernel_rfl) (by kernel_rfl) (by kernel_rfl) (by kernel_rfl) (by kernel_rfl) ?_
  intro K
  refine W_seq (by kernel_rfl) ?_
  refine W_run 2 [] [0, 1] [] (fr' := [(0, aD (.slice (.int .u32)) a0), (1, aD (.slice tI) a1)]) (L' := []) (obs := []) (by kernel_rfl) (by kernel_rfl) (by kernel_rfl) allP0 ?_
  refine seqQ_norm ?_
  refine W_seq (by kernel_rfl) ?_
  refine W_run 1 [] [0, 1, 6] [] (fr' := [(0, aD (.slice (.int .u32)) a0), (1, aD (.slice tI) a1), (6, aI (-1 : Int))]) (L' := []) (obs := []) (by kernel_rfl) (by kernel_rfl) (by kernel_rfl) allP0 ?_
  refine seqQ_norm ?_
  refine W_seq (by kernel_rfl) ?_
  refine W_run 1 [] [0, 1, 6, 7] [] (fr' := [(0, aD (.slice (.int .u32)) a0), (1, aD (.slice tI) a1), (6, aI (-1 : Int)), (7, .one (.nilS))]) (L' := []) (obs := []) (by kernel_rfl) (by kernel_rfl) (by kernel_rfl) allP0 ?_
  refine seqQ_norm ?_
  refine W_seq (by kernel_rfl) ?_
  refine W_seq (by kernel_rfl) ?_
  refine W_run 3 [] [1, 6, 7, 13, 14, 15] [] (fr' := [(1, aD (.slice tI) a1), (6, aI (-1 : Int)), (7, .one (.nilS)), (13, aD (.slice (.int .u32)) a0), (14, aI (List.length a0 : Int)), (15, aI (0 : Int))]) (L' := []) (obs := []) (by kernel_rfl) (by kernel_rfl) (by kernel_rfl) allP0 ?_
  refine seqQ_norm ?_
  refine W_block (id := 0) (by kernel_rfl) ?_
  obtain ⟨v222, h223, h⟩ := bind_of h
  refine W_len (t := 13) (u := (.int .u32)) (xs := a0) (by kernel_rfl) (fun h226 => ?_)
  obtain ⟨h224, h225⟩ := forL_iter h226 h223
  refine W_mine 7 46 (.int .u32) (by kernel_rfl) ?_
  refine W_weaken [1, 6, 7, 13, 14, 15] [46] (fr' := ((lone_least_s30 a0 a1) ((0 : Int), ((-1 : Int), []))).1) (L' := ((lone_least_s30 a0 a1) ((0 : Int), ((-1 : Int), []))).2) (by kernel_rfl) ?_
  refine W_cutK (W_loop (S := (lone_least_s30 a0 a1)) (J := (exQ (.exit 0) lone_least_s31)) (by kernel_rfl) ?_ h224 _ v222 h225) ?_
  · rintro ⟨i138, x139⟩ s h
    refine W_seq (by kernel_rfl) ?_
    refine W_run 1 [] [1, 6, 7, 13, 14, 15, 16] [46] (fr' := [(1, aD (.slice tI) a1), (6, aI x139.1), (7, .one (.slc 46)), (13, aD (.slice (.int .u32)) a0), (14, aI (List.length a0 : Int)), (15, aI i138), (16, aB (decide (i138 < (List.length a0 : Int))))]) (L' := [(46, .seq (.int .u32) x139.2)]) (obs := []) (by kernel_rfl) (by kernel_rfl) (by kernel_rfl) allP0 ?_
    refine seqQ_norm ?_
    refine W_seq (by kernel_rfl) ?_
    refine W_cond (o := .tmp 16) (b := decide (i138 < (List.length a0 : Int))) (by kernel_rfl) (by kernel_rfl) (fun h143 => ?_) (fun h143 => ?_)
    · replace h := stepL_true h143 h
      obtain ⟨v141, _, h142, h, rfl⟩ := h
      refine W_skip [1, 6, 7, 13, 14, 15] [46] (fr' := [(1, aD (.slice tI) a1), (6, aI x139.1), (7, .one (.slc 46)), (13, aD (.slice (.int .u32)) a0), (14, aI (List.length a0 : Int)), (15, aI i138)]) (L' := [(46, .seq (.int .u32) x139.2)]) (by kernel_rfl) (by kernel_rfl) ?_
      refine seqQ_norm ?_
      refine W_seq (by kernel_rfl) ?_
      obtain ⟨v219, h220, h⟩ := bind_of h
      refine W_cutK (Q' := (exQ .normal (lone_least_s28 a0 a1 i138)) v219) ?_ ?_
      · replace h := h220
        refine W_block (id := 1) (by kernel_rfl) ?_
        refine W_seq (by kernel_rfl) ?_
        refine W_run 3 [(1, .val (.dat (.int .u32) v141))] [1, 6, 7, 9, 13, 14, 15] [46] (fr' := [(1, aD (.slice tI) a1), (6, aI x139.1), (7, .one (.slc 46)), (9, aD (.int .u32) v141), (13, aD (.slice (.int .u32)) a0), (14, aI (List.length a0 : Int)), (15, aI i138)]) (L' := [(46, .seq (.int .u32) x139.2)]) (obs := [Idx a0 i138 v141]) (by kernel_rfl) (by kernel_rfl) (by kernel_rfl) (allP1 (Idx.of h142)) ?_
        refine seqQ_norm ?_
        refine W_seq (by kernel_rfl) ?_
        refine W_run 1 [] [1, 6, 7, 9, 10, 13, 14, 15] [46] (fr' := [(1, aD (.slice tI) a1), (6, aI x139.1), (7, .one (.slc 46)), (9, aD (.int .u32) v141), (10, aI (0 : Int)), (13, aD (.slice (.int .u32)) a0), (14, aI (List.length a0 : Int)), (15, aI i138)]) (L' := [(46, .seq (.int .u32) x139.2)]) (obs := []) (by kernel_rfl) (by kernel_rfl) (by kernel_rfl) allP0 ?_
        refine seqQ_norm ?_
        refine W_seq (by kernel_rfl) ?_
        refine W_seq (by kernel_rfl) ?_
        refine W_run 3 [] [1, 6, 7, 9, 10, 13, 14, 15, 19, 20, 21] [46] (fr' := [(1, aD (.slice tI) a1), (6, aI x139.1), (7, .one (.slc 46)), (9, aD (.int .u32) v141), (10, aI (0 : Int)), (13, aD (.slice (.int .u32)) a0), (14, aI (List.length a0 : Int)), (15, aI i138), (19, aD (.slice tI) a1), (20, aI (List.length a1 : Int)), (21, aI (0 : Int))]) (L' := [(46, .seq (.int .u32) x139.2)]) (obs := []) (by kernel_rfl) (by kernel_rfl) (by kernel_rfl) allP0 ?_
        refine seqQ_norm ?_
        refine W_block (id := 2) (by kernel_rfl) ?_
        obtain ⟨v211, h212, h⟩ := bind_of h
        refine W_len (t := 19) (u := tI) (xs := a1) (by kernel_rfl) (fun h215 => ?_)
        obtain ⟨h213, h214⟩ := forL_iter h215 h212
        refine W_weaken [1, 6, 7, 9, 10, 13, 14, 15, 19, 20, 21] [46] (fr' := ((lone_least_s25 a0 a1 i138 x139 v141) ((0 : Int), (0 : Int))).1) (L' := ((lone_least_s25 a0 a1 i138 x139 v141) ((0 : Int), (0 : Int))).2) (by kernel_rfl) ?_
        refine W_cutK (W_loop (S := (lone_least_s25 a0 a1 i138 x139 v141)) (J := (exQ (.exit 2) (lone_least_s26 a0 a1 i138 x139 v141))) (by kernel_rfl) ?_ h213 _ v211 h214) ?_
        · rintro ⟨i203, x204⟩ s h
          refine W_seq (by kernel_rfl) ?_
          refine W_run 1 [] [1, 6, 7, 9, 10, 13, 14, 15, 19, 20, 21, 22] [46] (fr' := [(1, aD (.slice tI) a1), (6, aI x139.1), (7, .one (.slc 46)), (9, aD (.int .u32) v141), (10, aI x204), (13, aD (.slice (.int .u32)) a0), (14, aI (List.length a0 : Int)), (15, aI i138), (19, aD (.slice tI) a1), (20, aI (List.length a1 : Int)), (21, aI i203), (22, aB (decide (i203 < (List.length a1 : Int))))]) (L' := [(46, .seq (.int .u32) x139.2)]) (obs := []) (by kernel_rfl) (by kernel_rfl) (by kernel_rfl) allP0 ?_
          refine seqQ_norm ?_
          refine W_seq (by kernel_rfl) ?_
          refine W_cond (o := .tmp 22) (b := decide (i203 < (List.length a1 : Int))) (by kernel_rfl) (by kernel_rfl) (fun h208 => ?_) (fun h208 => ?_)
          · replace h := stepL_true h208 h
            obtain ⟨v206, _, h207, h, rfl⟩ := h
            refine W_skip [1, 6, 7, 9, 10, 13, 14, 15, 19, 20, 21] [46] (fr' := [(1, aD (.slice tI) a1), (6, aI x139.1), (7, .one (.slc 46)), (9, aD (.int .u32) v141), (10, aI x204), (13, aD (.slice (.int .u32)) a0), (14, aI (List.length a0 : Int)), (15, aI i138), (19, aD (.slice tI) a1), (20, aI (List.length a1 : Int)), (21, aI i203)]) (L' := [(46, .seq (.int .u32) x139.2)]) (by kernel_rfl) (by kernel_rfl) ?_
            refine seqQ_norm ?_
            refine W_seq (by kernel_rfl) ?_
            refine W_block (id := 3) (by kernel_rfl) ?_
            refine W_seq (by kernel_rfl) ?_
            refine W_run 5 [(3, .val (.dat tI v206))] [1, 6, 7, 9, 10, 11, 12, 13, 14, 15, 19, 20, 21] [46] (fr' := [(1, aD (.slice tI) a1), (6, aI x139.1), (7, .one (.slc 46)), (9, aD (.int .u32) v141), (10, aI x204), (11, aI i203), (12, aI v206), (13, aD (.slice (.int .u32)) a0), (14, aI (List.length a0 : Int)), (15, aI i138), (19, aD (.slice tI) a1), (20, aI (List.length a1 : Int)), (21, aI i203)]) (L' := [(46, .seq (.int .u32) x139.2)]) (obs := [Idx a1 i203 v206]) (by kernel_rfl) (by kernel_rfl) (by kernel_rfl) (allP1 (Idx.of h207)) ?_
            refine seqQ_norm ?_
            obtain ⟨_, h209, h⟩ := bind_of h
            replace h209 := ck_some h209
            refine W_run 10 [] [1, 6, 7, 9, 10, 13, 14, 15, 19, 20, 21] [46] (fr' := [(1, aD (.slice tI) a1), (6, aI x139.1), (7, .one (.slc 46)), (9, aD (.int .u32) v141), (10, aI (w64 (x204 + (w64 ((w64 (bAnd .u32 (bShr .u32 v141 i203) (1 : Int))) * v206))))), (13, aD (.slice (.int .u32)) a0), (14, aI (List.length a0 : Int)), (15, aI i138), (19, aD (.slice tI) a1), (20, aI (List.length a1 : Int)), (21, aI i203)]) (L' := [(46, .seq (.int .u32) x139.2)]) (obs := [(0 ≤ i203)]) (by kernel_rfl) (by kernel_rfl) (by kernel_rfl) (allP1 h209) ?_
            refine blockQ_norm ?_
            refine seqQ_norm ?_
            obtain rfl := Option.some.inj h
            refine W_run 2 [] [1, 6, 7, 9, 10, 13, 14, 15, 19, 20, 21] [46] (fr' := [(1, aD (.slice tI) a1), (6, aI x139.1), (7, .one (.slc 46)), (9, aD (.int .u32) v141), (10, aI (w64 (x204 + (w64 ((w64 (bAnd .u32 (bShr .u32 v141 i203) (1 : Int))) * v206))))), (13, aD (.slice (.int .u32)) a0), (14, aI (List.length a0 : Int)), (15, aI i138), (19, aD (.slice tI) a1), (20, aI (List.length a1 : Int)), (21, aI (w64 (i203 + (1 : Int))))]) (L' := [(46, .seq (.int .u32) x139.2)]) (obs := []) (by kernel_rfl) (by kernel_rfl) (by kernel_rfl) allP0 ?_
            exact round_next' (by kernel_rfl) (by kernel_rfl)
          · obtain rfl := stepL_false h208 h
            refine W_exit (id := 2) [1, 6, 7, 9, 10, 13, 14, 15] [46] (fr' := [(1, aD (.slice tI) a1), (6, aI x139.1), (7, .one (.slc 46)), (9, aD (.int .u32) v141), (10, aI x204), (13, aD (.slice (.int .u32)) a0), (14, aI (List.length a0 : Int)), (15, aI i138)]) (L' := [(46, .seq (.int .u32) x139.2)]) (by kernel_rfl) (by kernel_rfl) ?_
            refine seqQ_exit ?_
            refine round_exit ?_
            exact exQ_mk (by kernel_rfl) (by kernel_rfl)
        · intro e fr L hJ
          obtain ⟨rfl, rfl, rfl⟩ := hJ
          refine LT_keep [1, 6, 7, 9, 10, 13, 14, 15] [46] (fr' := [(1, aD (.slice tI) a1), (6, aI x139.1), (7, .one (.slc 46)), (9, aD (.int .u32) v141), (10, aI v211), (13, aD (.slice (.int .u32)) a0), (14, aI (List.length a0 : Int)), (15, aI i138)]) (L' := [(46, .seq (.int .u32) x139.2)]) (by kernel_rfl) ?_
          refine blockQ_hit ?_
          refine seqQ_norm ?_
          refine W_block (id := 4) (by kernel_rfl) ?_
          refine W_seq (by kernel_rfl) ?_
          refine W_run 8 [] [1, 6, 7, 9, 10, 13, 14, 15, 36] [46] (fr' := [(1, aD (.slice tI) a1), (6, aI x139.1), (7, .one (.slc 46)), (9, aD (.int .u32) v141), (10, aI v211), (13, aD (.slice (.int .u32)) a0), (14, aI (List.length a0 : Int)), (15, aI i138), (36, aB ((decide (x139.1 < (0 : Int))) || (decide (v211 < x139.1))))]) (L' := [(46, .seq (.int .u32) x139.2)]) (obs := []) (by kernel_rfl) (by kernel_rfl) (by kernel_rfl) allP0 ?_
          refine seqQ_norm ?_
          refine W_cond (o := .tmp 36) (b := (decide (x139.1 < (0 : Int))) || (decide (v211 < x139.1))) (by kernel_rfl) (by kernel_rfl) (fun h216 => ?_) (fun h216 => ?_)
          · replace h := ofT h216 h
            obtain rfl := Option.some.inj h
            refine W_run 5 [] [1, 6, 7, 13, 14, 15] [46] (fr' := [(1, aD (.slice tI) a1), (6, aI v211), (7, .one (.slc 46)), (13, aD (.slice (.int .u32)) a0), (14, aI (List.length a0 : Int)), (15, aI i138)]) (L' := [(46, .seq (.int .u32) [v141])]) (obs := []) (by kernel_rfl) (by kernel_rfl) (by kernel_rfl) allP0 ?_
            refine blockQ_norm ?_
            refine blockQ_norm ?_
            exact exQ_mk (by kernel_rfl) (by kernel_rfl)
          · replace h := ofF h216 h
            refine W_seq (by kernel_rfl) ?_
            refine W_run 4 [] [1, 6, 7, 9, 13, 14, 15, 47] [46] (fr' := [(1, aD (.slice tI) a1), (6, aI x139.1), (7, .one (.slc 46)), (9, aD (.int .u32) v141), (13, aD (.slice (.int .u32)) a0), (14, aI (List.length a0 : Int)), (15, aI i138), (47, aB (v211 == x139.1))]) (L' := [(46, .seq (.int .u32) x139.2)]) (obs := []) (by kernel_rfl) (by kernel_rfl) (by kernel_rfl) allP0 ?_
            refine seqQ_norm ?_
            refine W_cond (o := .tmp 47) (b := v211 == x139.1) (by kernel_rfl) (by kernel_rfl) (fun h217 => ?_) (fun h217 => ?_)
            · replace h := ofT h217 h
              obtain ⟨_, h218, h⟩ := bind_of h
              replace h218 := ck_some h218
              obtain rfl := Option.some.inj h
              refine W_run 5 [] [1, 6, 7, 13, 14, 15] [46] (fr' := [(1, aD (.slice tI) a1), (6, aI x139.1), (7, .one (.slc 46)), (13, aD (.slice (.int .u32)) a0), (14, aI (List.length a0 : Int)), (15, aI i138)]) (L' := [(46, .seq (.int .u32) (x139.2 ++ [v141]))]) (obs := [SmallLen (List.length x139.2 + List.length [v141])]) (by kernel_rfl) (by kernel_rfl) (by kernel_rfl) (allP1 h218) ?_
              refine blockQ_norm ?_
              refine blockQ_norm ?_
              exact exQ_mk (by kernel_rfl) (by kernel_rfl)
            · replace h := ofF h217 h
              obtain rfl := Option.some.inj h
              refine W_skip [1, 6, 7, 13, 14, 15] [46] (fr' := [(1, aD (.slice tI) a1), (6, aI x139.1), (7, .one (.slc 46)), (13, aD (.slice (.int .u32)) a0), (14, aI (List.length a0 : Int)), (15, aI i138)]) (L' := [(46, .seq (.int .u32) x139.2)]) (by kernel_rfl) (by kernel_rfl) ?_
              refine blockQ_norm ?_
              refine blockQ_norm ?_
              exact exQ_mk (by kernel_rfl) (by kernel_rfl)
      · intro e fr L hJ
        obtain ⟨rfl, rfl, rfl⟩ := hJ
        refine LT_keep [1, 6, 7, 13, 14, 15] [46] (fr' := [(1, aD (.slice tI) a1), (6, aI v219.1), (7, .one (.slc 46)), (13, aD (.slice (.int .u32)) a0), (14, aI (List.length a0 : Int)), (15, aI i138)]) (L' := [(46, .seq (.int .u32) v219.2)]) (by kernel_rfl) ?_
        refine seqQ_norm ?_
        obtain rfl := Option.some.inj h
        refine W_run 2 [] [1, 6, 7, 13, 14, 15] [46] (fr' := [(1, aD (.slice tI) a1), (6, aI v219.1), (7, .one (.slc 46)), (13, aD (.slice (.int .u32)) a0), (14, aI (List.length a0 : Int)), (15, aI (w64 (i138 + (1 : Int))))]) (L' := [(46, .seq (.int .u32) v219.2)]) (obs := []) (by kernel_rfl) (by kernel_rfl) (by kernel_rfl) allP0 ?_
        exact round_next' (by kernel_rfl) (by kernel_rfl)
    · obtain rfl := stepL_false h143 h
      refine W_exit (id := 0) [6, 7] [46] (fr' := [(6, aI x139.1), (7, .one (.slc 46))]) (L' := [(46, .seq (.int .u32) x139.2)]) (by kernel_rfl) (by kernel_rfl) ?_
      refine seqQ_exit ?_
      refine round_exit ?_
      exact exQ_mk (by kernel_rfl) (by kernel_rfl)
  · intro e fr L hJ
    obtain ⟨rfl, rfl, rfl⟩ := hJ
    refine LT_keep [6, 7] [46] (fr' := [(6, aI v222.1), (7, .one (.slc 46))]) (L' := [(46, .seq (.int .u32) v222.2)]) (by kernel_rfl) ?_
    refine blockQ_hit ?_
    refine seqQ_norm ?_
    refine W_seq (by kernel_rfl) ?_
    refine W_run 4 [] [4, 5] [46] (fr' := [(4, aI v222.1), (5, .one (.slc 46))]) (L' := [(46, .seq (.int .u32) v222.2)]) (obs := []) (by kernel_rfl) (by kernel_rfl) (by kernel_rfl) allP0 ?_
    refine seqQ_norm ?_
    obtain rfl := Option.some.inj h
    refine W_frz 46 (by kernel_rfl) ?_
    refine W_ret [4, 5] [] (fr' := [(4, aI v222.1), (5, aD (.slice (.int .u32)) v222.2)]) (L' := []) (by kernel_rfl) (by kernel_rfl) ?_
    exact retQ_mk (by kernel_rfl) (by kernel_rfl) (by kernel_rfl)

@[reducible] noncomputable def lone_choices_1_for_lone_Single_SX (v : ((List Int) × Int × Int)) : LL := [(1002, .cells [.dat (.slice (.int .u32)) v.1]), (1003, .cells [.dat tI v.2.1]), (1004, .cells [.dat tI v.2.2])]
@[reducible] noncomputable def lone_choices_1_for_lone_Single_S (_y : (List Int)) (v : ((List Int) × Int × Int)) : LL := [(1002, .cells [.dat (.slice (.int .u32)) v.1]), (1003, .cells [.dat tI v.2.1]), (1004, .cells [.dat tI v.2.2]), (1998, .seq tI _y)]
@[reducible] noncomputable def lone_choices_1_for_lone_Single_s16 (rl : Nat) (rfn : Nat) (rtm : Array Value) (rdd : Nat) (c0 : Int) (c1 : Int) (r112 : ((List Int) × Int × Int)) (x130 : (Int × (List Int))) (v : Bool) : Fr × LL := ([(0, .one (.yl rl)), (1, .one (.ptr 1000 0)), (2, .one (.ptr 1001 0)), (4, .one (.slc 7)), (5, aI x130.1), (22, aB v)], [(1000, .cells [.dat tI c0]), (1001, .cells [.dat tI c1]), (1002, .cells [.dat (.slice (.int .u32)) r112.1]), (1003, .cells [.dat tI r112.2.1]), (1004, .cells [.dat tI r112.2.2]), (7, .seq tI x130.2), (1999, .raw rl (.loop (recOf rfn rtm 32 (nav (bodyOf Try.f22) [0, 0, 1, 0, 1, 1, 1, 1]) (nav (bodyOf Try.f22) [1, 0, 1, 0, 1, 1, 1, 1]) rdd)))])
noncomputable def lone_choices_1_for_lone_Single_b17 (c0 : Int) (c1 : Int) (x130 : (Int × (List Int))) : Option (Flow (Int × (List Int)) (Int × (List Int))) :=
(bif decide (x130.1 < c0) then
((idx x130.2 x130.1).bind fun v152 =>
some (v152 == (w64 (c1 - (1 : Int)))))
else
(some false)).bind fun v154 =>
bif v154 then
((idx x130.2 x130.1).bind fun v157 =>
some (.next (w64 (x130.1 + (1 : Int)), List.set x130.2 (Int.toNat x130.1) (0 : Int))))
else
(some (.done (x130.1, x130.2)))
@[reducible] noncomputable def lone_choices_1_for_lone_Single_s18 (rl : Nat) (rfn : Nat) (rtm : Array Value) (rdd : Nat) (c0 : Int) (c1 : Int) (r112 : ((List Int) × Int × Int)) (v : (Int × (List Int))) : Fr × LL := ([(0, .one (.yl rl)), (1, .one (.ptr 1000 0)), (2, .one (.ptr 1001 0)), (4, .one (.slc 7)), (5, aI v.1)], [(1000, .cells [.dat tI c0]), (1001, .cells [.dat tI c1]), (1002, .cells [.dat (.slice (.int .u32)) r112.1]), (1003, .cells [.dat tI r112.2.1]), (1004, .cells [.dat tI r112.2.2]), (7, .seq tI v.2), (1999, .raw rl (.loop (recOf rfn rtm 32 (nav (bodyOf Try.f22) [0, 0, 1, 0, 1, 1, 1, 1]) (nav (bodyOf Try.f22) [1, 0, 1, 0, 1, 1, 1, 1]) rdd)))])
@[reducible] noncomputable def lone_choices_1_for_lone_Single_s19 (rl : Nat) (rfn : Nat) (rtm : Array Value) (rdd : Nat) (c0 : Int) (c1 : Int) (r112 : ((List Int) × Int × Int)) (v : (Int × (List Int))) : Fr × LL := ([(0, .one (.yl rl)), (1, .one (.ptr 1000 0)), (2, .one (.ptr 1001 0)), (4, .one (.slc 7)), (5, aI v.1)], [(1000, .cells [.dat tI c0]), (1001, .cells [.dat tI c1]), (1002, .cells [.dat (.slice (.int .u32)) r112.1]), (1003, .cells [.dat tI r112.2.1]), (1004, .cells [.dat tI r112.2.2]), (7, .seq tI v.2), (1999, .raw rl (.loop (recOf rfn rtm 32 (nav (bodyOf Try.f22) [0, 0, 1, 0, 1, 1, 1, 1]) (nav (bodyOf Try.f22) [1, 0, 1, 0, 1, 1, 1, 1]) rdd)))])
noncomputable def lone_choices_1_for_lone_Single_b20 (fuel : Nat) (c0 : Int) (c1 : Int) (rf_y : (List Int) → ((List Int) × Int × Int) → Option ((List Int) × Int × Int)) (x57 : ((List Int) × Int × Int × (List Int))) : Option (Flow ((List Int) × Int × Int × (List Int)) ((List Int) × Int × Int)) :=
(rf_y x57.2.2.2 (x57.1, x57.2.1, x57.2.2.1)).bind fun r112 =>
(iter (lone_choices_1_for_lone_Single_b17 c0 c1) fuel ((0 : Int), x57.2.2.2)).bind fun v159 =>
bif v159.1 == c0 then
(some (.done (r112.1, r112.2.1, r112.2.2)))
else
((idx v159.2 v159.1).bind fun v164 =>
some (.next (r112.1, r112.2.1, r112.2.2, List.set v159.2 (Int.toNat v159.1) (w64 (v164 + (1 : Int))))))
@[reducible] noncomputable def lone_choices_1_for_lone_Single_s21 (rl : Nat) (rfn : Nat) (rtm : Array Value) (rdd : Nat) (c0 : Int) (c1 : Int) (v : ((List Int) × Int × Int × (List Int))) : Fr × LL := ([(0, .one (.yl rl)), (1, .one (.ptr 1000 0)), (2, .one (.ptr 1001 0)), (4, .one (.slc 7))], [(1000, .cells [.dat tI c0]), (1001, .cells [.dat tI c1]), (1002, .cells [.dat (.slice (.int .u32)) v.1]), (1003, .cells [.dat tI v.2.1]), (1004, .cells [.dat tI v.2.2.1]), (7, .seq tI v.2.2.2), (1999, .raw rl (.loop (recOf rfn rtm 32 (nav (bodyOf Try.f22) [0, 0, 1, 0, 1, 1, 1, 1]) (nav (bodyOf Try.f22) [1, 0, 1, 0, 1, 1, 1, 1]) rdd)))])
@[reducible] noncomputable def lone_choices_1_for_lone_Single_s22 (rl : Nat) (rfn : Nat) (rtm : Array Value) (rdd : Nat) (c0 : Int) (c1 : Int) (v : ((List Int) × Int × Int)) : Fr × LL := ([], [(1000, .cells [.dat tI c0]), (1001, .cells [.dat tI c1]), (1002, .cells [.dat (.slice (.int .u32)) v.1]), (1003, .cells [.dat tI v.2.1]), (1004, .cells [.dat tI v.2.2]), (1999, .raw rl (.loop (recOf rfn rtm 32 (nav (bodyOf Try.f22) [0, 0, 1, 0, 1, 1, 1, 1]) (nav (bodyOf Try.f22) [1, 0, 1, 0, 1, 1, 1, 1]) rdd)))])
noncomputable def lone_choices_1_for_lone_Single (rf_y : (List Int) → ((List Int) × Int × Int) → Option ((List Int) × Int × Int)) (fuel : Nat) (c0 : Int) (c1 : Int) (x0 : ((List Int) × Int × Int)) : Option ((List Int) × Int × Int) :=
(ck (0 ≤ c0 ∧ c0 = c0 ∧ c0 ≤ 4294967296)).bind fun _ =>
(iter (lone_choices_1_for_lone_Single_b20 fuel c0 c1 rf_y) fuel (x0.1, x0.2.1, x0.2.2, List.replicate (Int.toNat c0) (0 : Int))).bind fun v166 =>
some (v166.1, v166.2.1, v166.2.2)
theorem lone_choices_1_for_lone_Single_ok {rf_y : (List Int) → ((List Int) × Int × Int) → Option ((List Int) × Int × Int)} (ih_y : ∀ {l : Nat} {y : (List Int)} {x : ((List Int) × Int × Int)} {s : ((List Int) × Int × Int)}, rf_y y x = some s → BodyC Try.prog 62 (nav (bodyOf Try.f22) [1, 0, 1, 0, 1, 1, 1, 1]) l (putF (putF [(4, .one (.ptr 1002 0)), (10, .one (.ptr 1003 0)), (11, .one (.ptr 1004 0))] 32 (.one (.slc 1998))) 12 (.one (.slc 1998))) (lone_choices_1_for_lone_Single_S y x) (exq .normal (lone_choices_1_for_lone_Single_S y s))) {fuel : Nat} {c0 : Int} {c1 : Int} {x0 : ((List Int) × Int × Int)} {r : ((List Int) × Int × Int)} (h : lone_choices_1_for_lone_Single rf_y fuel c0 c1 x0 = some r) {rl rfn rdd : Nat} {rtm : Array Value} (htm : rtm.size = 62) : FnI Try.prog 83 [.one (.yl rl), .one (.ptr 1000 0), .one (.ptr 1001 0)] (([(1000, .cells [.dat tI c0]), (1001, .cells [.dat tI c1])] ++ lone_choices_1_for_lone_Single_SX x0) ++ [(1999, .raw rl (.loop (recOf rfn rtm 32 (nav (bodyOf Try.f22) [0, 0, 1, 0, 1, 1, 1, 1]) (nav (bodyOf Try.f22) [1, 0, 1, 0, 1, 1, 1, 1]) rdd)))]) (.tup []) (([(1000, .cells [.dat tI c0]), (1001, .cells [.dat tI c1])] ++ lone_choices_1_for_lone_Single_SX r) ++ [(1999, .raw rl (.loop (endRec .normal (recOf rfn rtm 32 (nav (bodyOf Try.f22) [0, 0, 1, 0, 1, 1, 1, 1]) (nav (bodyOf Try.f22) [1, 0, 1, 0, 1, 1, 1, 1]) rdd))))]) 62 [(4, .one (.ptr 1002 0)), (10, .one (.ptr 1003 0)), (11, .one (.ptr 1004 0))] rtm := by
  refine fnI_of_W [(1998, 7)] (B := bodyOf Try.f83) (n := 37) Try.func83 (by kernel_rfl) (by kernel_rfl) (by kernel_rfl) (by kernel_rfl) (by kernel_rfl) (by kernel_rfl) (by kernel_rfl) ?_
  intro K hF
  refine W_seq (by kernel_rfl) ?_
  obtain ⟨_, h1, h⟩ := bind_of h
  replace h1 := ck_some h1
  refine W_run 3 [] [0, 1, 2, 4] [1000, 1001, 7, 1002, 1003, 1004, 1999] (fr' := [(0, .one (.yl rl)), (1, .one (.ptr 1000 0)), (2, .one (.ptr 1001 0)), (4, .one (.slc 7))]) (L' := [(1000, .cells [.dat tI c0]), (1001, .cells [.dat tI c1]), (7, .seq tI (List.replicate (Int.toNat c0) (0 : Int))), (1002, .cells [.dat (.slice (.int .u32)) x0.1]), (1003, .cells [.dat tI x0.2.1]), (1004, .cells [.dat tI x0.2.2]), (1999, .raw rl (.loop (recOf rfn rtm 32 (nav (bodyOf Try.f22) [0, 0, 1, 0, 1, 1, 1, 1]) (nav (bodyOf Try.f22) [1, 0, 1, 0, 1, 1, 1, 1]) rdd)))]) (obs := [0 ≤ c0 ∧ c0 = c0 ∧ SmallLen c0]) (by kernel_rfl) (by kernel_rfl) (by kernel_rfl) (allP1 h1) ?_
  refine seqQ_norm ?_
  refine W_block (id := 0) (by kernel_rfl) ?_
  obtain ⟨v166, h167, h⟩ := bind_of h
  refine W_weaken [0, 1, 2, 4] [1000, 1001, 1002, 1003, 1004, 7, 1999] (fr' := ((lone_choices_1_for_lone_Single_s21 rl rfn rtm rdd c0 c1) (x0.1, x0.2.1, x0.2.2, List.replicate (Int.toNat c0) (0 : Int))).1) (L' := ((lone_choices_1_for_lone_Single_s21 rl rfn rtm rdd c0 c1) (x0.1, x0.2.1, x0.2.2, List.replicate (Int.toNat c0) (0 : Int))).2) (by kernel_rfl) ?_
  refine W_cutK (W_loop (S := (lone_choices_1_for_lone_Single_s21 rl rfn rtm rdd c0 c1)) (J := (exQ .ret (lone_choices_1_for_lone_Single_s22 rl rfn rtm rdd c0 c1))) (by kernel_rfl) ?_ fuel _ v166 h167) ?_
  · rintro x57 s h
    refine W_seq (by kernel_rfl) ?_
    refine W_seq (by kernel_rfl) ?_
    obtain ⟨r112, h113, h⟩ := bind_of h
    refine W_yieldN [(1998, 7)] 2 [] [0, 1, 2, 4, 8, 9] [7, 1000, 1001, 1002, 1003, 1004, 1999] (obs := []) (fr1 := [(0, .one (.yl rl)), (1, .one (.ptr 1000 0)), (2, .one (.ptr 1001 0)), (4, .one (.slc 7)), (8, .one (.yl rl)), (9, .one (.slc 7))]) (L1 := [(7, .seq tI x57.2.2.2), (1000, .cells [.dat tI c0]), (1001, .cells [.dat tI c1]), (1002, .cells [.dat (.slice (.int .u32)) x57.1]), (1003, .cells [.dat tI x57.2.1]), (1004, .cells [.dat tI x57.2.2.1]), (1999, .raw rl (.loop (recOf rfn rtm 32 (nav (bodyOf Try.f22) [0, 0, 1, 0, 1, 1, 1, 1]) (nav (bodyOf Try.f22) [1, 0, 1, 0, 1, 1, 1, 1]) rdd)))]) (d := 10) (l := rl) (nR := 1999) (n1 := 62) (q := 32) (d1 := 12) (y := .slc 1998) (rec := recOf rfn rtm 32 (nav (bodyOf Try.f22) [0, 0, 1, 0, 1, 1, 1, 1]) (nav (bodyOf Try.f22) [1, 0, 1, 0, 1, 1, 1, 1]) rdd) (fr0 := [(4, .one (.ptr 1002 0)), (10, .one (.ptr 1003 0)), (11, .one (.ptr 1004 0))]) (Lin := lone_choices_1_for_lone_Single_S x57.2.2.2 (x57.1, x57.2.1, x57.2.2.1)) (Lo := lone_choices_1_for_lone_Single_S x57.2.2.2 r112) (by kernel_rfl) rfl (by kernel_rfl) allP0 (by kernel_rfl) (by kernel_rfl) (by kernel_rfl) (recOk_of htm (by kernel_rfl) (by kernel_rfl) (by kernel_rfl)) hF (ih_y h113) (by kernel_rfl) (by kernel_rfl) (by kernel_rfl) (by kernel_rfl) ?_
    refine WO_fin [0, 1, 2, 4, 10] [1000, 1001, 7, 1002, 1003, 1004, 1999] (fr' := [(0, .one (.yl rl)), (1, .one (.ptr 1000 0)), (2, .one (.ptr 1001 0)), (4, .one (.slc 7)), (10, aB true)]) (L' := [(1000, .cells [.dat tI c0]), (1001, .cells [.dat tI c1]), (7, .seq tI x57.2.2.2), (1002, .cells [.dat (.slice (.int .u32)) r112.1]), (1003, .cells [.dat tI r112.2.1]), (1004, .cells [.dat tI r112.2.2]), (1999, .raw rl (.loop (recOf rfn rtm 32 (nav (bodyOf Try.f22) [0, 0, 1, 0, 1, 1, 1, 1]) (nav (bodyOf Try.f22) [1, 0, 1, 0, 1, 1, 1, 1]) rdd)))]) (by kernel_rfl) (by kernel_rfl) ?_
    refine seqQ_norm ?_
    refine W_cond (o := .tmp 10) (b := true) (by kernel_rfl) (by kernel_rfl) (fun h114 => ?_) (fun h114 => by have := (rfl : true = true).symm.trans h114; cases this)
    refine W_skip [0, 1, 2, 4] [1000, 1001, 7, 1002, 1003, 1004, 1999] (fr' := [(0, .one (.yl rl)), (1, .one (.ptr 1000 0)), (2, .one (.ptr 1001 0)), (4, .one (.slc 7))]) (L' := [(1000, .cells [.dat tI c0]), (1001, .cells [.dat tI c1]), (7, .seq tI x57.2.2.2), (1002, .cells [.dat (.slice (.int .u32)) r112.1]), (1003, .cells [.dat tI r112.2.1]), (1004, .cells [.dat tI r112.2.2]), (1999, .raw rl (.loop (recOf rfn rtm 32 (nav (bodyOf Try.f22) [0, 0, 1, 0, 1, 1, 1, 1]) (nav (bodyOf Try.f22) [1, 0, 1, 0, 1, 1, 1, 1]) rdd)))]) (by kernel_rfl) (by kernel_rfl) ?_
    refine seqQ_norm ?_
    refine W_block (id := 1) (by kernel_rfl) ?_
    refine W_seq (by kernel_rfl) ?_
    refine W_run 1 [] [0, 1, 2, 4, 5] [1000, 1001, 7, 1002, 1003, 1004, 1999] (fr' := [(0, .one (.yl rl)), (1, .one (.ptr 1000 0)), (2, .one (.ptr 1001 0)), (4, .one (.slc 7)), (5, aI (0 : Int))]) (L' := [(1000, .cells [.dat tI c0]), (1001, .cells [.dat tI c1]), (7, .seq tI x57.2.2.2), (1002, .cells [.dat (.slice (.int .u32)) r112.1]), (1003, .cells [.dat tI r112.2.1]), (1004, .cells [.dat tI r112.2.2]), (1999, .raw rl (.loop (recOf rfn rtm 32 (nav (bodyOf Try.f22) [0, 0, 1, 0, 1, 1, 1, 1]) (nav (bodyOf Try.f22) [1, 0, 1, 0, 1, 1, 1, 1]) rdd)))]) (obs := []) (by kernel_rfl) (by kernel_rfl) (by kernel_rfl) allP0 ?_
    refine seqQ_norm ?_
    refine W_seq (by kernel_rfl) ?_
    refine W_block (id := 2) (by kernel_rfl) ?_
    obtain ⟨v159, h160, h⟩ := bind_of h
    refine W_weaken [0, 1, 2, 4, 5] [1000, 1001, 1002, 1003, 1004, 7, 1999] (fr' := ((lone_choices_1_for_lone_Single_s18 rl rfn rtm rdd c0 c1 r112) ((0 : Int), x57.2.2.2)).1) (L' := ((lone_choices_1_for_lone_Single_s18 rl rfn rtm rdd c0 c1 r112) ((0 : Int), x57.2.2.2)).2) (by kernel_rfl) ?_
    refine W_cutK (W_loop (S := (lone_choices_1_for_lone_Single_s18 rl rfn rtm rdd c0 c1 r112)) (J := (exQ (.exit 2) (lone_choices_1_for_lone_Single_s19 rl rfn rtm rdd c0 c1 r112))) (by kernel_rfl) ?_ fuel _ v159 h160) ?_
    · rintro x130 s h
      refine W_seq (by kernel_rfl) ?_
      refine W_seq (by kernel_rfl) ?_
      obtain ⟨v154, h155, h⟩ := bind_of h
      refine W_cutK (Q' := (exQ .normal (lone_choices_1_for_lone_Single_s16 rl rfn rtm rdd c0 c1 r112 x130)) v154) ?_ ?_
      · replace h := h155
        rcases Bool.eq_false_or_eq_true (decide (x130.1 < c0)) with h151 | h151
        · replace h := ofT h151 h
          obtain ⟨v152, h153, h⟩ := bind_of h
          obtain rfl := Option.some.inj h
          refine W_draw2 12 [(8, .known true), (10, .known true), (12, .known true), (14, .known true), (15, .val (.dat tI v152)), (16, .known true), (18, .known true), (20, .known true), (23, .val (.dat .bool true))] [] [0, 1, 2, 4, 5, 22] [1000, 1001, 1002, 1003, 1004, 7, 1999] (fr' := [(0, .one (.yl rl)), (1, .one (.ptr 1000 0)), (2, .one (.ptr 1001 0)), (4, .one (.slc 7)), (5, aI x130.1), (22, aB (v152 == (w64 (c1 - (1 : Int)))))]) (L' := [(1000, .cells [.dat tI c0]), (1001, .cells [.dat tI c1]), (1002, .cells [.dat (.slice (.int .u32)) r112.1]), (1003, .cells [.dat tI r112.2.1]), (1004, .cells [.dat tI r112.2.2]), (7, .seq tI x130.2), (1999, .raw rl (.loop (recOf rfn rtm 32 (nav (bodyOf Try.f22) [0, 0, 1, 0, 1, 1, 1, 1]) (nav (bodyOf Try.f22) [1, 0, 1, 0, 1, 1, 1, 1]) rdd)))]) (out := [(11, aI x130.1), (12, aI c0), (13, aB (decide (x130.1 < c0))), (14, aB (decide (x130.1 < c0))), (15, .one (.slc 7)), (16, aI x130.1), (17, .one (.eptr 7 1 x130.1 0)), (18, aI v152), (19, aI c1), (20, aI (w64 (c1 - (1 : Int)))), (21, aB (v152 == (w64 (c1 - (1 : Int))))), (22, aB (v152 == (w64 (c1 - (1 : Int)))))]) (obs := [((decide (x130.1 < c0)) = true), ((decide (x130.1 < c0)) = true), ((decide (x130.1 < c0)) = true), InR x130.1 (List.length x130.2), ((decide (x130.1 < c0)) = true), Idx x130.2 x130.1 v152, ((decide (x130.1 < c0)) = true), ((decide (x130.1 < c0)) = true), ((decide (x130.1 < c0)) = true), ((decide (x130.1 < c0)) = true)]) (obs2 := []) (calls := []) (by kernel_rfl) (by kernel_rfl) (by kernel_rfl) (by kernel_rfl) (allP2 h151 (allP2 h151 (allP2 h151 (allP2 (InR.of h153) (allP2 h151 (allP2 (Idx.of h153) (allP2 h151 (allP2 h151 (allP2 h151 (allP1 h151)))))))))) allC0 (by kernel_rfl) allP0 ?_
          exact exQ_mk (by kernel_rfl) (by kernel_rfl)
        · replace h := ofF h151 h
          obtain rfl := Option.some.inj h
          refine W_draw2 12 [(8, .known false), (10, .known false), (12, .known false), (14, .known false), (16, .known false), (18, .known false), (20, .known false), (23, .val (.dat .bool false))] [] [0, 1, 2, 4, 5, 22] [1000, 1001, 1002, 1003, 1004, 7, 1999] (fr' := [(0, .one (.yl rl)), (1, .one (.ptr 1000 0)), (2, .one (.ptr 1001 0)), (4, .one (.slc 7)), (5, aI x130.1), (22, aB false)]) (L' := [(1000, .cells [.dat tI c0]), (1001, .cells [.dat tI c1]), (1002, .cells [.dat (.slice (.int .u32)) r112.1]), (1003, .cells [.dat tI r112.2.1]), (1004, .cells [.dat tI r112.2.2]), (7, .seq tI x130.2), (1999, .raw rl (.loop (recOf rfn rtm 32 (nav (bodyOf Try.f22) [0, 0, 1, 0, 1, 1, 1, 1]) (nav (bodyOf Try.f22) [1, 0, 1, 0, 1, 1, 1, 1]) rdd)))]) (out := [(11, aI x130.1), (12, aI c0), (13, aB (decide (x130.1 < c0))), (14, aB (decide (x130.1 < c0))), (15, .tup []), (16, .tup []), (17, .tup []), (18, .tup []), (19, .tup []), (20, .tup []), (21, .tup []), (22, aB false)]) (obs := [((decide (x130.1 < c0)) = false), ((decide (x130.1 < c0)) = false), ((decide (x130.1 < c0)) = false), ((decide (x130.1 < c0)) = false), ((decide (x130.1 < c0)) = false), ((decide (x130.1 < c0)) = false), ((decide (x130.1 < c0)) = false), ((decide (x130.1 < c0)) = false)]) (obs2 := []) (calls := []) (by kernel_rfl) (by kernel_rfl) (by kernel_rfl) (by kernel_rfl) (allP2 h151 (allP2 h151 (allP2 h151 (allP2 h151 (allP2 h151 (allP2 h151 (allP2 h151 (allP1 h151)))))))) allC0 (by kernel_rfl) allP0 ?_
          exact exQ_mk (by kernel_rfl) (by kernel_rfl)
      · intro e fr L hJ
        obtain ⟨rfl, rfl, rfl⟩ := hJ
        refine LT_keep [0, 1, 2, 4, 5, 22] [1000, 1001, 7, 1002, 1003, 1004, 1999] (fr' := [(0, .one (.yl rl)), (1, .one (.ptr 1000 0)), (2, .one (.ptr 1001 0)), (4, .one (.slc 7)), (5, aI x130.1), (22, aB v154)]) (L' := [(1000, .cells [.dat tI c0]), (1001, .cells [.dat tI c1]), (7, .seq tI x130.2), (1002, .cells [.dat (.slice (.int .u32)) r112.1]), (1003, .cells [.dat tI r112.2.1]), (1004, .cells [.dat tI r112.2.2]), (1999, .raw rl (.loop (recOf rfn rtm 32 (nav (bodyOf Try.f22) [0, 0, 1, 0, 1, 1, 1, 1]) (nav (bodyOf Try.f22) [1, 0, 1, 0, 1, 1, 1, 1]) rdd)))]) (by kernel_rfl) ?_
        refine seqQ_norm ?_
        refine W_cond (o := .tmp 22) (b := v154) (by kernel_rfl) (by kernel_rfl) (fun h156 => ?_) (fun h156 => ?_)
        · replace h := ofT h156 h
          refine W_skip [0, 1, 2, 4, 5] [1000, 1001, 7, 1002, 1003, 1004, 1999] (fr' := [(0, .one (.yl rl)), (1, .one (.ptr 1000 0)), (2, .one (.ptr 1001 0)), (4, .one (.slc 7)), (5, aI x130.1)]) (L' := [(1000, .cells [.dat tI c0]), (1001, .cells [.dat tI c1]), (7, .seq tI x130.2), (1002, .cells [.dat (.slice (.int .u32)) r112.1]), (1003, .cells [.dat tI r112.2.1]), (1004, .cells [.dat tI r112.2.2]), (1999, .raw rl (.loop (recOf rfn rtm 32 (nav (bodyOf Try.f22) [0, 0, 1, 0, 1, 1, 1, 1]) (nav (bodyOf Try.f22) [1, 0, 1, 0, 1, 1, 1, 1]) rdd)))]) (by kernel_rfl) (by kernel_rfl) ?_
          refine seqQ_norm ?_
          refine W_seq (by kernel_rfl) ?_
          refine W_block (id := 3) (by kernel_rfl) ?_
          obtain ⟨v157, h158, h⟩ := bind_of h
          refine W_run 4 [] [0, 1, 2, 4, 5] [1000, 1001, 7, 1002, 1003, 1004, 1999] (fr' := [(0, .one (.yl rl)), (1, .one (.ptr 1000 0)), (2, .one (.ptr 1001 0)), (4, .one (.slc 7)), (5, aI x130.1)]) (L' := [(1000, .cells [.dat tI c0]), (1001, .cells [.dat tI c1]), (7, .seq tI (List.set x130.2 (Int.toNat x130.1) (0 : Int))), (1002, .cells [.dat (.slice (.int .u32)) r112.1]), (1003, .cells [.dat tI r112.2.1]), (1004, .cells [.dat tI r112.2.2]), (1999, .raw rl (.loop (recOf rfn rtm 32 (nav (bodyOf Try.f22) [0, 0, 1, 0, 1, 1, 1, 1]) (nav (bodyOf Try.f22) [1, 0, 1, 0, 1, 1, 1, 1]) rdd)))]) (obs := [InR x130.1 (List.length x130.2), InR x130.1 (List.length x130.2)]) (by kernel_rfl) (by kernel_rfl) (by kernel_rfl) (allP2 (InR.of h158) (allP1 (InR.of h158))) ?_
          refine blockQ_norm ?_
          refine seqQ_norm ?_
          obtain rfl := Option.some.inj h
          refine W_run 3 [] [0, 1, 2, 4, 5] [1000, 1001, 1002, 1003, 1004, 7, 1999] (fr' := [(0, .one (.yl rl)), (1, .one (.ptr 1000 0)), (2, .one (.ptr 1001 0)), (4, .one (.slc 7)), (5, aI (w64 (x130.1 + (1 : Int))))]) (L' := [(1000, .cells [.dat tI c0]), (1001, .cells [.dat tI c1]), (1002, .cells [.dat (.slice (.int .u32)) r112.1]), (1003, .cells [.dat tI r112.2.1]), (1004, .cells [.dat tI r112.2.2]), (7, .seq tI (List.set x130.2 (Int.toNat x130.1) (0 : Int))), (1999, .raw rl (.loop (recOf rfn rtm 32 (nav (bodyOf Try.f22) [0, 0, 1, 0, 1, 1, 1, 1]) (nav (bodyOf Try.f22) [1, 0, 1, 0, 1, 1, 1, 1]) rdd)))]) (obs := []) (by kernel_rfl) (by kernel_rfl) (by kernel_rfl) allP0 ?_
          exact round_next' (by kernel_rfl) (by kernel_rfl)
        · replace h := ofF h156 h
          obtain rfl := Option.some.inj h
          refine W_exit (id := 2) [0, 1, 2, 4, 5] [1000, 1001, 1002, 1003, 1004, 7, 1999] (fr' := [(0, .one (.yl rl)), (1, .one (.ptr 1000 0)), (2, .one (.ptr 1001 0)), (4, .one (.slc 7)), (5, aI x130.1)]) (L' := [(1000, .cells [.dat tI c0]), (1001, .cells [.dat tI c1]), (1002, .cells [.dat (.slice (.int .u32)) r112.1]), (1003, .cells [.dat tI r112.2.1]), (1004, .cells [.dat tI r112.2.2]), (7, .seq tI x130.2), (1999, .raw rl (.loop (recOf rfn rtm 32 (nav (bodyOf Try.f22) [0, 0, 1, 0, 1, 1, 1, 1]) (nav (bodyOf Try.f22) [1, 0, 1, 0, 1, 1, 1, 1]) rdd)))]) (by kernel_rfl) (by kernel_rfl) ?_
          refine seqQ_exit ?_
          refine round_exit ?_
          exact exQ_mk (by kernel_rfl) (by kernel_rfl)
    · intro e fr L hJ
      obtain ⟨rfl, rfl, rfl⟩ := hJ
      refine LT_keep [0, 1, 2, 4, 5] [1000, 1001, 7, 1002, 1003, 1004, 1999] (fr' := [(0, .one (.yl rl)), (1, .one (.ptr 1000 0)), (2, .one (.ptr 1001 0)), (4, .one (.slc 7)), (5, aI v159.1)]) (L' := [(1000, .cells [.dat tI c0]), (1001, .cells [.dat tI c1]), (7, .seq tI v159.2), (1002, .cells [.dat (.slice (.int .u32)) r112.1]), (1003, .cells [.dat tI r112.2.1]), (1004, .cells [.dat tI r112.2.2]), (1999, .raw rl (.loop (recOf rfn rtm 32 (nav (bodyOf Try.f22) [0, 0, 1, 0, 1, 1, 1, 1]) (nav (bodyOf Try.f22) [1, 0, 1, 0, 1, 1, 1, 1]) rdd)))]) (by kernel_rfl) ?_
      refine blockQ_hit ?_
      refine seqQ_norm ?_
      refine W_seq (by kernel_rfl) ?_
      refine W_seq (by kernel_rfl) ?_
      refine W_run 3 [] [0, 1, 2, 4, 5, 30] [1000, 1001, 7, 1002, 1003, 1004, 1999] (fr' := [(0, .one (.yl rl)), (1, .one (.ptr 1000 0)), (2, .one (.ptr 1001 0)), (4, .one (.slc 7)), (5, aI v159.1), (30, aB (v159.1 == c0))]) (L' := [(1000, .cells [.dat tI c0]), (1001, .cells [.dat tI c1]), (7, .seq tI v159.2), (1002, .cells [.dat (.slice (.int .u32)) r112.1]), (1003, .cells [.dat tI r112.2.1]), (1004, .cells [.dat tI r112.2.2]), (1999, .raw rl (.loop (recOf rfn rtm 32 (nav (bodyOf Try.f22) [0, 0, 1, 0, 1, 1, 1, 1]) (nav (bodyOf Try.f22) [1, 0, 1, 0, 1, 1, 1, 1]) rdd)))]) (obs := []) (by kernel_rfl) (by kernel_rfl) (by kernel_rfl) allP0 ?_
      refine seqQ_norm ?_
      refine W_cond (o := .tmp 30) (b := v159.1 == c0) (by kernel_rfl) (by kernel_rfl) (fun h163 => ?_) (fun h163 => ?_)
      · replace h := ofT h163 h
        obtain rfl := Option.some.inj h
        refine W_ret [] [1000, 1001, 1002, 1003, 1004, 1999] (fr' := []) (L' := [(1000, .cells [.dat tI c0]), (1001, .cells [.dat tI c1]), (1002, .cells [.dat (.slice (.int .u32)) r112.1]), (1003, .cells [.dat tI r112.2.1]), (1004, .cells [.dat tI r112.2.2]), (1999, .raw rl (.loop (recOf rfn rtm 32 (nav (bodyOf Try.f22) [0, 0, 1, 0, 1, 1, 1, 1]) (nav (bodyOf Try.f22) [1, 0, 1, 0, 1, 1, 1, 1]) rdd)))]) (by kernel_rfl) (by kernel_rfl) ?_
        refine seqQ_ret ?_
        refine blockQ_ret ?_
        refine round_ret ?_
        exact exQ_mk (by kernel_rfl) (by kernel_rfl)
      · replace h := ofF h163 h
        refine W_skip [0, 1, 2, 4, 5] [1000, 1001, 7, 1002, 1003, 1004, 1999] (fr' := [(0, .one (.yl rl)), (1, .one (.ptr 1000 0)), (2, .one (.ptr 1001 0)), (4, .one (.slc 7)), (5, aI v159.1)]) (L' := [(1000, .cells [.dat tI c0]), (1001, .cells [.dat tI c1]), (7, .seq tI v159.2), (1002, .cells [.dat (.slice (.int .u32)) r112.1]), (1003, .cells [.dat tI r112.2.1]), (1004, .cells [.dat tI r112.2.2]), (1999, .raw rl (.loop (recOf rfn rtm 32 (nav (bodyOf Try.f22) [0, 0, 1, 0, 1, 1, 1, 1]) (nav (bodyOf Try.f22) [1, 0, 1, 0, 1, 1, 1, 1]) rdd)))]) (by kernel_rfl) (by kernel_rfl) ?_
        refine seqQ_norm ?_
        obtain ⟨v164, h165, h⟩ := bind_of h
        obtain rfl := Option.some.inj h
        refine W_run 7 [(7, .val (.dat tI v164))] [0, 1, 2, 4] [1000, 1001, 1002, 1003, 1004, 7, 1999] (fr' := [(0, .one (.yl rl)), (1, .one (.ptr 1000 0)), (2, .one (.ptr 1001 0)), (4, .one (.slc 7))]) (L' := [(1000, .cells [.dat tI c0]), (1001, .cells [.dat tI c1]), (1002, .cells [.dat (.slice (.int .u32)) r112.1]), (1003, .cells [.dat tI r112.2.1]), (1004, .cells [.dat tI r112.2.2]), (7, .seq tI (List.set v159.2 (Int.toNat v159.1) (w64 (v164 + (1 : Int))))), (1999, .raw rl (.loop (recOf rfn rtm 32 (nav (bodyOf Try.f22) [0, 0, 1, 0, 1, 1, 1, 1]) (nav (bodyOf Try.f22) [1, 0, 1, 0, 1, 1, 1, 1]) rdd)))]) (obs := [InR v159.1 (List.length v159.2), Idx v159.2 v159.1 v164, InR v159.1 (List.length v159.2), InR v159.1 (List.length v159.2)]) (by kernel_rfl) (by kernel_rfl) (by kernel_rfl) (allP2 (InR.of h165) (allP2 (Idx.of h165) (allP2 (InR.of h165) (allP1 (InR.of h165))))) ?_
        refine blockQ_norm ?_
        exact round_next' (by kernel_rfl) (by kernel_rfl)
  · intro e fr L hJ
    obtain ⟨rfl, rfl, rfl⟩ := hJ
    obtain rfl := Option.some.inj h
    refine LT_keep [] [1000, 1001, 1002, 1003, 1004, 1999] (fr' := []) (L' := [(1000, .cells [.dat tI c0]), (1001, .cells [.dat tI c1]), (1002, .cells [.dat (.slice (.int .u32)) v166.1]), (1003, .cells [.dat tI v166.2.1]), (1004, .cells [.dat tI v166.2.2]), (1999, .raw rl (.loop (recOf rfn rtm 32 (nav (bodyOf Try.f22) [0, 0, 1, 0, 1, 1, 1, 1]) (nav (bodyOf Try.f22) [1, 0, 1, 0, 1, 1, 1, 1]) rdd)))]) (by kernel_rfl) ?_
    refine blockQ_ret ?_
    exact retQ_mk (by kernel_rfl) (by kernel_rfl) (by kernel_rfl)

noncomputable def lone_Single_b9 (i93 : Int) (v96 : Int) (x94 : (List Int)) : Option (Flow (List Int) (List Int)) :=
(idx x94 i93).bind fun v99 =>
some (.next (List.set x94 (Int.toNat i93) (w64 (v99 + (1 : Int)))))
@[reducible] noncomputable def lone_Single_s10 (x81 : ((List Int) × Int × Int)) (y82 : (List Int)) (r83 : (List Int)) (v : Int × (List Int)) : Fr × LL := ([(4, .one (.ptr 1002 0)), (10, .one (.ptr 1003 0)), (11, .one (.ptr 1004 0)), (13, .one (.slc 34)), (36, aI (List.length r83 : Int)), (37, aI v.1)], [(1002, .cells [.dat (.slice (.int .u32)) x81.1]), (1003, .cells [.dat tI x81.2.1]), (1004, .cells [.dat tI x81.2.2]), (34, .seq tI v.2), (1998, .seq tI y82)])
@[reducible] noncomputable def lone_Single_s11 (x81 : ((List Int) × Int × Int)) (y82 : (List Int)) (v : (List Int)) : Fr × LL := ([(4, .one (.ptr 1002 0)), (10, .one (.ptr 1003 0)), (11, .one (.ptr 1004 0)), (13, .one (.slc 34))], [(1002, .cells [.dat (.slice (.int .u32)) x81.1]), (1003, .cells [.dat tI x81.2.1]), (1004, .cells [.dat tI x81.2.2]), (34, .seq tI v), (1998, .seq tI y82)])
@[reducible] noncomputable def lone_Single_s12 (x81 : ((List Int) × Int × Int)) (y82 : (List Int)) (v : Int) : Fr × LL := ([(11, .one (.ptr 1004 0))], [(1004, .cells [.dat tI x81.2.2]), (1002, .cells [.dat (.slice (.int .u32)) x81.1]), (1003, .cells [.dat tI v]), (1998, .seq tI y82)])
noncomputable def lone_Single_r13 (y82 : (List Int)) (x81 : ((List Int) × Int × Int)) : Option ((List Int) × Int × Int) :=
(slices_Clone_Lintint_i2 y82).bind fun r83 =>
(forL lone_Single_b9 (fun x94 => x94) r83 0 r83).bind fun v102 =>
((lone_least x81.1 v102).bind fun r113 =>
bif (List.length r113.2 : Int) == (1 : Int) then
(some (w64 (x81.2.1 + (1 : Int))))
else
(some x81.2.1)).bind fun v116 =>
some (x81.1, v116, w64 (x81.2.2 + (1 : Int)))
theorem lone_Single_r13_ok {l : Nat} {y82 : (List Int)} {x81 : ((List Int) × Int × Int)} {s : ((List Int) × Int × Int)} (h : lone_Single_r13 y82 x81 = some s) : BodyC Try.prog 62 (nav (bodyOf Try.f22) [1, 0, 1, 0, 1, 1, 1, 1]) l (putF (putF [(4, .one (.ptr 1002 0)), (10, .one (.ptr 1003 0)), (11, .one (.ptr 1004 0))] 32 (.one (.slc 1998))) 12 (.one (.slc 1998))) (lone_choices_1_for_lone_Single_S y82 x81) (exq .normal (lone_choices_1_for_lone_Single_S y82 s)) := by
  refine bodyC_of_W (by kernel_rfl) (fun K => ?_)
  refine W_weaken [4, 10, 11, 32, 12] [1002, 1003, 1004, 1998] (fr' := [(4, .one (.ptr 1002 0)), (10, .one (.ptr 1003 0)), (11, .one (.ptr 1004 0)), (32, .one (.slc 1998)), (12, .one (.slc 1998))]) (L' := [(1002, .cells [.dat (.slice (.int .u32)) x81.1]), (1003, .cells [.dat tI x81.2.1]), (1004, .cells [.dat tI x81.2.2]), (1998, .seq tI y82)]) (by kernel_rfl) ?_
  refine W_block (id := 1) (by kernel_rfl) ?_
  refine W_seq (by kernel_rfl) ?_
  refine W_region (by kernel_rfl) ?_
  refine WO_run (j := 1) (k := 1) (orcs := []) (kF := [4, 10, 11, 33]) (kL := [1002, 1003, 1004, 1998]) (fr' := [(4, .one (.ptr 1002 0)), (10, .one (.ptr 1003 0)), (11, .one (.ptr 1004 0)), (33, .one (.slc 1998))]) (L' := [(1002, .cells [.dat (.slice (.int .u32)) x81.1]), (1003, .cells [.dat tI x81.2.1]), (1004, .cells [.dat tI x81.2.2]), (1998, .seq tI y82)]) (obs := []) rfl (by kernel_rfl) allP0 ?_
  obtain ⟨r83, h84, h⟩ := bind_of h
  refine WO_lendB [1998] [(5, 34)] [5] (us := [none]) (d := 34) (p := True) (j := 2) rfl ⟨by kernel_rfl, by kernel_rfl, by kernel_rfl⟩ trivial (slices_Clone_Lintint_i2_ok h84) (by kernel_rfl) (by kernel_rfl) ?_
  refine WO_run (j := 3) (k := 1) (orcs := []) (kF := [4, 10, 11, 13]) (kL := [34, 1002, 1003, 1004, 1998]) (fr' := [(4, .one (.ptr 1002 0)), (10, .one (.ptr 1003 0)), (11, .one (.ptr 1004 0)), (13, .one (.slc 34))]) (L' := [(34, .seq tI r83), (1002, .cells [.dat (.slice (.int .u32)) x81.1]), (1003, .cells [.dat tI x81.2.1]), (1004, .cells [.dat tI x81.2.2]), (1998, .seq tI y82)]) (obs := []) rfl (by kernel_rfl) allP0 ?_
  refine WO_fin [4, 10, 11, 13] [1002, 1003, 1004, 34, 1998] (fr' := [(4, .one (.ptr 1002 0)), (10, .one (.ptr 1003 0)), (11, .one (.ptr 1004 0)), (13, .one (.slc 34))]) (L' := [(1002, .cells [.dat (.slice (.int .u32)) x81.1]), (1003, .cells [.dat tI x81.2.1]), (1004, .cells [.dat tI x81.2.2]), (34, .seq tI r83), (1998, .seq tI y82)]) (by kernel_rfl) (by kernel_rfl) ?_
  refine seqQ_norm ?_
  refine W_seq (by kernel_rfl) ?_
  refine W_seq (by kernel_rfl) ?_
  refine W_run 3 [] [4, 10, 11, 13, 36, 37] [1002, 1003, 1004, 34, 1998] (fr' := [(4, .one (.ptr 1002 0)), (10, .one (.ptr 1003 0)), (11, .one (.ptr 1004 0)), (13, .one (.slc 34)), (36, aI (List.length r83 : Int)), (37, aI (0 : Int))]) (L' := [(1002, .cells [.dat (.slice (.int .u32)) x81.1]), (1003, .cells [.dat tI x81.2.1]), (1004, .cells [.dat tI x81.2.2]), (34, .seq tI r83), (1998, .seq tI y82)]) (obs := []) (by kernel_rfl) (by kernel_rfl) (by kernel_rfl) allP0 ?_
  refine seqQ_norm ?_
  refine W_block (id := 2) (by kernel_rfl) ?_
  obtain ⟨v102, h103, h⟩ := bind_of h
  refine W_lenS (s := 34) (u := tI) (xs := r83) (by kernel_rfl) (fun h106 => ?_)
  obtain ⟨h104, h105⟩ := forL_iter h106 h103
  refine W_weaken [4, 10, 11, 13, 36, 37] [1002, 1003, 1004, 34, 1998] (fr' := ((lone_Single_s10 x81 y82 r83) ((0 : Int), r83)).1) (L' := ((lone_Single_s10 x81 y82 r83) ((0 : Int), r83)).2) (by kernel_rfl) ?_
  refine W_cutK (W_loop (S := (lone_Single_s10 x81 y82 r83)) (J := (exQ (.exit 2) (lone_Single_s11 x81 y82))) (by kernel_rfl) ?_ h104 _ v102 h105) ?_
  · rintro ⟨i93, x94⟩ s h
    refine W_seq (by kernel_rfl) ?_
    refine W_run 1 [] [4, 10, 11, 13, 36, 37, 38] [1002, 1003, 1004, 34, 1998] (fr' := [(4, .one (.ptr 1002 0)), (10, .one (.ptr 1003 0)), (11, .one (.ptr 1004 0)), (13, .one (.slc 34)), (36, aI (List.length r83 : Int)), (37, aI i93), (38, aB (decide (i93 < (List.length r83 : Int))))]) (L' := [(1002, .cells [.dat (.slice (.int .u32)) x81.1]), (1003, .cells [.dat tI x81.2.1]), (1004, .cells [.dat tI x81.2.2]), (34, .seq tI x94), (1998, .seq tI y82)]) (obs := []) (by kernel_rfl) (by kernel_rfl) (by kernel_rfl) allP0 ?_
    refine seqQ_norm ?_
    refine W_seq (by kernel_rfl) ?_
    refine W_cond (o := .tmp 38) (b := decide (i93 < (List.length r83 : Int))) (by kernel_rfl) (by kernel_rfl) (fun h98 => ?_) (fun h98 => ?_)
    · replace h := stepL_true h98 h
      obtain ⟨v96, _, h97, h, rfl⟩ := h
      refine W_skip [4, 10, 11, 13, 36, 37] [1002, 1003, 1004, 34, 1998] (fr' := [(4, .one (.ptr 1002 0)), (10, .one (.ptr 1003 0)), (11, .one (.ptr 1004 0)), (13, .one (.slc 34)), (36, aI (List.length r83 : Int)), (37, aI i93)]) (L' := [(1002, .cells [.dat (.slice (.int .u32)) x81.1]), (1003, .cells [.dat tI x81.2.1]), (1004, .cells [.dat tI x81.2.2]), (34, .seq tI x94), (1998, .seq tI y82)]) (by kernel_rfl) (by kernel_rfl) ?_
      refine seqQ_norm ?_
      refine W_seq (by kernel_rfl) ?_
      refine W_block (id := 3) (by kernel_rfl) ?_
      refine W_seq (by kernel_rfl) ?_
      refine W_run 2 [] [4, 10, 11, 13, 14, 36, 37] [1002, 1003, 1004, 34, 1998] (fr' := [(4, .one (.ptr 1002 0)), (10, .one (.ptr 1003 0)), (11, .one (.ptr 1004 0)), (13, .one (.slc 34)), (14, aI i93), (36, aI (List.length r83 : Int)), (37, aI i93)]) (L' := [(1002, .cells [.dat (.slice (.int .u32)) x81.1]), (1003, .cells [.dat tI x81.2.1]), (1004, .cells [.dat tI x81.2.2]), (34, .seq tI x94), (1998, .seq tI y82)]) (obs := []) (by kernel_rfl) (by kernel_rfl) (by kernel_rfl) allP0 ?_
      refine seqQ_norm ?_
      obtain ⟨v99, h100, h⟩ := bind_of h
      refine W_run 7 [(7, .val (.dat tI v99))] [4, 10, 11, 13, 36, 37] [1002, 1003, 1004, 34, 1998] (fr' := [(4, .one (.ptr 1002 0)), (10, .one (.ptr 1003 0)), (11, .one (.ptr 1004 0)), (13, .one (.slc 34)), (36, aI (List.length r83 : Int)), (37, aI i93)]) (L' := [(1002, .cells [.dat (.slice (.int .u32)) x81.1]), (1003, .cells [.dat tI x81.2.1]), (1004, .cells [.dat tI x81.2.2]), (34, .seq tI (List.set x94 (Int.toNat i93) (w64 (v99 + (1 : Int))))), (1998, .seq tI y82)]) (obs := [InR i93 (List.length x94), Idx x94 i93 v99, InR i93 (List.length x94), InR i93 (List.length x94)]) (by kernel_rfl) (by kernel_rfl) (by kernel_rfl) (allP2 (InR.of h100) (allP2 (Idx.of h100) (allP2 (InR.of h100) (allP1 (InR.of h100))))) ?_
      refine blockQ_norm ?_
      refine seqQ_norm ?_
      obtain rfl := Option.some.inj h
      refine W_run 2 [] [4, 10, 11, 13, 36, 37] [1002, 1003, 1004, 34, 1998] (fr' := [(4, .one (.ptr 1002 0)), (10, .one (.ptr 1003 0)), (11, .one (.ptr 1004 0)), (13, .one (.slc 34)), (36, aI (List.length r83 : Int)), (37, aI (w64 (i93 + (1 : Int))))]) (L' := [(1002, .cells [.dat (.slice (.int .u32)) x81.1]), (1003, .cells [.dat tI x81.2.1]), (1004, .cells [.dat tI x81.2.2]), (34, .seq tI (List.set x94 (Int.toNat i93) (w64 (v99 + (1 : Int))))), (1998, .seq tI y82)]) (obs := []) (by kernel_rfl) (by kernel_rfl) (by kernel_rfl) allP0 ?_
      exact round_next' (by kernel_rfl) (by kernel_rfl)
    · obtain rfl := stepL_false h98 h
      refine W_exit (id := 2) [4, 10, 11, 13] [1002, 1003, 1004, 34, 1998] (fr' := [(4, .one (.ptr 1002 0)), (10, .one (.ptr 1003 0)), (11, .one (.ptr 1004 0)), (13, .one (.slc 34))]) (L' := [(1002, .cells [.dat (.slice (.int .u32)) x81.1]), (1003, .cells [.dat tI x81.2.1]), (1004, .cells [.dat tI x81.2.2]), (34, .seq tI x94), (1998, .seq tI y82)]) (by kernel_rfl) (by kernel_rfl) ?_
      refine seqQ_exit ?_
      refine round_exit ?_
      exact exQ_mk (by kernel_rfl) (by kernel_rfl)
  · intro e fr L hJ
    obtain ⟨rfl, rfl, rfl⟩ := hJ
    refine LT_keep [4, 10, 11, 13] [1002, 1003, 1004, 34, 1998] (fr' := [(4, .one (.ptr 1002 0)), (10, .one (.ptr 1003 0)), (11, .one (.ptr 1004 0)), (13, .one (.slc 34))]) (L' := [(1002, .cells [.dat (.slice (.int .u32)) x81.1]), (1003, .cells [.dat tI x81.2.1]), (1004, .cells [.dat tI x81.2.2]), (34, .seq tI v102), (1998, .seq tI y82)]) (by kernel_rfl) ?_
    refine blockQ_hit ?_
    refine seqQ_norm ?_
    refine W_seq (by kernel_rfl) ?_
    obtain ⟨v116, h117, h⟩ := bind_of h
    refine W_cutK (Q' := (exQ .normal (lone_Single_s12 x81 y82)) v116) ?_ ?_
    · replace h := h117
      refine W_seq (by kernel_rfl) ?_
      refine W_region (by kernel_rfl) ?_
      refine WO_run (j := 2) (k := 2) (orcs := []) (kF := [10, 11, 48, 49]) (kL := [34, 1002, 1003, 1004, 1998]) (fr' := [(10, .one (.ptr 1003 0)), (11, .one (.ptr 1004 0)), (48, aD (.slice (.int .u32)) x81.1), (49, .one (.slc 34))]) (L' := [(34, .seq tI v102), (1002, .cells [.dat (.slice (.int .u32)) x81.1]), (1003, .cells [.dat tI x81.2.1]), (1004, .cells [.dat tI x81.2.2]), (1998, .seq tI y82)]) (obs := []) rfl (by kernel_rfl) allP0 ?_
      obtain ⟨r113, h114, h⟩ := bind_of h
      refine WO_frz 34 (by kernel_rfl) ?_
      refine WO_call0 (us := [none, none]) (d := 50) (p := True) (j := 3) rfl ⟨by kernel_rfl, by kernel_rfl, by kernel_rfl⟩ trivial (lone_least_ok h114) (by kernel_rfl) ?_
      refine WO_run (j := 8) (k := 5) (orcs := []) (kF := [10, 11, 16]) (kL := [1002, 1003, 1004, 1998]) (fr' := [(10, .one (.ptr 1003 0)), (11, .one (.ptr 1004 0)), (16, aD (.slice (.int .u32)) r113.2)]) (L' := [(1002, .cells [.dat (.slice (.int .u32)) x81.1]), (1003, .cells [.dat tI x81.2.1]), (1004, .cells [.dat tI x81.2.2]), (1998, .seq tI y82)]) (obs := []) rfl (by kernel_rfl) allP0 ?_
      refine WO_fin [10, 11, 16] [1003, 1004, 1002, 1998] (fr' := [(10, .one (.ptr 1003 0)), (11, .one (.ptr 1004 0)), (16, aD (.slice (.int .u32)) r113.2)]) (L' := [(1003, .cells [.dat tI x81.2.1]), (1004, .cells [.dat tI x81.2.2]), (1002, .cells [.dat (.slice (.int .u32)) x81.1]), (1998, .seq tI y82)]) (by kernel_rfl) (by kernel_rfl) ?_
      refine seqQ_norm ?_
      refine W_seq (by kernel_rfl) ?_
      refine W_run 3 [] [10, 11, 55] [1003, 1004, 1002, 1998] (fr' := [(10, .one (.ptr 1003 0)), (11, .one (.ptr 1004 0)), (55, aB ((List.length r113.2 : Int) == (1 : Int)))]) (L' := [(1003, .cells [.dat tI x81.2.1]), (1004, .cells [.dat tI x81.2.2]), (1002, .cells [.dat (.slice (.int .u32)) x81.1]), (1998, .seq tI y82)]) (obs := []) (by kernel_rfl) (by kernel_rfl) (by kernel_rfl) allP0 ?_
      refine seqQ_norm ?_
      refine W_cond (o := .tmp 55) (b := (List.length r113.2 : Int) == (1 : Int)) (by kernel_rfl) (by kernel_rfl) (fun h115 => ?_) (fun h115 => ?_)
      · replace h := ofT h115 h
        obtain rfl := Option.some.inj h
        refine W_run 3 [] [11] [1004, 1002, 1003, 1998] (fr' := [(11, .one (.ptr 1004 0))]) (L' := [(1004, .cells [.dat tI x81.2.2]), (1002, .cells [.dat (.slice (.int .u32)) x81.1]), (1003, .cells [.dat tI (w64 (x81.2.1 + (1 : Int)))]), (1998, .seq tI y82)]) (obs := [True]) (by kernel_rfl) (by kernel_rfl) (by kernel_rfl) (allP1 trivial) ?_
        exact exQ_mk (by kernel_rfl) (by kernel_rfl)
      · replace h := ofF h115 h
        obtain rfl := Option.some.inj h
        refine W_skip [11] [1004, 1002, 1003, 1998] (fr' := [(11, .one (.ptr 1004 0))]) (L' := [(1004, .cells [.dat tI x81.2.2]), (1002, .cells [.dat (.slice (.int .u32)) x81.1]), (1003, .cells [.dat tI x81.2.1]), (1998, .seq tI y82)]) (by kernel_rfl) (by kernel_rfl) ?_
        exact exQ_mk (by kernel_rfl) (by kernel_rfl)
    · intro e fr L hJ
      obtain ⟨rfl, rfl, rfl⟩ := hJ
      refine LT_keep [11] [1004, 1002, 1003, 1998] (fr' := [(11, .one (.ptr 1004 0))]) (L' := [(1004, .cells [.dat tI x81.2.2]), (1002, .cells [.dat (.slice (.int .u32)) x81.1]), (1003, .cells [.dat tI v116]), (1998, .seq tI y82)]) (by kernel_rfl) ?_
      refine seqQ_norm ?_
      obtain rfl := Option.some.inj h
      refine W_run 3 [] [] [1002, 1003, 1004, 1998] (fr' := []) (L' := [(1002, .cells [.dat (.slice (.int .u32)) x81.1]), (1003, .cells [.dat tI v116]), (1004, .cells [.dat tI (w64 (x81.2.2 + (1 : Int)))]), (1998, .seq tI y82)]) (obs := [True]) (by kernel_rfl) (by kernel_rfl) (by kernel_rfl) (allP1 trivial) ?_
      refine blockQ_norm ?_
      exact bodyQ_mk ⟨rfl, rfl⟩ (by kernel_rfl)
noncomputable def lone_Single (fuel : Nat) (a0 : Int) (a1 : (List Int)) (a2 : Int) : Option (Int × Int × Int) :=
(lone_wrong a0 a1).bind fun r1 =>
bif r1 != (0 : Int) then
(some ((0 : Int), (0 : Int), r1))
else
(bif (decide (a2 < (1 : Int))) || (decide (a2 > (6 : Int))) then
(some ((0 : Int), (0 : Int), (2 : Int)))
else
((lone_choices a0 a2).bind fun r5 =>
(lone_choices_1_for_lone_Single lone_Single_r13 fuel r5.1 r5.2 (a1, (0 : Int), (0 : Int))).bind fun r118 =>
some (r118.2.1, r118.2.2, (0 : Int))))
theorem lone_Single_ok {fuel : Nat} {a0 : Int} {a1 : (List Int)} {a2 : Int} {r : (Int × Int × Int)} (h : lone_Single fuel a0 a1 a2 = some r) : FnC Try.prog 22 [aI a0, aD (.slice (.int .u32)) a1, aI a2] [] (.tup [.dat tI r.1, .dat tI r.2.1, .dat tI r.2.2]) [] := by
  refine fnC_of_W (B := bodyOf Try.f22) (n := 62) Try.func22 (by kernel_rfl) (by kernel_rfl) (by kernel_rfl) (by kernel_rfl) (by kernel_rfl) ?_
  intro K
  refine W_seq (by kernel_rfl) ?_
  refine W_run 4 [] [0, 2, 4] [4] (fr' := [(0, aI a0), (2, aI a2), (4, .one (.ptr 4 0))]) (L' := [(4, .cells [.dat (.slice (.int .u32)) a1])]) (obs := []) (by kernel_rfl) (by kernel_rfl) (by kernel_rfl) allP0 ?_
  refine seqQ_norm ?_
  refine W_seq (by kernel_rfl) ?_
  refine W_seq (by kernel_rfl) ?_
  refine W_region (by kernel_rfl) ?_
  refine WO_run (j := 2) (k := 2) (orcs := []) (kF := [0, 2, 4, 17, 18]) (kL := [4]) (fr' := [(0, aI a0), (2, aI a2), (4, .one (.ptr 4 0)), (17, aI a0), (18, aD (.slice (.int .u32)) a1)]) (L' := [(4, .cells [.dat (.slice (.int .u32)) a1])]) (obs := []) rfl (by kernel_rfl) allP0 ?_
  obtain ⟨r1, h2, h⟩ := bind_of h
  refine WO_call0 (us := [none, none]) (d := 19) (p := True) (j := 3) rfl ⟨by kernel_rfl, by kernel_rfl, by kernel_rfl⟩ trivial (lone_wrong_ok h2) (by kernel_rfl) ?_
  refine WO_run (j := 4) (k := 1) (orcs := []) (kF := [0, 2, 4, 9]) (kL := [4]) (fr' := [(0, aI a0), (2, aI a2), (4, .one (.ptr 4 0)), (9, aI r1)]) (L' := [(4, .cells [.dat (.slice (.int .u32)) a1])]) (obs := []) rfl (by kernel_rfl) allP0 ?_
  refine WO_fin [0, 2, 4, 9] [4] (fr' := [(0, aI a0), (2, aI a2), (4, .one (.ptr 4 0)), (9, aI r1)]) (L' := [(4, .cells [.dat (.slice (.int .u32)) a1])]) (by kernel_rfl) (by kernel_rfl) ?_
  refine seqQ_norm ?_
  refine W_seq (by kernel_rfl) ?_
  refine W_run 2 [] [0, 2, 4, 9, 21] [4] (fr' := [(0, aI a0), (2, aI a2), (4, .one (.ptr 4 0)), (9, aI r1), (21, aB (r1 != (0 : Int)))]) (L' := [(4, .cells [.dat (.slice (.int .u32)) a1])]) (obs := []) (by kernel_rfl) (by kernel_rfl) (by kernel_rfl) allP0 ?_
  refine seqQ_norm ?_
  refine W_cond (o := .tmp 21) (b := r1 != (0 : Int)) (by kernel_rfl) (by kernel_rfl) (fun h3 => ?_) (fun h3 => ?_)
  · replace h := ofT h3 h
    refine W_seq (by kernel_rfl) ?_
    refine W_run 4 [] [6, 7, 8] [] (fr' := [(6, aI (0 : Int)), (7, aI (0 : Int)), (8, aI r1)]) (L' := []) (obs := []) (by kernel_rfl) (by kernel_rfl) (by kernel_rfl) allP0 ?_
    refine seqQ_norm ?_
    obtain rfl := Option.some.inj h
    refine W_ret [6, 7, 8] [] (fr' := [(6, aI (0 : Int)), (7, aI (0 : Int)), (8, aI r1)]) (L' := []) (by kernel_rfl) (by kernel_rfl) ?_
    refine seqQ_ret ?_
    exact retQ_mk (by kernel_rfl) (by kernel_rfl) (by kernel_rfl)
  · replace h := ofF h3 h
    refine W_skip [0, 2, 4] [4] (fr' := [(0, aI a0), (2, aI a2), (4, .one (.ptr 4 0))]) (L' := [(4, .cells [.dat (.slice (.int .u32)) a1])]) (by kernel_rfl) (by kernel_rfl) ?_
    refine seqQ_norm ?_
    refine W_seq (by kernel_rfl) ?_
    refine W_seq (by kernel_rfl) ?_
    refine W_run 6 [] [0, 2, 4, 28] [4] (fr' := [(0, aI a0), (2, aI a2), (4, .one (.ptr 4 0)), (28, aB ((decide (a2 < (1 : Int))) || (decide (a2 > (6 : Int)))))]) (L' := [(4, .cells [.dat (.slice (.int .u32)) a1])]) (obs := []) (by kernel_rfl) (by kernel_rfl) (by kernel_rfl) allP0 ?_
    refine seqQ_norm ?_
    refine W_cond (o := .tmp 28) (b := (decide (a2 < (1 : Int))) || (decide (a2 > (6 : Int)))) (by kernel_rfl) (by kernel_rfl) (fun h4 => ?_) (fun h4 => ?_)
    · replace h := ofT h4 h
      refine W_seq (by kernel_rfl) ?_
      refine W_run 3 [] [6, 7, 8] [] (fr' := [(6, aI (0 : Int)), (7, aI (0 : Int)), (8, aI (2 : Int))]) (L' := []) (obs := []) (by kernel_rfl) (by kernel_rfl) (by kernel_rfl) allP0 ?_
      refine seqQ_norm ?_
      obtain rfl := Option.some.inj h
      refine W_ret [6, 7, 8] [] (fr' := [(6, aI (0 : Int)), (7, aI (0 : Int)), (8, aI (2 : Int))]) (L' := []) (by kernel_rfl) (by kernel_rfl) ?_
      refine seqQ_ret ?_
      exact retQ_mk (by kernel_rfl) (by kernel_rfl) (by kernel_rfl)
    · replace h := ofF h4 h
      refine W_skip [0, 2, 4] [4] (fr' := [(0, aI a0), (2, aI a2), (4, .one (.ptr 4 0))]) (L' := [(4, .cells [.dat (.slice (.int .u32)) a1])]) (by kernel_rfl) (by kernel_rfl) ?_
      refine seqQ_norm ?_
      refine W_seq (by kernel_rfl) ?_
      refine W_run 4 [] [0, 2, 4, 10, 11] [4, 10, 11] (fr' := [(0, aI a0), (2, aI a2), (4, .one (.ptr 4 0)), (10, .one (.ptr 10 0)), (11, .one (.ptr 11 0))]) (L' := [(4, .cells [.dat (.slice (.int .u32)) a1]), (10, .cells [.dat tI (0 : Int)]), (11, .cells [.dat tI (0 : Int)])]) (obs := [True, True]) (by kernel_rfl) (by kernel_rfl) (by kernel_rfl) (allP2 trivial (allP1 trivial)) ?_
      refine seqQ_norm ?_
      refine W_seq (by kernel_rfl) ?_
      refine W_seq (by kernel_rfl) ?_
      refine W_region (by kernel_rfl) ?_
      refine WO_run (j := 2) (k := 2) (orcs := []) (kF := [4, 10, 11, 29, 30]) (kL := [4, 10, 11]) (fr' := [(4, .one (.ptr 4 0)), (10, .one (.ptr 10 0)), (11, .one (.ptr 11 0)), (29, aI a0), (30, aI a2)]) (L' := [(4, .cells [.dat (.slice (.int .u32)) a1]), (10, .cells [.dat tI (0 : Int)]), (11, .cells [.dat tI (0 : Int)])]) (obs := []) rfl (by kernel_rfl) allP0 ?_
      obtain ⟨r5, h6, h⟩ := bind_of h
      refine WO_lend3 [(2, 600), (3, 601)] [2, 3] (us := [none, none]) (d := 31) (p := True) (j := 3) rfl ⟨by kernel_rfl, by kernel_rfl, by kernel_rfl⟩ trivial (lone_choices_ok h6) (by kernel_rfl) (by kernel_rfl) ?_
      refine WO_fin [4, 10, 11, 31] [4, 10, 11, 600, 601] (fr' := [(4, .one (.ptr 4 0)), (10, .one (.ptr 10 0)), (11, .one (.ptr 11 0)), (31, .one (.fn 83 [(600, 0), (601, 0)]))]) (L' := [(4, .cells [.dat (.slice (.int .u32)) a1]), (10, .cells [.dat tI (0 : Int)]), (11, .cells [.dat tI (0 : Int)]), (600, .cells [.dat tI r5.1]), (601, .cells [.dat tI r5.2])]) (by kernel_rfl) (by kernel_rfl) ?_
      refine seqQ_norm ?_
      refine W_block (id := 0) (by kernel_rfl) ?_
      obtain ⟨r118, h119, h⟩ := bind_of h
      refine W_cutK (Q' := fun e fr L => e = .normal ∧ fr = [(4, .one (.ptr 4 0)), (10, .one (.ptr 10 0)), (11, .one (.ptr 11 0)), (31, .one (.fn 83 [(600, 0), (601, 0)]))] ∧ L = [(4, .cells [.dat (.slice (.int .u32)) r118.1]), (10, .cells [.dat tI r118.2.1]), (11, .cells [.dat tI r118.2.2]), (600, .cells [.dat tI r5.1]), (601, .cells [.dat tI r5.2])]) (W_rangeF 990 31 32 83 (asg := (nav (bodyOf Try.f22) [0, 0, 1, 0, 1, 1, 1, 1])) (body := (nav (bodyOf Try.f22) [1, 0, 1, 0, 1, 1, 1, 1])) (caps := [(1000, 0), (1001, 0)]) (fr0 := [(4, .one (.ptr 1002 0)), (10, .one (.ptr 1003 0)), (11, .one (.ptr 1004 0))]) [(1000, 600), (1001, 601), (1002, 4), (1003, 10), (1004, 11), (1999, 990)] (Lin := [(1000, .cells [.dat tI r5.1]), (1001, .cells [.dat tI r5.2])] ++ lone_choices_1_for_lone_Single_SX (a1, (0 : Int), (0 : Int))) (Lout := [(1000, .cells [.dat tI r5.1]), (1001, .cells [.dat tI r5.2])] ++ lone_choices_1_for_lone_Single_SX r118) (R := .tup []) .normal (by kernel_rfl) rfl (Nat.le_refl _) (by kernel_rfl) (by kernel_rfl) (by kernel_rfl) (by kernel_rfl) (fun _ _ _ _ htm => by exact lone_choices_1_for_lone_Single_ok (fun h => lone_Single_r13_ok h) h119 htm) (.inl rfl) (fun _ _ => by kernel_rfl) (fun _ _ _ => by kernel_rfl) rfl [4, 10, 11, 31] [4, 10, 11, 600, 601] (fun _ _ _ => by kernel_rfl) (by kernel_rfl) ⟨rfl, rfl, rfl⟩) ?_
      intro e fr L hJ
      obtain ⟨rfl, rfl, rfl⟩ := hJ
      refine LT_keep [10, 11] [10, 11] (fr' := [(10, .one (.ptr 10 0)), (11, .one (.ptr 11 0))]) (L' := [(10, .cells [.dat tI r118.2.1]), (11, .cells [.dat tI r118.2.2])]) (by kernel_rfl) ?_
      refine blockQ_norm ?_
      refine seqQ_norm ?_
      refine W_seq (by kernel_rfl) ?_
      refine W_draw2 3 [] [] [6, 7, 8] [] (fr' := [(6, aI r118.2.1), (7, aI r118.2.2), (8, aI (0 : Int))]) (L' := []) (out := [(60, aI r118.2.1), (61, aI r118.2.2), (6, aI r118.2.1)]) (obs := []) (obs2 := []) (calls := []) (by kernel_rfl) (by kernel_rfl) (by kernel_rfl) (by kernel_rfl) allP0 allC0 (by kernel_rfl) allP0 ?_
      refine seqQ_norm ?_
      obtain rfl := Option.some.inj h
      refine W_ret [6, 7, 8] [] (fr' := [(6, aI r118.2.1), (7, aI r118.2.2), (8, aI (0 : Int))]) (L' := []) (by kernel_rfl) (by kernel_rfl) ?_
      exact retQ_mk (by kernel_rfl) (by kernel_rfl) (by kernel_rfl)

noncomputable def ref_Within (a0 : Int) (a1 : Int) (a2 : Int) : Option Bool :=
some ((decide (a0 ≤ a1)) && (decide (a1 ≤ a2)))
theorem ref_Within_ok {a0 : Int} {a1 : Int} {a2 : Int} {r : Bool} (h : ref_Within a0 a1 a2 = some r) : FnC Try.prog 20 [aI a0, aI a1, aI a2] [] (aB r) [] := by
  refine fnC_of_W (B := bodyOf Try.f20) (n := 15) Try.func20 (by kernel_rfl) (by kernel_rfl) (by kernel_rfl) (by kernel_rfl) (by kernel_rfl) ?_
  intro K
  refine W_seq (by kernel_rfl) ?_
  refine W_run 1 [] [0, 1, 2] [] (fr' := [(0, aI a0), (1, aI a1), (2, aI a2)]) (L' := []) (obs := []) (by kernel_rfl) (by kernel_rfl) (by kernel_rfl) allP0 ?_
  refine seqQ_norm ?_
  refine W_seq (by kernel_rfl) ?_
  refine W_run 9 [] [6] [] (fr' := [(6, aB ((decide (a0 ≤ a1)) && (decide (a1 ≤ a2))))]) (L' := []) (obs := []) (by kernel_rfl) (by kernel_rfl) (by kernel_rfl) allP0 ?_
  refine seqQ_norm ?_
  obtain rfl := Option.some.inj h
  refine W_ret [6] [] (fr' := [(6, aB ((decide (a0 ≤ a1)) && (decide (a1 ≤ a2))))]) (L' := []) (by kernel_rfl) (by kernel_rfl) ?_
  exact retQ_mk (by kernel_rfl) (by kernel_rfl) (by kernel_rfl)

noncomputable def ref_LoneCheck_g1 (a0 : Int) (a1 : (List Int)) : Option Bool :=
(ref_Within (1 : Int) a0 (5 : Int)).bind fun r11 =>
bif !r11 then
(some true)
else
((ref_Within (1 : Int) (List.length a1 : Int) (200 : Int)).bind fun r14 =>
some (!r14))
noncomputable def ref_LoneCheck_b2 (a0 : Int) (i31 : Int) (v34 : Int) (x32 : Unit) : Option (Flow Unit (Esc Int Unit)) :=
(ck (0 ≤ IntKind.wrap .u64 (a0))).bind fun _ =>
bif decide (v34 ≥ (bShl .u32 (1 : Int) (IntKind.wrap .u64 (a0)))) then
(some (.done (.ret (4 : Int))))
else
(some (.next ()))
@[reducible] noncomputable def ref_LoneCheck_s3 (a0 : Int) (a1 : (List Int)) (v : Int × Unit) : Fr × LL := ([(0, aI a0), (1, aD (.slice (.int .u32)) a1), (18, aD (.slice (.int .u32)) a1), (19, aI (List.length a1 : Int)), (20, aI v.1)], [])
@[reducible] noncomputable def ref_LoneCheck_s4 (v : Int) : Fr × LL := ([(4, aI v)], [])
@[reducible] noncomputable def ref_LoneCheck_s5 (a1 : (List Int)) (v : Unit) : Fr × LL := ([(1, aD (.slice (.int .u32)) a1)], [])
noncomputable def ref_LoneCheck_b12 (a1 : (List Int)) (v91 : Int) (i104 : Int) (x105 : Unit) : Option (Flow Unit (Esc Int Unit)) :=
(idx a1 i104).bind fun v108 =>
bif v91 == v108 then
(some (.done (.ret (3 : Int))))
else
(some (.next ()))
@[reducible] noncomputable def ref_LoneCheck_s13 (a1 : (List Int)) (i88 : Int) (v : Int × Unit) : Fr × LL := ([(1, aD (.slice (.int .u32)) a1), (7, aI i88), (8, aI v.1)], [])
@[reducible] noncomputable def ref_LoneCheck_s14 (v : Int) : Fr × LL := ([(4, aI v)], [])
@[reducible] noncomputable def ref_LoneCheck_s15 (a1 : (List Int)) (i88 : Int) (v : Unit) : Fr × LL := ([(1, aD (.slice (.int .u32)) a1), (7, aI i88)], [])
noncomputable def ref_LoneCheck_b16 (a1 : (List Int)) (i88 : Int) (v91 : Int) (x89 : Unit) : Option (Flow Unit (Esc Int Unit)) :=
(forI (0 : Int) i88 (ref_LoneCheck_b12 a1 v91) (fun x105 => (.brk ())) ()).bind fun v112 =>
match v112 with
| .ret v116 =>
(some (.done (.ret v116)))
| .brk v117 =>
(some (.next ()))
@[reducible] noncomputable def ref_LoneCheck_s17 (a1 : (List Int)) (v : Int × Unit) : Fr × LL := ([(1, aD (.slice (.int .u32)) a1), (7, aI v.1)], [])
@[reducible] noncomputable def ref_LoneCheck_s18 (v : Int) : Fr × LL := ([(4, aI v)], [])
@[reducible] noncomputable def ref_LoneCheck_s19 (v : Unit) : Fr × LL := ([], [])
@[reducible] noncomputable def ref_LoneCheck_s20 (a0 : Int) (a1 : (List Int)) (v : Bool) : Fr × LL := ([(0, aI a0), (1, aD (.slice (.int .u32)) a1), (17, aB v)], [])
noncomputable def ref_LoneCheck (fuel : Nat) (a0 : Int) (a1 : (List Int)) : Option Int :=
(ref_LoneCheck_g1 a0 a1).bind fun v16 =>
bif v16 then
(some (1 : Int))
else
((forL (ref_LoneCheck_b2 a0) (fun x32 => (.brk ())) a1 0 ()).bind fun v40 =>
match v40 with
| .ret v45 =>
(some v45)
| .brk v46 =>
((forL (ref_LoneCheck_b16 a1) (fun x89 => (.brk ())) a1 0 ()).bind fun v119 =>
match v119 with
| .ret v124 =>
(some v124)
| .brk v125 =>
(some (0 : Int))))
theorem ref_LoneCheck_ok {fuel : Nat} {a0 : Int} {a1 : (List Int)} {r : Int} (h : ref_LoneCheck fuel a0 a1 = some r) : FnC Try.prog 16 [aI a0, aD (.slice (.int .u32)) a1] [] (aI r) [] := by
  refine fnC_of_W (B := bodyOf Try.f16) (n := 50) Try.func16 (by kernel_rfl) (by kernel_rfl) (by kernel_rfl) (by kernel_rfl) (by kernel_rfl) ?_
  intro K
  refine W_seq (by kernel_rfl) ?_
  refine W_run 1 [] [0, 1] [] (fr' := [(0, aI a0), (1, aD (.slice (.int .u32)) a1)]) (L' := []) (obs := []) (by kernel_rfl) (by kernel_rfl) (by kernel_rfl) allP0 ?_
  refine seqQ_norm ?_
  refine W_seq (by kernel_rfl) ?_
  refine W_seq (by kernel_rfl) ?_
  obtain ⟨v16, h17, h⟩ := bind_of h
  refine W_cutK (Q' := (exQ .normal (ref_LoneCheck_s20 a0 a1)) v16) ?_ ?_
  · replace h := h17
    refine W_region (by kernel_rfl) ?_
    refine WO_run (j := 1) (k := 1) (orcs := []) (kF := [0, 1, 9]) (kL := []) (fr' := [(0, aI a0), (1, aD (.slice (.int .u32)) a1), (9, aI a0)]) (L' := []) (obs := []) rfl (by kernel_rfl) allP0 ?_
    obtain ⟨r11, h12, h⟩ := bind_of h
    refine WO_call0 (us := [none, none, none]) (d := 10) (p := True) (j := 2) rfl ⟨by kernel_rfl, by kernel_rfl, by kernel_rfl⟩ trivial (ref_Within_ok h12) (by kernel_rfl) ?_
    refine WO_run (j := 4) (k := 2) (orcs := []) (kF := [0, 1, 12]) (kL := []) (fr' := [(0, aI a0), (1, aD (.slice (.int .u32)) a1), (12, aB (!r11))]) (L' := []) (obs := []) rfl (by kernel_rfl) allP0 ?_
    rcases Bool.eq_false_or_eq_true (!r11) with h13 | h13
    · replace h := ofT h13 h
      refine WO_run (j := 9) (k := 5) (orcs := [(8, .known true), (10, .known true), (12, .known true), (14, .known true), (17, .val (.dat .bool true))]) (kF := [0, 1, 17]) (kL := []) (fr' := [(0, aI a0), (1, aD (.slice (.int .u32)) a1), (17, aB true)]) (L' := []) (obs := [((!r11) = true), ((!r11) = true), ((!r11) = true), ((!r11) = true), ((!r11) = true)]) rfl (by kernel_rfl) (allP2 h13 (allP2 h13 (allP2 h13 (allP2 h13 (allP1 h13))))) ?_
      obtain rfl := Option.some.inj h
      refine WO_fin [0, 1, 17] [] (fr' := [(0, aI a0), (1, aD (.slice (.int .u32)) a1), (17, aB true)]) (L' := []) (by kernel_rfl) (by kernel_rfl) ?_
      exact exQ_mk (by kernel_rfl) (by kernel_rfl)
    · replace h := ofF h13 h
      refine WO_run (j := 6) (k := 2) (orcs := [(8, .known false), (10, .known false)]) (kF := [0, 1, 12, 14]) (kL := []) (fr' := [(0, aI a0), (1, aD (.slice (.int .u32)) a1), (12, aB (!r11)), (14, aI (List.length a1 : Int))]) (L' := []) (obs := [((!r11) = false), ((!r11) = false)]) rfl (by kernel_rfl) (allP2 h13 (allP1 h13)) ?_
      obtain ⟨r14, h15, h⟩ := bind_of h
      refine WO_call0 (us := [none, none, none]) (d := 15) (p := ((!r11) = false)) (j := 7) rfl ⟨by kernel_rfl, by kernel_rfl, by kernel_rfl⟩ h13 (ref_Within_ok h15) (by kernel_rfl) ?_
      refine WO_run (j := 9) (k := 2) (orcs := [(14, .known false), (17, .val (.dat .bool false))]) (kF := [0, 1, 17]) (kL := []) (fr' := [(0, aI a0), (1, aD (.slice (.int .u32)) a1), (17, aB (!r14))]) (L' := []) (obs := [((!r11) = false), ((!r11) = false)]) rfl (by kernel_rfl) (allP2 h13 (allP1 h13)) ?_
      obtain rfl := Option.some.inj h
      refine WO_fin [0, 1, 17] [] (fr' := [(0, aI a0), (1, aD (.slice (.int .u32)) a1), (17, aB (!r14))]) (L' := []) (by kernel_rfl) (by kernel_rfl) ?_
      exact exQ_mk (by kernel_rfl) (by kernel_rfl)
  · intro e fr L hJ
    obtain ⟨rfl, rfl, rfl⟩ := hJ
    refine LT_keep [0, 1, 17] [] (fr' := [(0, aI a0), (1, aD (.slice (.int .u32)) a1), (17, aB v16)]) (L' := []) (by kernel_rfl) ?_
    refine seqQ_norm ?_
    refine W_cond (o := .tmp 17) (b := v16) (by kernel_rfl) (by kernel_rfl) (fun h18 => ?_) (fun h18 => ?_)
    · replace h := ofT h18 h
      refine W_seq (by kernel_rfl) ?_
      refine W_run 1 [] [4] [] (fr' := [(4, aI (1 : Int))]) (L' := []) (obs := []) (by kernel_rfl) (by kernel_rfl) (by kernel_rfl) allP0 ?_
      refine seqQ_norm ?_
      obtain rfl := Option.some.inj h
      refine W_ret [4] [] (fr' := [(4, aI (1 : Int))]) (L' := []) (by kernel_rfl) (by kernel_rfl) ?_
      refine seqQ_ret ?_
      exact retQ_mk (by kernel_rfl) (by kernel_rfl) (by kernel_rfl)
    · replace h := ofF h18 h
      refine W_skip [0, 1] [] (fr' := [(0, aI a0), (1, aD (.slice (.int .u32)) a1)]) (L' := []) (by kernel_rfl) (by kernel_rfl) ?_
      refine seqQ_norm ?_
      refine W_seq (by kernel_rfl) ?_
      refine W_seq (by kernel_rfl) ?_
      refine W_run 3 [] [0, 1, 18, 19, 20] [] (fr' := [(0, aI a0), (1, aD (.slice (.int .u32)) a1), (18, aD (.slice (.int .u32)) a1), (19, aI (List.length a1 : Int)), (20, aI (0 : Int))]) (L' := []) (obs := []) (by kernel_rfl) (by kernel_rfl) (by kernel_rfl) allP0 ?_
      refine seqQ_norm ?_
      refine W_block (id := 0) (by kernel_rfl) ?_
      obtain ⟨v40, h41, h⟩ := bind_of h
      refine W_len (t := 18) (u := (.int .u32)) (xs := a1) (by kernel_rfl) (fun h44 => ?_)
      obtain ⟨h42, h43⟩ := forL_iter h44 h41
      refine W_weaken [0, 1, 18, 19, 20] [] (fr' := ((ref_LoneCheck_s3 a0 a1) ((0 : Int), ())).1) (L' := ((ref_LoneCheck_s3 a0 a1) ((0 : Int), ())).2) (by kernel_rfl) ?_
      refine W_cutK (W_loop (S := (ref_LoneCheck_s3 a0 a1)) (J := (escQ (exQ .ret ref_LoneCheck_s4) (exQ (.exit 0) (ref_LoneCheck_s5 a1)))) (by kernel_rfl) ?_ h42 _ v40 h43) ?_
      · rintro ⟨i31, x32⟩ s h
        refine W_seq (by kernel_rfl) ?_
        refine W_run 1 [] [0, 1, 18, 19, 20, 21] [] (fr' := [(0, aI a0), (1, aD (.slice (.int .u32)) a1), (18, aD (.slice (.int .u32)) a1), (19, aI (List.length a1 : Int)), (20, aI i31), (21, aB (decide (i31 < (List.length a1 : Int))))]) (L' := []) (obs := []) (by kernel_rfl) (by kernel_rfl) (by kernel_rfl) allP0 ?_
        refine seqQ_norm ?_
        refine W_seq (by kernel_rfl) ?_
        refine W_cond (o := .tmp 21) (b := decide (i31 < (List.length a1 : Int))) (by kernel_rfl) (by kernel_rfl) (fun h36 => ?_) (fun h36 => ?_)
        · replace h := stepL_true h36 h
          obtain ⟨v34, _, h35, h, rfl⟩ := h
          refine W_skip [0, 1, 18, 19, 20] [] (fr' := [(0, aI a0), (1, aD (.slice (.int .u32)) a1), (18, aD (.slice (.int .u32)) a1), (19, aI (List.length a1 : Int)), (20, aI i31)]) (L' := []) (by kernel_rfl) (by kernel_rfl) ?_
          refine seqQ_norm ?_
          refine W_seq (by kernel_rfl) ?_
          refine W_block (id := 1) (by kernel_rfl) ?_
          refine W_seq (by kernel_rfl) ?_
          refine W_run 3 [(1, .val (.dat (.int .u32) v34))] [0, 1, 6, 18, 19, 20] [] (fr' := [(0, aI a0), (1, aD (.slice (.int .u32)) a1), (6, aD (.int .u32) v34), (18, aD (.slice (.int .u32)) a1), (19, aI (List.length a1 : Int)), (20, aI i31)]) (L' := []) (obs := [Idx a1 i31 v34]) (by kernel_rfl) (by kernel_rfl) (by kernel_rfl) (allP1 (Idx.of h35)) ?_
          refine seqQ_norm ?_
          refine W_seq (by kernel_rfl) ?_
          obtain ⟨_, h37, h⟩ := bind_of h
          replace h37 := ck_some h37
          refine W_run 5 [] [0, 1, 18, 19, 20, 28] [] (fr' := [(0, aI a0), (1, aD (.slice (.int .u32)) a1), (18, aD (.slice (.int .u32)) a1), (19, aI (List.length a1 : Int)), (20, aI i31), (28, aB (decide (v34 ≥ (bShl .u32 (1 : Int) (IntKind.wrap .u64 (a0))))))]) (L' := []) (obs := [(0 ≤ IntKind.wrap .u64 (a0))]) (by kernel_rfl) (by kernel_rfl) (by kernel_rfl) (allP1 h37) ?_
          refine seqQ_norm ?_
          refine W_cond (o := .tmp 28) (b := decide (v34 ≥ (bShl .u32 (1 : Int) (IntKind.wrap .u64 (a0))))) (by kernel_rfl) (by kernel_rfl) (fun h38 => ?_) (fun h38 => ?_)
          · replace h := ofT h38 h
            refine W_seq (by kernel_rfl) ?_
            refine W_run 1 [] [4] [] (fr' := [(4, aI (4 : Int))]) (L' := []) (obs := []) (by kernel_rfl) (by kernel_rfl) (by kernel_rfl) allP0 ?_
            refine seqQ_norm ?_
            obtain rfl := Option.some.inj h
            refine W_ret [4] [] (fr' := [(4, aI (4 : Int))]) (L' := []) (by kernel_rfl) (by kernel_rfl) ?_
            refine blockQ_ret ?_
            refine seqQ_ret ?_
            refine round_ret ?_
            refine escQ_ret ?_
            exact exQ_mk (by kernel_rfl) (by kernel_rfl)
          · replace h := ofF h38 h
            refine W_skip [0, 1, 18, 19, 20] [] (fr' := [(0, aI a0), (1, aD (.slice (.int .u32)) a1), (18, aD (.slice (.int .u32)) a1), (19, aI (List.length a1 : Int)), (20, aI i31)]) (L' := []) (by kernel_rfl) (by kernel_rfl) ?_
            refine blockQ_norm ?_
            refine seqQ_norm ?_
            obtain rfl := Option.some.inj h
            refine W_run 2 [] [0, 1, 18, 19, 20] [] (fr' := [(0, aI a0), (1, aD (.slice (.int .u32)) a1), (18, aD (.slice (.int .u32)) a1), (19, aI (List.length a1 : Int)), (20, aI (w64 (i31 + (1 : Int))))]) (L' := []) (obs := []) (by kernel_rfl) (by kernel_rfl) (by kernel_rfl) allP0 ?_
            exact round_next' (by kernel_rfl) (by kernel_rfl)
        · obtain rfl := stepL_false h36 h
          refine W_exit (id := 0) [1] [] (fr' := [(1, aD (.slice (.int .u32)) a1)]) (L' := []) (by kernel_rfl) (by kernel_rfl) ?_
          refine seqQ_exit ?_
          refine round_exit ?_
          refine escQ_brk ?_
          exact exQ_mk (by kernel_rfl) (by kernel_rfl)
      · intro e fr L hJ
        rcases v40 with v45 | v46
        · obtain ⟨rfl, rfl, rfl⟩ := hJ
          obtain rfl := Option.some.inj h
          refine LT_keep [4] [] (fr' := [(4, aI v45)]) (L' := []) (by kernel_rfl) ?_
          refine blockQ_ret ?_
          refine seqQ_ret ?_
          exact retQ_mk (by kernel_rfl) (by kernel_rfl) (by kernel_rfl)
        · obtain ⟨rfl, rfl, rfl⟩ := hJ
          refine LT_keep [1] [] (fr' := [(1, aD (.slice (.int .u32)) a1)]) (L' := []) (by kernel_rfl) ?_
          refine blockQ_hit ?_
          refine seqQ_norm ?_
          refine W_seq (by kernel_rfl) ?_
          refine W_seq (by kernel_rfl) ?_
          refine W_run 1 [] [1, 7] [] (fr' := [(1, aD (.slice (.int .u32)) a1), (7, aI (0 : Int))]) (L' := []) (obs := []) (by kernel_rfl) (by kernel_rfl) (by kernel_rfl) allP0 ?_
          refine seqQ_norm ?_
          refine W_block (id := 2) (by kernel_rfl) ?_
          obtain ⟨v119, h120, h⟩ := bind_of h
          refine W_len (t := 1) (u := (.int .u32)) (xs := a1) (by kernel_rfl) (fun h123 => ?_)
          obtain ⟨h121, h122⟩ := forL_iter h123 h120
          refine W_weaken [1, 7] [] (fr' := ((ref_LoneCheck_s17 a1) ((0 : Int), ())).1) (L' := ((ref_LoneCheck_s17 a1) ((0 : Int), ())).2) (by kernel_rfl) ?_
          refine W_cutK (W_loop (S := (ref_LoneCheck_s17 a1)) (J := (escQ (exQ .ret ref_LoneCheck_s18) (exQ (.exit 2) ref_LoneCheck_s19))) (by kernel_rfl) ?_ h121 _ v119 h122) ?_
          · rintro ⟨i88, x89⟩ s h
            refine W_seq (by kernel_rfl) ?_
            refine W_seq (by kernel_rfl) ?_
            refine W_run 4 [] [1, 7, 33] [] (fr' := [(1, aD (.slice (.int .u32)) a1), (7, aI i88), (33, aB (decide (i88 < (List.length a1 : Int))))]) (L' := []) (obs := []) (by kernel_rfl) (by kernel_rfl) (by kernel_rfl) allP0 ?_
            refine seqQ_norm ?_
            refine W_cond (o := .tmp 33) (b := decide (i88 < (List.length a1 : Int))) (by kernel_rfl) (by kernel_rfl) (fun h93 => ?_) (fun h93 => ?_)
            · replace h := stepL_true h93 h
              obtain ⟨v91, _, h92, h, rfl⟩ := h
              refine W_skip [1, 7] [] (fr' := [(1, aD (.slice (.int .u32)) a1), (7, aI i88)]) (L' := []) (by kernel_rfl) (by kernel_rfl) ?_
              refine seqQ_norm ?_
              refine W_seq (by kernel_rfl) ?_
              refine W_block (id := 3) (by kernel_rfl) ?_
              refine W_seq (by kernel_rfl) ?_
              refine W_run 1 [] [1, 7, 8] [] (fr' := [(1, aD (.slice (.int .u32)) a1), (7, aI i88), (8, aI (0 : Int))]) (L' := []) (obs := []) (by kernel_rfl) (by kernel_rfl) (by kernel_rfl) allP0 ?_
              refine seqQ_norm ?_
              refine W_block (id := 4) (by kernel_rfl) ?_
              obtain ⟨v112, h113, h⟩ := bind_of h
              obtain ⟨h114, h115⟩ := forI_iter h113
              refine W_weaken [1, 7, 8] [] (fr' := ((ref_LoneCheck_s13 a1 i88) ((0 : Int), ())).1) (L' := ((ref_LoneCheck_s13 a1 i88) ((0 : Int), ())).2) (by kernel_rfl) ?_
              refine W_cutK (W_loop (S := (ref_LoneCheck_s13 a1 i88)) (J := (escQ (exQ .ret ref_LoneCheck_s14) (exQ (.exit 4) (ref_LoneCheck_s15 a1 i88)))) (by kernel_rfl) ?_ h114 _ v112 h115) ?_
              · rintro ⟨i104, x105⟩ s h
                refine W_seq (by kernel_rfl) ?_
                refine W_seq (by kernel_rfl) ?_
                refine W_run 3 [] [1, 7, 8, 38] [] (fr' := [(1, aD (.slice (.int .u32)) a1), (7, aI i88), (8, aI i104), (38, aB (decide (i104 < i88)))]) (L' := []) (obs := []) (by kernel_rfl) (by kernel_rfl) (by kernel_rfl) allP0 ?_
                refine seqQ_norm ?_
                refine W_cond (o := .tmp 38) (b := decide (i104 < i88)) (by kernel_rfl) (by kernel_rfl) (fun h107 => ?_) (fun h107 => ?_)
                · replace h := stepI_true h107 h
                  obtain ⟨_, h, rfl⟩ := h
                  refine W_skip [1, 7, 8] [] (fr' := [(1, aD (.slice (.int .u32)) a1), (7, aI i88), (8, aI i104)]) (L' := []) (by kernel_rfl) (by kernel_rfl) ?_
                  refine seqQ_norm ?_
                  refine W_seq (by kernel_rfl) ?_
                  refine W_block (id := 5) (by kernel_rfl) ?_
                  refine W_seq (by kernel_rfl) ?_
                  obtain ⟨v108, h109, h⟩ := bind_of h
                  refine W_draw2 9 [(5, .val (.dat (.int .u32) v91)), (13, .val (.dat (.int .u32) v108))] [] [1, 7, 8, 49] [] (fr' := [(1, aD (.slice (.int .u32)) a1), (7, aI i88), (8, aI i104), (49, aB (v91 == v108))]) (L' := []) (out := [(41, aD (.slice (.int .u32)) a1), (42, aI i88), (43, .one (.dptr (.int .u32) v91)), (44, aD (.int .u32) v91), (45, aD (.slice (.int .u32)) a1), (46, aI i104), (47, .one (.dptr (.int .u32) v108)), (48, aD (.int .u32) v108), (49, aB (v91 == v108))]) (obs := [Idx a1 i88 v91, Idx a1 i104 v108]) (obs2 := []) (calls := []) (by kernel_rfl) (by kernel_rfl) (by kernel_rfl) (by kernel_rfl) (allP2 (Idx.of h92) (allP1 (Idx.of h109))) allC0 (by kernel_rfl) allP0 ?_
                  refine seqQ_norm ?_
                  refine W_cond (o := .tmp 49) (b := v91 == v108) (by kernel_rfl) (by kernel_rfl) (fun h110 => ?_) (fun h110 => ?_)
                  · replace h := ofT h110 h
                    refine W_seq (by kernel_rfl) ?_
                    refine W_run 1 [] [4] [] (fr' := [(4, aI (3 : Int))]) (L' := []) (obs := []) (by kernel_rfl) (by kernel_rfl) (by kernel_rfl) allP0 ?_
                    refine seqQ_norm ?_
                    obtain rfl := Option.some.inj h
                    refine W_ret [4] [] (fr' := [(4, aI (3 : Int))]) (L' := []) (by kernel_rfl) (by kernel_rfl) ?_
                    refine blockQ_ret ?_
                    refine seqQ_ret ?_
                    refine round_ret ?_
                    refine escQ_ret ?_
                    exact exQ_mk (by kernel_rfl) (by kernel_rfl)
                  · replace h := ofF h110 h
                    refine W_skip [1, 7, 8] [] (fr' := [(1, aD (.slice (.int .u32)) a1), (7, aI i88), (8, aI i104)]) (L' := []) (by kernel_rfl) (by kernel_rfl) ?_
                    refine blockQ_norm ?_
                    refine seqQ_norm ?_
                    obtain rfl := Option.some.inj h
                    refine W_run 3 [] [1, 7, 8] [] (fr' := [(1, aD (.slice (.int .u32)) a1), (7, aI i88), (8, aI (w64 (i104 + (1 : Int))))]) (L' := []) (obs := []) (by kernel_rfl) (by kernel_rfl) (by kernel_rfl) allP0 ?_
                    exact round_next' (by kernel_rfl) (by kernel_rfl)
                · obtain rfl := stepI_false h107 h
                  refine W_exit (id := 4) [1, 7] [] (fr' := [(1, aD (.slice (.int .u32)) a1), (7, aI i88)]) (L' := []) (by kernel_rfl) (by kernel_rfl) ?_
                  refine seqQ_exit ?_
                  refine round_exit ?_
                  refine escQ_brk ?_
                  exact exQ_mk (by kernel_rfl) (by kernel_rfl)
              · intro e fr L hJ
                rcases v112 with v116 | v117
                · obtain ⟨rfl, rfl, rfl⟩ := hJ
                  obtain rfl := Option.some.inj h
                  refine LT_keep [4] [] (fr' := [(4, aI v116)]) (L' := []) (by kernel_rfl) ?_
                  refine blockQ_ret ?_
                  refine blockQ_ret ?_
                  refine seqQ_ret ?_
                  refine round_ret ?_
                  refine escQ_ret ?_
                  exact exQ_mk (by kernel_rfl) (by kernel_rfl)
                · obtain ⟨rfl, rfl, rfl⟩ := hJ
                  refine LT_keep [1, 7] [] (fr' := [(1, aD (.slice (.int .u32)) a1), (7, aI i88)]) (L' := []) (by kernel_rfl) ?_
                  refine blockQ_hit ?_
                  refine blockQ_norm ?_
                  refine seqQ_norm ?_
                  obtain rfl := Option.some.inj h
                  refine W_run 3 [] [1, 7] [] (fr' := [(1, aD (.slice (.int .u32)) a1), (7, aI (w64 (i88 + (1 : Int))))]) (L' := []) (obs := []) (by kernel_rfl) (by kernel_rfl) (by kernel_rfl) allP0 ?_
                  exact round_next' (by kernel_rfl) (by kernel_rfl)
            · obtain rfl := stepL_false h93 h
              refine W_exit (id := 2) [] [] (fr' := []) (L' := []) (by kernel_rfl) (by kernel_rfl) ?_
              refine seqQ_exit ?_
              refine round_exit ?_
              refine escQ_brk ?_
              exact exQ_mk (by kernel_rfl) (by kernel_rfl)
          · intro e fr L hJ
            rcases v119 with v124 | v125
            · obtain ⟨rfl, rfl, rfl⟩ := hJ
              obtain rfl := Option.some.inj h
              refine LT_keep [4] [] (fr' := [(4, aI v124)]) (L' := []) (by kernel_rfl) ?_
              refine blockQ_ret ?_
              refine seqQ_ret ?_
              exact retQ_mk (by kernel_rfl) (by kernel_rfl) (by kernel_rfl)
            · obtain ⟨rfl, rfl, rfl⟩ := hJ
              refine LT_keep [] [] (fr' := []) (L' := []) (by kernel_rfl) ?_
              refine blockQ_hit ?_
              refine seqQ_norm ?_
              refine W_seq (by kernel_rfl) ?_
              refine W_run 1 [] [4] [] (fr' := [(4, aI (0 : Int))]) (L' := []) (obs := []) (by kernel_rfl) (by kernel_rfl) (by kernel_rfl) allP0 ?_
              refine seqQ_norm ?_
              obtain rfl := Option.some.inj h
              refine W_ret [4] [] (fr' := [(4, aI (0 : Int))]) (L' := []) (by kernel_rfl) (by kernel_rfl) ?_
              exact retQ_mk (by kernel_rfl) (by kernel_rfl) (by kernel_rfl)

noncomputable def ref_Power_b1 (a0 : Int) (i5 : Int) (x6 : Int) : Option (Flow Int Int) :=
some (.next (w64 (x6 * a0)))
@[reducible] noncomputable def ref_Power_s2 (a0 : Int) (a1 : Int) (v : Int × Int) : Fr × LL := ([(0, aI a0), (1, aI a1), (5, aI v.2), (6, aI v.1)], [])
@[reducible] noncomputable def ref_Power_s3 (v : Int) : Fr × LL := ([(5, aI v)], [])
noncomputable def ref_Power (a0 : Int) (a1 : Int) : Option Int :=
(forI (0 : Int) a1 (ref_Power_b1 a0) (fun x6 => x6) (1 : Int)).bind fun v10 =>
some v10
theorem ref_Power_ok {a0 : Int} {a1 : Int} {r : Int} (h : ref_Power a0 a1 = some r) : FnC Try.prog 23 [aI a0, aI a1] [] (aI r) [] := by
  refine fnC_of_W (B := bodyOf Try.f23) (n := 16) Try.func23 (by kernel_rfl) (by kernel_rfl) (by kernel_rfl) (by kernel_rfl) (by kernel_rfl) ?_
  intro K
  refine W_seq (by kernel_rfl) ?_
  refine W_run 1 [] [0, 1] [] (fr' := [(0, aI a0), (1, aI a1)]) (L' := []) (obs := []) (by kernel_rfl) (by kernel_rfl) (by kernel_rfl) allP0 ?_
  refine seqQ_norm ?_
  refine W_seq (by kernel_rfl) ?_
  refine W_run 1 [] [0, 1, 5] [] (fr' := [(0, aI a0), (1, aI a1), (5, aI (1 : Int))]) (L' := []) (obs := []) (by kernel_rfl) (by kernel_rfl) (by kernel_rfl) allP0 ?_
  refine seqQ_norm ?_
  refine W_seq (by kernel_rfl) ?_
  refine W_seq (by kernel_rfl) ?_
  refine W_run 1 [] [0, 1, 5, 6] [] (fr' := [(0, aI a0), (1, aI a1), (5, aI (1 : Int)), (6, aI (0 : Int))]) (L' := []) (obs := []) (by kernel_rfl) (by kernel_rfl) (by kernel_rfl) allP0 ?_
  refine seqQ_norm ?_
  refine W_block (id := 0) (by kernel_rfl) ?_
  obtain ⟨v10, h11, h⟩ := bind_of h
  obtain ⟨h12, h13⟩ := forI_iter h11
  refine W_weaken [0, 1, 5, 6] [] (fr' := ((ref_Power_s2 a0 a1) ((0 : Int), (1 : Int))).1) (L' := ((ref_Power_s2 a0 a1) ((0 : Int), (1 : Int))).2) (by kernel_rfl) ?_
  refine W_cutK (W_loop (S := (ref_Power_s2 a0 a1)) (J := (exQ (.exit 0) ref_Power_s3)) (by kernel_rfl) ?_ h12 _ v10 h13) ?_
  · rintro ⟨i5, x6⟩ s h
    refine W_seq (by kernel_rfl) ?_
    refine W_seq (by kernel_rfl) ?_
    refine W_run 3 [] [0, 1, 5, 6, 9] [] (fr' := [(0, aI a0), (1, aI a1), (5, aI x6), (6, aI i5), (9, aB (decide (i5 < a1)))]) (L' := []) (obs := []) (by kernel_rfl) (by kernel_rfl) (by kernel_rfl) allP0 ?_
    refine seqQ_norm ?_
    refine W_cond (o := .tmp 9) (b := decide (i5 < a1)) (by kernel_rfl) (by kernel_rfl) (fun h8 => ?_) (fun h8 => ?_)
    · replace h := stepI_true h8 h
      obtain ⟨_, h, rfl⟩ := h
      refine W_skip [0, 1, 5, 6] [] (fr' := [(0, aI a0), (1, aI a1), (5, aI x6), (6, aI i5)]) (L' := []) (by kernel_rfl) (by kernel_rfl) ?_
      refine seqQ_norm ?_
      refine W_seq (by kernel_rfl) ?_
      refine W_block (id := 1) (by kernel_rfl) ?_
      refine W_run 4 [] [0, 1, 5, 6] [] (fr' := [(0, aI a0), (1, aI a1), (5, aI (w64 (x6 * a0))), (6, aI i5)]) (L' := []) (obs := []) (by kernel_rfl) (by kernel_rfl) (by kernel_rfl) allP0 ?_
      refine blockQ_norm ?_
      refine seqQ_norm ?_
      obtain rfl := Option.some.inj h
      refine W_run 3 [] [0, 1, 5, 6] [] (fr' := [(0, aI a0), (1, aI a1), (5, aI (w64 (x6 * a0))), (6, aI (w64 (i5 + (1 : Int))))]) (L' := []) (obs := []) (by kernel_rfl) (by kernel_rfl) (by kernel_rfl) allP0 ?_
      exact round_next' (by kernel_rfl) (by kernel_rfl)
    · obtain rfl := stepI_false h8 h
      refine W_exit (id := 0) [5] [] (fr' := [(5, aI x6)]) (L' := []) (by kernel_rfl) (by kernel_rfl) ?_
      refine seqQ_exit ?_
      refine round_exit ?_
      exact exQ_mk (by kernel_rfl) (by kernel_rfl)
  · intro e fr L hJ
    obtain ⟨rfl, rfl, rfl⟩ := hJ
    refine LT_keep [5] [] (fr' := [(5, aI v10)]) (L' := []) (by kernel_rfl) ?_
    refine blockQ_hit ?_
    refine seqQ_norm ?_
    refine W_seq (by kernel_rfl) ?_
    refine W_run 2 [] [4] [] (fr' := [(4, aI v10)]) (L' := []) (obs := []) (by kernel_rfl) (by kernel_rfl) (by kernel_rfl) allP0 ?_
    refine seqQ_norm ?_
    obtain rfl := Option.some.inj h
    refine W_ret [4] [] (fr' := [(4, aI v10)]) (L' := []) (by kernel_rfl) (by kernel_rfl) ?_
    exact retQ_mk (by kernel_rfl) (by kernel_rfl) (by kernel_rfl)

noncomputable def ref_Dice_b4 (a1 : Int) (i26 : Int) (x27 : (Int × (List Int))) : Option (Flow (Int × (List Int)) (List Int)) :=
(ck (a1 ≠ 0)).bind fun _ =>
(ck ((List.length x27.2 : Int) + 1 ≤ 4294967296)).bind fun _ =>
some (.next (w64 (Int.tdiv x27.1 a1), x27.2 ++ [Int.tmod x27.1 a1]))
@[reducible] noncomputable def ref_Dice_s5 (a0 : Int) (a1 : Int) (v : Int × (Int × (List Int))) : Fr × LL := ([(0, aI a0), (1, aI a1), (2, aI v.2.1), (7, .one (.slc 19)), (8, aI v.1)], [(19, .seq tI v.2.2)])
@[reducible] noncomputable def ref_Dice_s6 (v : (List Int)) : Fr × LL := ([(7, .one (.slc 19))], [(19, .seq tI v)])
noncomputable def ref_Dice (a0 : Int) (a1 : Int) (a2 : Int) : Option (List Int) :=
(forI (0 : Int) a0 (ref_Dice_b4 a1) (fun x27 => x27.2) (a2, [])).bind fun v33 =>
some v33
theorem ref_Dice_ok {a0 : Int} {a1 : Int} {a2 : Int} {r : (List Int)} (h : ref_Dice a0 a1 a2 = some r) : FnC Try.prog 24 [aI a0, aI a1, aI a2] [] (.one (.slc 19)) [(19, .seq tI r)] := by
  refine fnC_of_W (B := bodyOf Try.f24) (n := 24) Try.func24 (by kernel_rfl) (by kernel_rfl) (by kernel_rfl) (by kernel_rfl) (by kernel_rfl) ?_
  intro K
  refine W_seq (by kernel_rfl) ?_
  refine W_run 1 [] [0, 1, 2] [] (fr' := [(0, aI a0), (1, aI a1), (2, aI a2)]) (L' := []) (obs := []) (by kernel_rfl) (by kernel_rfl) (by kernel_rfl) allP0 ?_
  refine seqQ_norm ?_
  refine W_seq (by kernel_rfl) ?_
  refine W_run 1 [] [0, 1, 2, 7] [] (fr' := [(0, aI a0), (1, aI a1), (2, aI a2), (7, .one (.nilS))]) (L' := []) (obs := []) (by kernel_rfl) (by kernel_rfl) (by kernel_rfl) allP0 ?_
  refine seqQ_norm ?_
  refine W_seq (by kernel_rfl) ?_
  refine W_seq (by kernel_rfl) ?_
  refine W_run 1 [] [0, 1, 2, 7, 8] [] (fr' := [(0, aI a0), (1, aI a1), (2, aI a2), (7, .one (.nilS)), (8, aI (0 : Int))]) (L' := []) (obs := []) (by kernel_rfl) (by kernel_rfl) (by kernel_rfl) allP0 ?_
  refine seqQ_norm ?_
  refine W_block (id := 0) (by kernel_rfl) ?_
  obtain ⟨v33, h34, h⟩ := bind_of h
  obtain ⟨h35, h36⟩ := forI_iter h34
  refine W_mine 7 19 tI (by kernel_rfl) ?_
  refine W_weaken [0, 1, 2, 7, 8] [19] (fr' := ((ref_Dice_s5 a0 a1) ((0 : Int), (a2, []))).1) (L' := ((ref_Dice_s5 a0 a1) ((0 : Int), (a2, []))).2) (by kernel_rfl) ?_
  refine W_cutK (W_loop (S := (ref_Dice_s5 a0 a1)) (J := (exQ (.exit 0) ref_Dice_s6)) (by kernel_rfl) ?_ h35 _ v33 h36) ?_
  · rintro ⟨i26, x27⟩ s h
    refine W_seq (by kernel_rfl) ?_
    refine W_seq (by kernel_rfl) ?_
    refine W_run 3 [] [0, 1, 2, 7, 8, 11] [19] (fr' := [(0, aI a0), (1, aI a1), (2, aI x27.1), (7, .one (.slc 19)), (8, aI i26), (11, aB (decide (i26 < a0)))]) (L' := [(19, .seq tI x27.2)]) (obs := []) (by kernel_rfl) (by kernel_rfl) (by kernel_rfl) allP0 ?_
    refine seqQ_norm ?_
    refine W_cond (o := .tmp 11) (b := decide (i26 < a0)) (by kernel_rfl) (by kernel_rfl) (fun h29 => ?_) (fun h29 => ?_)
    · replace h := stepI_true h29 h
      obtain ⟨_, h, rfl⟩ := h
      refine W_skip [0, 1, 2, 7, 8] [19] (fr' := [(0, aI a0), (1, aI a1), (2, aI x27.1), (7, .one (.slc 19)), (8, aI i26)]) (L' := [(19, .seq tI x27.2)]) (by kernel_rfl) (by kernel_rfl) ?_
      refine seqQ_norm ?_
      refine W_seq (by kernel_rfl) ?_
      refine W_block (id := 1) (by kernel_rfl) ?_
      refine W_seq (by kernel_rfl) ?_
      obtain ⟨_, h30, h⟩ := bind_of h
      replace h30 := ck_some h30
      obtain ⟨_, h31, h⟩ := bind_of h
      replace h31 := ck_some h31
      refine W_run 7 [] [0, 1, 2, 7, 8] [19] (fr' := [(0, aI a0), (1, aI a1), (2, aI x27.1), (7, .one (.slc 19)), (8, aI i26)]) (L' := [(19, .seq tI (x27.2 ++ [Int.tmod x27.1 a1]))]) (obs := [(a1 ≠ 0), SmallLen (List.length x27.2 + List.length [Int.tmod x27.1 a1])]) (by kernel_rfl) (by kernel_rfl) (by kernel_rfl) (allP2 h30 (allP1 h31)) ?_
      refine seqQ_norm ?_
      refine W_run 4 [] [0, 1, 2, 7, 8] [19] (fr' := [(0, aI a0), (1, aI a1), (2, aI (w64 (Int.tdiv x27.1 a1))), (7, .one (.slc 19)), (8, aI i26)]) (L' := [(19, .seq tI (x27.2 ++ [Int.tmod x27.1 a1]))]) (obs := [(a1 ≠ 0)]) (by kernel_rfl) (by kernel_rfl) (by kernel_rfl) (allP1 h30) ?_
      refine blockQ_norm ?_
      refine seqQ_norm ?_
      obtain rfl := Option.some.inj h
      refine W_run 3 [] [0, 1, 2, 7, 8] [19] (fr' := [(0, aI a0), (1, aI a1), (2, aI (w64 (Int.tdiv x27.1 a1))), (7, .one (.slc 19)), (8, aI (w64 (i26 + (1 : Int))))]) (L' := [(19, .seq tI (x27.2 ++ [Int.tmod x27.1 a1]))]) (obs := []) (by kernel_rfl) (by kernel_rfl) (by kernel_rfl) allP0 ?_
      exact round_next' (by kernel_rfl) (by kernel_rfl)
    · obtain rfl := stepI_false h29 h
      refine W_exit (id := 0) [7] [19] (fr' := [(7, .one (.slc 19))]) (L' := [(19, .seq tI x27.2)]) (by kernel_rfl) (by kernel_rfl) ?_
      refine seqQ_exit ?_
      refine round_exit ?_
      exact exQ_mk (by kernel_rfl) (by kernel_rfl)
  · intro e fr L hJ
    obtain ⟨rfl, rfl, rfl⟩ := hJ
    refine LT_keep [7] [19] (fr' := [(7, .one (.slc 19))]) (L' := [(19, .seq tI v33)]) (by kernel_rfl) ?_
    refine blockQ_hit ?_
    refine seqQ_norm ?_
    refine W_seq (by kernel_rfl) ?_
    refine W_run 2 [] [6] [19] (fr' := [(6, .one (.slc 19))]) (L' := [(19, .seq tI v33)]) (obs := []) (by kernel_rfl) (by kernel_rfl) (by kernel_rfl) allP0 ?_
    refine seqQ_norm ?_
    obtain rfl := Option.some.inj h
    refine W_ret [6] [19] (fr' := [(6, .one (.slc 19))]) (L' := [(19, .seq tI v33)]) (by kernel_rfl) (by kernel_rfl) ?_
    exact retQ_mk (by kernel_rfl) (by kernel_rfl) (by kernel_rfl)

noncomputable def ref_Bit (a0 : Int) (a1 : Int) : Option Bool :=
bif (decide (a1 ≥ (0 : Int))) && (decide (a1 < (63 : Int))) then
((ck (0 ≤ IntKind.wrap .u64 (a1))).bind fun _ =>
some ((bAnd .i64 a0 (bShl .i64 (1 : Int) (IntKind.wrap .u64 (a1)))) != (0 : Int)))
else
(some false)
theorem ref_Bit_ok {a0 : Int} {a1 : Int} {r : Bool} (h : ref_Bit a0 a1 = some r) : FnC Try.prog 82 [aI a0, aI a1] [] (aB r) [] := by
  refine fnC_of_W (B := bodyOf Try.f82) (n := 19) Try.func82 (by kernel_rfl) (by kernel_rfl) (by kernel_rfl) (by kernel_rfl) (by kernel_rfl) ?_
  intro K
  refine W_seq (by kernel_rfl) ?_
  refine W_run 1 [] [0, 1] [] (fr' := [(0, aI a0), (1, aI a1)]) (L' := []) (obs := []) (by kernel_rfl) (by kernel_rfl) (by kernel_rfl) allP0 ?_
  refine seqQ_norm ?_
  refine W_seq (by kernel_rfl) ?_
  refine W_region (by kernel_rfl) ?_
  refine WO_run (j := 7) (k := 7) (orcs := []) (kF := [0, 1, 11]) (kL := []) (fr' := [(0, aI a0), (1, aI a1), (11, aB ((decide (a1 ≥ (0 : Int))) && (decide (a1 < (63 : Int)))))]) (L' := []) (obs := []) rfl (by kernel_rfl) allP0 ?_
  rcases Bool.eq_false_or_eq_true ((decide (a1 ≥ (0 : Int))) && (decide (a1 < (63 : Int)))) with h1 | h1
  · replace h := ofT h1 h
    obtain ⟨_, h2, h⟩ := bind_of h
    replace h2 := ck_some h2
    refine WO_run (j := 15) (k := 8) (orcs := [(14, .known true), (16, .known true), (18, .known true), (20, .known true), (22, .known true), (24, .known true), (27, .val (.dat .bool true))]) (kF := [4]) (kL := []) (fr' := [(4, aB ((bAnd .i64 a0 (bShl .i64 (1 : Int) (IntKind.wrap .u64 (a1)))) != (0 : Int)))]) (L' := []) (obs := [(((decide (a1 ≥ (0 : Int))) && (decide (a1 < (63 : Int)))) = true), (((decide (a1 ≥ (0 : Int))) && (decide (a1 < (63 : Int)))) = true), (((decide (a1 ≥ (0 : Int))) && (decide (a1 < (63 : Int)))) = true), (((decide (a1 ≥ (0 : Int))) && (decide (a1 < (63 : Int)))) = true), (0 ≤ IntKind.wrap .u64 (a1)), (((decide (a1 ≥ (0 : Int))) && (decide (a1 < (63 : Int)))) = true), (((decide (a1 ≥ (0 : Int))) && (decide (a1 < (63 : Int)))) = true), (((decide (a1 ≥ (0 : Int))) && (decide (a1 < (63 : Int)))) = true)]) rfl (by kernel_rfl) (allP2 h1 (allP2 h1 (allP2 h1 (allP2 h1 (allP2 h2 (allP2 h1 (allP2 h1 (allP1 h1)))))))) ?_
    refine WO_fin [4] [] (fr' := [(4, aB ((bAnd .i64 a0 (bShl .i64 (1 : Int) (IntKind.wrap .u64 (a1)))) != (0 : Int)))]) (L' := []) (by kernel_rfl) (by kernel_rfl) ?_
    refine seqQ_norm ?_
    obtain rfl := Option.some.inj h
    refine W_ret [4] [] (fr' := [(4, aB ((bAnd .i64 a0 (bShl .i64 (1 : Int) (IntKind.wrap .u64 (a1)))) != (0 : Int)))]) (L' := []) (by kernel_rfl) (by kernel_rfl) ?_
    exact retQ_mk (by kernel_rfl) (by kernel_rfl) (by kernel_rfl)
  · replace h := ofF h1 h
    refine WO_run (j := 15) (k := 8) (orcs := [(14, .known false), (16, .known false), (18, .known false), (20, .known false), (22, .known false), (24, .known false), (27, .val (.dat .bool false))]) (kF := [4]) (kL := []) (fr' := [(4, aB false)]) (L' := []) (obs := [(((decide (a1 ≥ (0 : Int))) && (decide (a1 < (63 : Int)))) = false), (((decide (a1 ≥ (0 : Int))) && (decide (a1 < (63 : Int)))) = false), (((decide (a1 ≥ (0 : Int))) && (decide (a1 < (63 : Int)))) = false), (((decide (a1 ≥ (0 : Int))) && (decide (a1 < (63 : Int)))) = false), (((decide (a1 ≥ (0 : Int))) && (decide (a1 < (63 : Int)))) = false), (((decide (a1 ≥ (0 : Int))) && (decide (a1 < (63 : Int)))) = false), (((decide (a1 ≥ (0 : Int))) && (decide (a1 < (63 : Int)))) = false)]) rfl (by kernel_rfl) (allP2 h1 (allP2 h1 (allP2 h1 (allP2 h1 (allP2 h1 (allP2 h1 (allP1 h1))))))) ?_
    refine WO_fin [4] [] (fr' := [(4, aB false)]) (L' := []) (by kernel_rfl) (by kernel_rfl) ?_
    refine seqQ_norm ?_
    obtain rfl := Option.some.inj h
    refine W_ret [4] [] (fr' := [(4, aB false)]) (L' := []) (by kernel_rfl) (by kernel_rfl) ?_
    exact retQ_mk (by kernel_rfl) (by kernel_rfl) (by kernel_rfl)

@[reducible] noncomputable def ref_Weigh_s3 (a0 : Int) (a1 : (List Int)) (i39 : Int) (v : Int) : Fr × LL := ([(0, aD (.int .u32) a0), (5, aI v), (8, aD (.slice tI) a1), (9, aI (List.length a1 : Int)), (10, aI i39)], [])
noncomputable def ref_Weigh_b4 (a0 : Int) (i39 : Int) (v42 : Int) (x40 : Int) : Option (Flow Int Int) :=
((ref_Bit (w64 (a0)) i39).bind fun r51 =>
bif r51 then
(some (w64 (x40 + v42)))
else
(some x40)).bind fun v54 =>
some (.next v54)
@[reducible] noncomputable def ref_Weigh_s5 (a0 : Int) (a1 : (List Int)) (v : Int × Int) : Fr × LL := ([(0, aD (.int .u32) a0), (5, aI v.2), (8, aD (.slice tI) a1), (9, aI (List.length a1 : Int)), (10, aI v.1)], [])
@[reducible] noncomputable def ref_Weigh_s6 (v : Int) : Fr × LL := ([(5, aI v)], [])
noncomputable def ref_Weigh (a0 : Int) (a1 : (List Int)) : Option Int :=
(forL (ref_Weigh_b4 a0) (fun x40 => x40) a1 0 (0 : Int)).bind fun v57 =>
some v57
theorem ref_Weigh_ok {a0 : Int} {a1 : (List Int)} {r : Int} (h : ref_Weigh a0 a1 = some r) : FnC Try.prog 56 [aD (.int .u32) a0, aD (.slice tI) a1] [] (aI r) [] := by
  refine fnC_of_W (B := bodyOf Try.f56) (n := 24) Try.func56 (by kernel_rfl) (by kernel_rfl) (by kernel_rfl) (by kernel_rfl) (by kernel_rfl) ?_
  intro K
  refine W_seq (by kernel_rfl) ?_
  refine W_run 1 [] [0, 1] [] (fr' := [(0, aD (.int .u32) a0), (1, aD (.slice tI) a1)]) (L' := []) (obs := []) (by kernel_rfl) (by kernel_rfl) (by kernel_rfl) allP0 ?_
  refine seqQ_norm ?_
  refine W_seq (by kernel_rfl) ?_
  refine W_run 1 [] [0, 1, 5] [] (fr' := [(0, aD (.int .u32) a0), (1, aD (.slice tI) a1), (5, aI (0 : Int))]) (L' := []) (obs := []) (by kernel_rfl) (by kernel_rfl) (by kernel_rfl) allP0 ?_
  refine seqQ_norm ?_
  refine W_seq (by kernel_rfl) ?_
  refine W_seq (by kernel_rfl) ?_
  refine W_run 3 [] [0, 5, 8, 9, 10] [] (fr' := [(0, aD (.int .u32) a0), (5, aI (0 : Int)), (8, aD (.slice tI) a1), (9, aI (List.length a1 : Int)), (10, aI (0 : Int))]) (L' := []) (obs := []) (by kernel_rfl) (by kernel_rfl) (by kernel_rfl) allP0 ?_
  refine seqQ_norm ?_
  refine W_block (id := 0) (by kernel_rfl) ?_
  obtain ⟨v57, h58, h⟩ := bind_of h
  refine W_len (t := 8) (u := tI) (xs := a1) (by kernel_rfl) (fun h61 => ?_)
  obtain ⟨h59, h60⟩ := forL_iter h61 h58
  refine W_weaken [0, 5, 8, 9, 10] [] (fr' := ((ref_Weigh_s5 a0 a1) ((0 : Int), (0 : Int))).1) (L' := ((ref_Weigh_s5 a0 a1) ((0 : Int), (0 : Int))).2) (by kernel_rfl) ?_
  refine W_cutK (W_loop (S := (ref_Weigh_s5 a0 a1)) (J := (exQ (.exit 0) ref_Weigh_s6)) (by kernel_rfl) ?_ h59 _ v57 h60) ?_
  · rintro ⟨i39, x40⟩ s h
    refine W_seq (by kernel_rfl) ?_
    refine W_run 1 [] [0, 5, 8, 9, 10, 11] [] (fr' := [(0, aD (.int .u32) a0), (5, aI x40), (8, aD (.slice tI) a1), (9, aI (List.length a1 : Int)), (10, aI i39), (11, aB (decide (i39 < (List.length a1 : Int))))]) (L' := []) (obs := []) (by kernel_rfl) (by kernel_rfl) (by kernel_rfl) allP0 ?_
    refine seqQ_norm ?_
    refine W_seq (by kernel_rfl) ?_
    refine W_cond (o := .tmp 11) (b := decide (i39 < (List.length a1 : Int))) (by kernel_rfl) (by kernel_rfl) (fun h44 => ?_) (fun h44 => ?_)
    · replace h := stepL_true h44 h
      obtain ⟨v42, _, h43, h, rfl⟩ := h
      refine W_skip [0, 5, 8, 9, 10] [] (fr' := [(0, aD (.int .u32) a0), (5, aI x40), (8, aD (.slice tI) a1), (9, aI (List.length a1 : Int)), (10, aI i39)]) (L' := []) (by kernel_rfl) (by kernel_rfl) ?_
      refine seqQ_norm ?_
      refine W_seq (by kernel_rfl) ?_
      obtain ⟨v54, h55, h⟩ := bind_of h
      refine W_cutK (Q' := (exQ .normal (ref_Weigh_s3 a0 a1 i39)) v54) ?_ ?_
      · replace h := h55
        refine W_block (id := 1) (by kernel_rfl) ?_
        refine W_seq (by kernel_rfl) ?_
        refine W_run 5 [(3, .val (.dat tI v42))] [0, 5, 6, 7, 8, 9, 10] [] (fr' := [(0, aD (.int .u32) a0), (5, aI x40), (6, aI i39), (7, aI v42), (8, aD (.slice tI) a1), (9, aI (List.length a1 : Int)), (10, aI i39)]) (L' := []) (obs := [Idx a1 i39 v42]) (by kernel_rfl) (by kernel_rfl) (by kernel_rfl) (allP1 (Idx.of h43)) ?_
        refine seqQ_norm ?_
        refine W_seq (by kernel_rfl) ?_
        refine W_region (by kernel_rfl) ?_
        refine WO_run (j := 3) (k := 3) (orcs := []) (kF := [0, 5, 7, 8, 9, 10, 16, 17]) (kL := []) (fr' := [(0, aD (.int .u32) a0), (5, aI x40), (7, aI v42), (8, aD (.slice tI) a1), (9, aI (List.length a1 : Int)), (10, aI i39), (16, aI (w64 (a0))), (17, aI i39)]) (L' := []) (obs := []) rfl (by kernel_rfl) allP0 ?_
        obtain ⟨r51, h52, h⟩ := bind_of h
        refine WO_call0 (us := [none, none]) (d := 18) (p := True) (j := 4) rfl ⟨by kernel_rfl, by kernel_rfl, by kernel_rfl⟩ trivial (ref_Bit_ok h52) (by kernel_rfl) ?_
        refine WO_fin [0, 5, 7, 8, 9, 10, 18] [] (fr' := [(0, aD (.int .u32) a0), (5, aI x40), (7, aI v42), (8, aD (.slice tI) a1), (9, aI (List.length a1 : Int)), (10, aI i39), (18, aB r51)]) (L' := []) (by kernel_rfl) (by kernel_rfl) ?_
        refine seqQ_norm ?_
        refine W_cond (o := .tmp 18) (b := r51) (by kernel_rfl) (by kernel_rfl) (fun h53 => ?_) (fun h53 => ?_)
        · replace h := ofT h53 h
          obtain rfl := Option.some.inj h
          refine W_run 4 [] [0, 5, 8, 9, 10] [] (fr' := [(0, aD (.int .u32) a0), (5, aI (w64 (x40 + v42))), (8, aD (.slice tI) a1), (9, aI (List.length a1 : Int)), (10, aI i39)]) (L' := []) (obs := []) (by kernel_rfl) (by kernel_rfl) (by kernel_rfl) allP0 ?_
          refine blockQ_norm ?_
          exact exQ_mk (by kernel_rfl) (by kernel_rfl)
        · replace h := ofF h53 h
          obtain rfl := Option.some.inj h
          refine W_skip [0, 5, 8, 9, 10] [] (fr' := [(0, aD (.int .u32) a0), (5, aI x40), (8, aD (.slice tI) a1), (9, aI (List.length a1 : Int)), (10, aI i39)]) (L' := []) (by kernel_rfl) (by kernel_rfl) ?_
          refine blockQ_norm ?_
          exact exQ_mk (by kernel_rfl) (by kernel_rfl)
      · intro e fr L hJ
        obtain ⟨rfl, rfl, rfl⟩ := hJ
        refine LT_keep [0, 5, 8, 9, 10] [] (fr' := [(0, aD (.int .u32) a0), (5, aI v54), (8, aD (.slice tI) a1), (9, aI (List.length a1 : Int)), (10, aI i39)]) (L' := []) (by kernel_rfl) ?_
        refine seqQ_norm ?_
        obtain rfl := Option.some.inj h
        refine W_run 2 [] [0, 5, 8, 9, 10] [] (fr' := [(0, aD (.int .u32) a0), (5, aI v54), (8, aD (.slice tI) a1), (9, aI (List.length a1 : Int)), (10, aI (w64 (i39 + (1 : Int))))]) (L' := []) (obs := []) (by kernel_rfl) (by kernel_rfl) (by kernel_rfl) allP0 ?_
        exact round_next' (by kernel_rfl) (by kernel_rfl)
    · obtain rfl := stepL_false h44 h
      refine W_exit (id := 0) [5] [] (fr' := [(5, aI x40)]) (L' := []) (by kernel_rfl) (by kernel_rfl) ?_
      refine seqQ_exit ?_
      refine round_exit ?_
      exact exQ_mk (by kernel_rfl) (by kernel_rfl)
  · intro e fr L hJ
    obtain ⟨rfl, rfl, rfl⟩ := hJ
    refine LT_keep [5] [] (fr' := [(5, aI v57)]) (L' := []) (by kernel_rfl) ?_
    refine blockQ_hit ?_
    refine seqQ_norm ?_
    refine W_seq (by kernel_rfl) ?_
    refine W_run 2 [] [4] [] (fr' := [(4, aI v57)]) (L' := []) (obs := []) (by kernel_rfl) (by kernel_rfl) (by kernel_rfl) allP0 ?_
    refine seqQ_norm ?_
    obtain rfl := Option.some.inj h
    refine W_ret [4] [] (fr' := [(4, aI v57)]) (L' := []) (by kernel_rfl) (by kernel_rfl) ?_
    exact retQ_mk (by kernel_rfl) (by kernel_rfl) (by kernel_rfl)

@[reducible] noncomputable def ref_Lightest_s3 (a0 : (List Int)) (a1 : (List Int)) (i49 : Int) (v : Int) : Fr × LL := ([(0, aD (.slice (.int .u32)) a0), (1, aD (.slice tI) a1), (6, aI v), (17, aD (.slice (.int .u32)) a0), (18, aI (List.length a0 : Int)), (19, aI i49)], [])
noncomputable def ref_Lightest_b4 (a1 : (List Int)) (i49 : Int) (v52 : Int) (x50 : Int) : Option (Flow Int Int) :=
((ref_Weigh v52 a1).bind fun r65 =>
bif decide (r65 < x50) then
((ref_Weigh v52 a1).bind fun r68 =>
some r68)
else
(some x50)).bind fun v70 =>
some (.next v70)
@[reducible] noncomputable def ref_Lightest_s5 (a0 : (List Int)) (a1 : (List Int)) (v : Int × Int) : Fr × LL := ([(0, aD (.slice (.int .u32)) a0), (1, aD (.slice tI) a1), (6, aI v.2), (17, aD (.slice (.int .u32)) a0), (18, aI (List.length a0 : Int)), (19, aI v.1)], [])
@[reducible] noncomputable def ref_Lightest_s6 (a0 : (List Int)) (a1 : (List Int)) (v : Int) : Fr × LL := ([(0, aD (.slice (.int .u32)) a0), (1, aD (.slice tI) a1), (6, aI v)], [])
noncomputable def ref_Lightest_g10 (a1 : (List Int)) (v73 : Int) (x114 : (List Int)) (v116 : Int) : Option (List Int) :=
(ref_Weigh v116 a1).bind fun r127 =>
bif r127 == v73 then
((ck ((List.length x114 : Int) + 1 ≤ 4294967296)).bind fun _ =>
some (x114 ++ [v116]))
else
(some x114)
@[reducible] noncomputable def ref_Lightest_s11 (a0 : (List Int)) (a1 : (List Int)) (v73 : Int) (i113 : Int) (v : (List Int)) : Fr × LL := ([(1, aD (.slice tI) a1), (6, aI v73), (9, .one (.slc 46)), (32, aD (.slice (.int .u32)) a0), (33, aI (List.length a0 : Int)), (34, aI i113)], [(46, .seq (.int .u32) v)])
noncomputable def ref_Lightest_b12 (a1 : (List Int)) (v73 : Int) (i113 : Int) (v116 : Int) (x114 : (List Int)) : Option (Flow (List Int) (List Int)) :=
(ref_Lightest_g10 a1 v73 x114 v116).bind fun v131 =>
some (.next v131)
@[reducible] noncomputable def ref_Lightest_s13 (a0 : (List Int)) (a1 : (List Int)) (v73 : Int) (v : Int × (List Int)) : Fr × LL := ([(1, aD (.slice tI) a1), (6, aI v73), (9, .one (.slc 46)), (32, aD (.slice (.int .u32)) a0), (33, aI (List.length a0 : Int)), (34, aI v.1)], [(46, .seq (.int .u32) v.2)])
@[reducible] noncomputable def ref_Lightest_s14 (v73 : Int) (v : (List Int)) : Fr × LL := ([(6, aI v73), (9, .one (.slc 46))], [(46, .seq (.int .u32) v)])
noncomputable def ref_Lightest (a0 : (List Int)) (a1 : (List Int)) : Option (Int × (List Int)) :=
(idx a0 (0 : Int)).bind fun v1 =>
(ref_Weigh v1 a1).bind fun r3 =>
(forL (ref_Lightest_b4 a1) (fun x50 => x50) a0 0 r3).bind fun v73 =>
(forL (ref_Lightest_b12 a1 v73) (fun x114 => x114) a0 0 []).bind fun v134 =>
some (v73, v134)
theorem ref_Lightest_ok {a0 : (List Int)} {a1 : (List Int)} {r : (Int × (List Int))} (h : ref_Lightest a0 a1 = some r) : FnC Try.prog 21 [aD (.slice (.int .u32)) a0, aD (.slice tI) a1] [] (.tup [.dat tI r.1, .dat (.slice (.int .u32)) r.2]) [] := by
  refine fnC_of_W (B := bodyOf Try.f21) (n := 50) Try.func21 (by kernel_rfl) (by kernel_rfl) (by kernel_rfl) (by kernel_rfl) (by kernel_rfl) ?_
  intro K
  refine W_seq (by kernel_rfl) ?_
  refine W_run 2 [] [0, 1] [] (fr' := [(0, aD (.slice (.int .u32)) a0), (1, aD (.slice tI) a1)]) (L' := []) (obs := []) (by kernel_rfl) (by kernel_rfl) (by kernel_rfl) allP0 ?_
  refine seqQ_norm ?_
  refine W_seq (by kernel_rfl) ?_
  obtain ⟨v1, h2, h⟩ := bind_of h
  refine W_region (by kernel_rfl) ?_
  refine WO_run (j := 4) (k := 4) (orcs := [(3, .val (.dat (.int .u32) v1))]) (kF := [0, 1, 14, 15]) (kL := []) (fr' := [(0, aD (.slice (.int .u32)) a0), (1, aD (.slice tI) a1), (14, aD (.int .u32) v1), (15, aD (.slice tI) a1)]) (L' := []) (obs := [Idx a0 (0 : Int) v1]) rfl (by kernel_rfl) (allP1 (Idx.of h2)) ?_
  obtain ⟨r3, h4, h⟩ := bind_of h
  refine WO_call0 (us := [none, none]) (d := 16) (p := True) (j := 5) rfl ⟨by kernel_rfl, by kernel_rfl, by kernel_rfl⟩ trivial (ref_Weigh_ok h4) (by kernel_rfl) ?_
  refine WO_run (j := 6) (k := 1) (orcs := []) (kF := [0, 1, 6]) (kL := []) (fr' := [(0, aD (.slice (.int .u32)) a0), (1, aD (.slice tI) a1), (6, aI r3)]) (L' := []) (obs := []) rfl (by kernel_rfl) allP0 ?_
  refine WO_fin [0, 1, 6] [] (fr' := [(0, aD (.slice (.int .u32)) a0), (1, aD (.slice tI) a1), (6, aI r3)]) (L' := []) (by kernel_rfl) (by kernel_rfl) ?_
  refine seqQ_norm ?_
  refine W_seq (by kernel_rfl) ?_
  refine W_seq (by kernel_rfl) ?_
  refine W_run 3 [] [0, 1, 6, 17, 18, 19] [] (fr' := [(0, aD (.slice (.int .u32)) a0), (1, aD (.slice tI) a1), (6, aI r3), (17, aD (.slice (.int .u32)) a0), (18, aI (List.length a0 : Int)), (19, aI (0 : Int))]) (L' := []) (obs := []) (by kernel_rfl) (by kernel_rfl) (by kernel_rfl) allP0 ?_
  refine seqQ_norm ?_
  refine W_block (id := 0) (by kernel_rfl) ?_
  obtain ⟨v73, h74, h⟩ := bind_of h
  refine W_len (t := 17) (u := (.int .u32)) (xs := a0) (by kernel_rfl) (fun h77 => ?_)
  obtain ⟨h75, h76⟩ := forL_iter h77 h74
  refine W_weaken [0, 1, 6, 17, 18, 19] [] (fr' := ((ref_Lightest_s5 a0 a1) ((0 : Int), r3)).1) (L' := ((ref_Lightest_s5 a0 a1) ((0 : Int), r3)).2) (by kernel_rfl) ?_
  refine W_cutK (W_loop (S := (ref_Lightest_s5 a0 a1)) (J := (exQ (.exit 0) (ref_Lightest_s6 a0 a1))) (by kernel_rfl) ?_ h75 _ v73 h76) ?_
  · rintro ⟨i49, x50⟩ s h
    refine W_seq (by kernel_rfl) ?_
    refine W_run 1 [] [0, 1, 6, 17, 18, 19, 20] [] (fr' := [(0, aD (.slice (.int .u32)) a0), (1, aD (.slice tI) a1), (6, aI x50), (17, aD (.slice (.int .u32)) a0), (18, aI (List.length a0 : Int)), (19, aI i49), (20, aB (decide (i49 < (List.length a0 : Int))))]) (L' := []) (obs := []) (by kernel_rfl) (by kernel_rfl) (by kernel_rfl) allP0 ?_
    refine seqQ_norm ?_
    refine W_seq (by kernel_rfl) ?_
    refine W_cond (o := .tmp 20) (b := decide (i49 < (List.length a0 : Int))) (by kernel_rfl) (by kernel_rfl) (fun h54 => ?_) (fun h54 => ?_)
    · replace h := stepL_true h54 h
      obtain ⟨v52, _, h53, h, rfl⟩ := h
      refine W_skip [0, 1, 6, 17, 18, 19] [] (fr' := [(0, aD (.slice (.int .u32)) a0), (1, aD (.slice tI) a1), (6, aI x50), (17, aD (.slice (.int .u32)) a0), (18, aI (List.length a0 : Int)), (19, aI i49)]) (L' := []) (by kernel_rfl) (by kernel_rfl) ?_
      refine seqQ_norm ?_
      refine W_seq (by kernel_rfl) ?_
      obtain ⟨v70, h71, h⟩ := bind_of h
      refine W_cutK (Q' := (exQ .normal (ref_Lightest_s3 a0 a1 i49)) v70) ?_ ?_
      · replace h := h71
        refine W_block (id := 1) (by kernel_rfl) ?_
        refine W_seq (by kernel_rfl) ?_
        refine W_run 3 [(1, .val (.dat (.int .u32) v52))] [0, 1, 6, 8, 17, 18, 19] [] (fr' := [(0, aD (.slice (.int .u32)) a0), (1, aD (.slice tI) a1), (6, aI x50), (8, aD (.int .u32) v52), (17, aD (.slice (.int .u32)) a0), (18, aI (List.length a0 : Int)), (19, aI i49)]) (L' := []) (obs := [Idx a0 i49 v52]) (by kernel_rfl) (by kernel_rfl) (by kernel_rfl) (allP1 (Idx.of h53)) ?_
        refine seqQ_norm ?_
        refine W_seq (by kernel_rfl) ?_
        refine W_region (by kernel_rfl) ?_
        refine WO_run (j := 2) (k := 2) (orcs := []) (kF := [0, 1, 6, 8, 17, 18, 19, 23, 24]) (kL := []) (fr' := [(0, aD (.slice (.int .u32)) a0), (1, aD (.slice tI) a1), (6, aI x50), (8, aD (.int .u32) v52), (17, aD (.slice (.int .u32)) a0), (18, aI (List.length a0 : Int)), (19, aI i49), (23, aD (.int .u32) v52), (24, aD (.slice tI) a1)]) (L' := []) (obs := []) rfl (by kernel_rfl) allP0 ?_
        obtain ⟨r65, h66, h⟩ := bind_of h
        refine WO_call0 (us := [none, none]) (d := 25) (p := True) (j := 3) rfl ⟨by kernel_rfl, by kernel_rfl, by kernel_rfl⟩ trivial (ref_Weigh_ok h66) (by kernel_rfl) ?_
        refine WO_run (j := 5) (k := 2) (orcs := []) (kF := [0, 1, 6, 8, 17, 18, 19, 27]) (kL := []) (fr' := [(0, aD (.slice (.int .u32)) a0), (1, aD (.slice tI) a1), (6, aI x50), (8, aD (.int .u32) v52), (17, aD (.slice (.int .u32)) a0), (18, aI (List.length a0 : Int)), (19, aI i49), (27, aB (decide (r65 < x50)))]) (L' := []) (obs := []) rfl (by kernel_rfl) allP0 ?_
        refine WO_fin [0, 1, 6, 8, 17, 18, 19, 27] [] (fr' := [(0, aD (.slice (.int .u32)) a0), (1, aD (.slice tI) a1), (6, aI x50), (8, aD (.int .u32) v52), (17, aD (.slice (.int .u32)) a0), (18, aI (List.length a0 : Int)), (19, aI i49), (27, aB (decide (r65 < x50)))]) (L' := []) (by kernel_rfl) (by kernel_rfl) ?_
        refine seqQ_norm ?_
        refine W_cond (o := .tmp 27) (b := decide (r65 < x50)) (by kernel_rfl) (by kernel_rfl) (fun h67 => ?_) (fun h67 => ?_)
        · replace h := ofT h67 h
          refine W_region (by kernel_rfl) ?_
          refine WO_run (j := 2) (k := 2) (orcs := []) (kF := [0, 1, 6, 17, 18, 19, 28, 29]) (kL := []) (fr' := [(0, aD (.slice (.int .u32)) a0), (1, aD (.slice tI) a1), (6, aI x50), (17, aD (.slice (.int .u32)) a0), (18, aI (List.length a0 : Int)), (19, aI i49), (28, aD (.int .u32) v52), (29, aD (.slice tI) a1)]) (L' := []) (obs := []) rfl (by kernel_rfl) allP0 ?_
          obtain ⟨r68, h69, h⟩ := bind_of h
          refine WO_call0 (us := [none, none]) (d := 30) (p := True) (j := 3) rfl ⟨by kernel_rfl, by kernel_rfl, by kernel_rfl⟩ trivial (ref_Weigh_ok h69) (by kernel_rfl) ?_
          refine WO_run (j := 4) (k := 1) (orcs := []) (kF := [0, 1, 6, 17, 18, 19]) (kL := []) (fr' := [(0, aD (.slice (.int .u32)) a0), (1, aD (.slice tI) a1), (6, aI r68), (17, aD (.slice (.int .u32)) a0), (18, aI (List.length a0 : Int)), (19, aI i49)]) (L' := []) (obs := []) rfl (by kernel_rfl) allP0 ?_
          obtain rfl := Option.some.inj h
          refine WO_fin [0, 1, 6, 17, 18, 19] [] (fr' := [(0, aD (.slice (.int .u32)) a0), (1, aD (.slice tI) a1), (6, aI r68), (17, aD (.slice (.int .u32)) a0), (18, aI (List.length a0 : Int)), (19, aI i49)]) (L' := []) (by kernel_rfl) (by kernel_rfl) ?_
          refine blockQ_norm ?_
          exact exQ_mk (by kernel_rfl) (by kernel_rfl)
        · replace h := ofF h67 h
          obtain rfl := Option.some.inj h
          refine W_skip [0, 1, 6, 17, 18, 19] [] (fr' := [(0, aD (.slice (.int .u32)) a0), (1, aD (.slice tI) a1), (6, aI x50), (17, aD (.slice (.int .u32)) a0), (18, aI (List.length a0 : Int)), (19, aI i49)]) (L' := []) (by kernel_rfl) (by kernel_rfl) ?_
          refine blockQ_norm ?_
          exact exQ_mk (by kernel_rfl) (by kernel_rfl)
      · intro e fr L hJ
        obtain ⟨rfl, rfl, rfl⟩ := hJ
        refine LT_keep [0, 1, 6, 17, 18, 19] [] (fr' := [(0, aD (.slice (.int .u32)) a0), (1, aD (.slice tI) a1), (6, aI v70), (17, aD (.slice (.int .u32)) a0), (18, aI (List.length a0 : Int)), (19, aI i49)]) (L' := []) (by kernel_rfl) ?_
        refine seqQ_norm ?_
        obtain rfl := Option.some.inj h
        refine W_run 2 [] [0, 1, 6, 17, 18, 19] [] (fr' := [(0, aD (.slice (.int .u32)) a0), (1, aD (.slice tI) a1), (6, aI v70), (17, aD (.slice (.int .u32)) a0), (18, aI (List.length a0 : Int)), (19, aI (w64 (i49 + (1 : Int))))]) (L' := []) (obs := []) (by kernel_rfl) (by kernel_rfl) (by kernel_rfl) allP0 ?_
        exact round_next' (by kernel_rfl) (by kernel_rfl)
    · obtain rfl := stepL_false h54 h
      refine W_exit (id := 0) [0, 1, 6] [] (fr' := [(0, aD (.slice (.int .u32)) a0), (1, aD (.slice tI) a1), (6, aI x50)]) (L' := []) (by kernel_rfl) (by kernel_rfl) ?_
      refine seqQ_exit ?_
      refine round_exit ?_
      exact exQ_mk (by kernel_rfl) (by kernel_rfl)
  · intro e fr L hJ
    obtain ⟨rfl, rfl, rfl⟩ := hJ
    refine LT_keep [0, 1, 6] [] (fr' := [(0, aD (.slice (.int .u32)) a0), (1, aD (.slice tI) a1), (6, aI v73)]) (L' := []) (by kernel_rfl) ?_
    refine blockQ_hit ?_
    refine seqQ_norm ?_
    refine W_seq (by kernel_rfl) ?_
    refine W_run 1 [] [0, 1, 6, 9] [] (fr' := [(0, aD (.slice (.int .u32)) a0), (1, aD (.slice tI) a1), (6, aI v73), (9, .one (.nilS))]) (L' := []) (obs := []) (by kernel_rfl) (by kernel_rfl) (by kernel_rfl) allP0 ?_
    refine seqQ_norm ?_
    refine W_seq (by kernel_rfl) ?_
    refine W_seq (by kernel_rfl) ?_
    refine W_run 3 [] [1, 6, 9, 32, 33, 34] [] (fr' := [(1, aD (.slice tI) a1), (6, aI v73), (9, .one (.nilS)), (32, aD (.slice (.int .u32)) a0), (33, aI (List.length a0 : Int)), (34, aI (0 : Int))]) (L' := []) (obs := []) (by kernel_rfl) (by kernel_rfl) (by kernel_rfl) allP0 ?_
    refine seqQ_norm ?_
    refine W_block (id := 2) (by kernel_rfl) ?_
    obtain ⟨v134, h135, h⟩ := bind_of h
    refine W_len (t := 32) (u := (.int .u32)) (xs := a0) (by kernel_rfl) (fun h138 => ?_)
    obtain ⟨h136, h137⟩ := forL_iter h138 h135
    refine W_mine 9 46 (.int .u32) (by kernel_rfl) ?_
    refine W_weaken [1, 6, 9, 32, 33, 34] [46] (fr' := ((ref_Lightest_s13 a0 a1 v73) ((0 : Int), [])).1) (L' := ((ref_Lightest_s13 a0 a1 v73) ((0 : Int), [])).2) (by kernel_rfl) ?_
    refine W_cutK (W_loop (S := (ref_Lightest_s13 a0 a1 v73)) (J := (exQ (.exit 2) (ref_Lightest_s14 v73))) (by kernel_rfl) ?_ h136 _ v134 h137) ?_
    · rintro ⟨i113, x114⟩ s h
      refine W_seq (by kernel_rfl) ?_
      refine W_run 1 [] [1, 6, 9, 32, 33, 34, 35] [46] (fr' := [(1, aD (.slice tI) a1), (6, aI v73), (9, .one (.slc 46)), (32, aD (.slice (.int .u32)) a0), (33, aI (List.length a0 : Int)), (34, aI i113), (35, aB (decide (i113 < (List.length a0 : Int))))]) (L' := [(46, .seq (.int .u32) x114)]) (obs := []) (by kernel_rfl) (by kernel_rfl) (by kernel_rfl) allP0 ?_
      refine seqQ_norm ?_
      refine W_seq (by kernel_rfl) ?_
      refine W_cond (o := .tmp 35) (b := decide (i113 < (List.length a0 : Int))) (by kernel_rfl) (by kernel_rfl) (fun h118 => ?_) (fun h118 => ?_)
      · replace h := stepL_true h118 h
        obtain ⟨v116, _, h117, h, rfl⟩ := h
        refine W_skip [1, 6, 9, 32, 33, 34] [46] (fr' := [(1, aD (.slice tI) a1), (6, aI v73), (9, .one (.slc 46)), (32, aD (.slice (.int .u32)) a0), (33, aI (List.length a0 : Int)), (34, aI i113)]) (L' := [(46, .seq (.int .u32) x114)]) (by kernel_rfl) (by kernel_rfl) ?_
        refine seqQ_norm ?_
        refine W_seq (by kernel_rfl) ?_
        obtain ⟨v131, h132, h⟩ := bind_of h
        refine W_cutK (Q' := (exQ .normal (ref_Lightest_s11 a0 a1 v73 i113)) v131) ?_ ?_
        · replace h := h132
          refine W_block (id := 3) (by kernel_rfl) ?_
          refine W_seq (by kernel_rfl) ?_
          refine W_run 3 [(1, .val (.dat (.int .u32) v116))] [1, 6, 9, 11, 32, 33, 34] [46] (fr' := [(1, aD (.slice tI) a1), (6, aI v73), (9, .one (.slc 46)), (11, aD (.int .u32) v116), (32, aD (.slice (.int .u32)) a0), (33, aI (List.length a0 : Int)), (34, aI i113)]) (L' := [(46, .seq (.int .u32) x114)]) (obs := [Idx a0 i113 v116]) (by kernel_rfl) (by kernel_rfl) (by kernel_rfl) (allP1 (Idx.of h117)) ?_
          refine seqQ_norm ?_
          refine W_seq (by kernel_rfl) ?_
          refine W_region (by kernel_rfl) ?_
          refine WO_run (j := 2) (k := 2) (orcs := []) (kF := [1, 6, 9, 11, 32, 33, 34, 38, 39]) (kL := [46]) (fr' := [(1, aD (.slice tI) a1), (6, aI v73), (9, .one (.slc 46)), (11, aD (.int .u32) v116), (32, aD (.slice (.int .u32)) a0), (33, aI (List.length a0 : Int)), (34, aI i113), (38, aD (.int .u32) v116), (39, aD (.slice tI) a1)]) (L' := [(46, .seq (.int .u32) x114)]) (obs := []) rfl (by kernel_rfl) allP0 ?_
          obtain ⟨r127, h128, h⟩ := bind_of h
          refine WO_call0 (us := [none, none]) (d := 40) (p := True) (j := 3) rfl ⟨by kernel_rfl, by kernel_rfl, by kernel_rfl⟩ trivial (ref_Weigh_ok h128) (by kernel_rfl) ?_
          refine WO_run (j := 5) (k := 2) (orcs := []) (kF := [1, 6, 9, 11, 32, 33, 34, 42]) (kL := [46]) (fr' := [(1, aD (.slice tI) a1), (6, aI v73), (9, .one (.slc 46)), (11, aD (.int .u32) v116), (32, aD (.slice (.int .u32)) a0), (33, aI (List.length a0 : Int)), (34, aI i113), (42, aB (r127 == v73))]) (L' := [(46, .seq (.int .u32) x114)]) (obs := []) rfl (by kernel_rfl) allP0 ?_
          refine WO_fin [1, 6, 9, 11, 32, 33, 34, 42] [46] (fr' := [(1, aD (.slice tI) a1), (6, aI v73), (9, .one (.slc 46)), (11, aD (.int .u32) v116), (32, aD (.slice (.int .u32)) a0), (33, aI (List.length a0 : Int)), (34, aI i113), (42, aB (r127 == v73))]) (L' := [(46, .seq (.int .u32) x114)]) (by kernel_rfl) (by kernel_rfl) ?_
          refine seqQ_norm ?_
          refine W_cond (o := .tmp 42) (b := r127 == v73) (by kernel_rfl) (by kernel_rfl) (fun h129 => ?_) (fun h129 => ?_)
          · replace h := ofT h129 h
            obtain ⟨_, h130, h⟩ := bind_of h
            replace h130 := ck_some h130
            obtain rfl := Option.some.inj h
            refine W_run 5 [] [1, 6, 9, 32, 33, 34] [46] (fr' := [(1, aD (.slice tI) a1), (6, aI v73), (9, .one (.slc 46)), (32, aD (.slice (.int .u32)) a0), (33, aI (List.length a0 : Int)), (34, aI i113)]) (L' := [(46, .seq (.int .u32) (x114 ++ [v116]))]) (obs := [SmallLen (List.length x114 + List.length [v116])]) (by kernel_rfl) (by kernel_rfl) (by kernel_rfl) (allP1 h130) ?_
            refine blockQ_norm ?_
            exact exQ_mk (by kernel_rfl) (by kernel_rfl)
          · replace h := ofF h129 h
            obtain rfl := Option.some.inj h
            refine W_skip [1, 6, 9, 32, 33, 34] [46] (fr' := [(1, aD (.slice tI) a1), (6, aI v73), (9, .one (.slc 46)), (32, aD (.slice (.int .u32)) a0), (33, aI (List.length a0 : Int)), (34, aI i113)]) (L' := [(46, .seq (.int .u32) x114)]) (by kernel_rfl) (by kernel_rfl) ?_
            refine blockQ_norm ?_
            exact exQ_mk (by kernel_rfl) (by kernel_rfl)
        · intro e fr L hJ
          obtain ⟨rfl, rfl, rfl⟩ := hJ
          refine LT_keep [1, 6, 9, 32, 33, 34] [46] (fr' := [(1, aD (.slice tI) a1), (6, aI v73), (9, .one (.slc 46)), (32, aD (.slice (.int .u32)) a0), (33, aI (List.length a0 : Int)), (34, aI i113)]) (L' := [(46, .seq (.int .u32) v131)]) (by kernel_rfl) ?_
          refine seqQ_norm ?_
          obtain rfl := Option.some.inj h
          refine W_run 2 [] [1, 6, 9, 32, 33, 34] [46] (fr' := [(1, aD (.slice tI) a1), (6, aI v73), (9, .one (.slc 46)), (32, aD (.slice (.int .u32)) a0), (33, aI (List.length a0 : Int)), (34, aI (w64 (i113 + (1 : Int))))]) (L' := [(46, .seq (.int .u32) v131)]) (obs := []) (by kernel_rfl) (by kernel_rfl) (by kernel_rfl) allP0 ?_
          exact round_next' (by kernel_rfl) (by kernel_rfl)
      · obtain rfl := stepL_false h118 h
        refine W_exit (id := 2) [6, 9] [46] (fr' := [(6, aI v73), (9, .one (.slc 46))]) (L' := [(46, .seq (.int .u32) x114)]) (by kernel_rfl) (by kernel_rfl) ?_
        refine seqQ_exit ?_
        refine round_exit ?_
        exact exQ_mk (by kernel_rfl) (by kernel_rfl)
    · intro e fr L hJ
      obtain ⟨rfl, rfl, rfl⟩ := hJ
      refine LT_keep [6, 9] [46] (fr' := [(6, aI v73), (9, .one (.slc 46))]) (L' := [(46, .seq (.int .u32) v134)]) (by kernel_rfl) ?_
      refine blockQ_hit ?_
      refine seqQ_norm ?_
      refine W_seq (by kernel_rfl) ?_
      refine W_run 4 [] [4, 5] [46] (fr' := [(4, aI v73), (5, .one (.slc 46))]) (L' := [(46, .seq (.int .u32) v134)]) (obs := []) (by kernel_rfl) (by kernel_rfl) (by kernel_rfl) allP0 ?_
      refine seqQ_norm ?_
      obtain rfl := Option.some.inj h
      refine W_frz 46 (by kernel_rfl) ?_
      refine W_ret [4, 5] [] (fr' := [(4, aI v73), (5, aD (.slice (.int .u32)) v134)]) (L' := []) (by kernel_rfl) (by kernel_rfl) ?_
      exact retQ_mk (by kernel_rfl) (by kernel_rfl) (by kernel_rfl)

@[reducible] noncomputable def law_LoneSingles_s3 (a0 : Int) (a1 : (List Int)) (a2 : Int) (r1 : (Int × Int × Int)) (r3 : Int) (v : Bool) : Fr × LL := ([(0, aI a0), (1, aD (.slice (.int .u32)) a1), (2, aI a2), (7, aI r1.1), (8, aI r1.2.1), (9, aI r1.2.2), (10, aI r3), (34, aB v)], [])
noncomputable def law_LoneSingles_g4 (a2 : Int) (r3 : Int) : Option Int :=
(bif r3 == (0 : Int) then
((ref_Within (1 : Int) a2 (6 : Int)).bind fun r36 =>
some (!r36))
else
(some false)).bind fun v38 =>
bif v38 then
(some (2 : Int))
else
(some r3)
noncomputable def law_LoneSingles_g5 (a0 : Int) (a2 : Int) (r1 : (Int × Int × Int)) : Option Bool :=
bif r1.2.2 == (0 : Int) then
((ref_Power a2 a0).bind fun r54 =>
some (((r1.2.1 == r54) && (decide (r1.1 ≥ (0 : Int)))) && (decide (r1.1 ≤ r1.2.1))))
else
(some false)
@[reducible] noncomputable def law_LoneSingles_s6 (v : Bool) : Fr × LL := ([(6, aB v)], [])
noncomputable def law_LoneSingles_b35 (i275 : Int) (x276 : (List Int)) : Option (Flow (List Int) (List Int)) :=
(idx x276 i275).bind fun v279 =>
some (.next (List.set x276 (Int.toNat i275) (w64 (v279 + (1 : Int)))))
@[reducible] noncomputable def law_LoneSingles_s36 (a0 : Int) (a1 : (List Int)) (a2 : Int) (r1 : (Int × Int × Int)) (x136 : (Int × Int)) (v : Int × (List Int)) : Fr × LL := ([(0, aI a0), (1, aD (.slice (.int .u32)) a1), (2, aI a2), (7, aI r1.1), (8, aI r1.2.1), (9, aI r1.2.2), (11, aI x136.1), (12, aI x136.2), (13, .one (.slc 83)), (14, aI v.1)], [(83, .seq tI v.2)])
@[reducible] noncomputable def law_LoneSingles_s37 (a0 : Int) (a1 : (List Int)) (a2 : Int) (r1 : (Int × Int × Int)) (x136 : (Int × Int)) (v : (List Int)) : Fr × LL := ([(0, aI a0), (1, aD (.slice (.int .u32)) a1), (2, aI a2), (7, aI r1.1), (8, aI r1.2.1), (9, aI r1.2.2), (11, aI x136.1), (12, aI x136.2), (13, .one (.slc 83))], [(83, .seq tI v)])
noncomputable def law_LoneSingles_g38 (a0 : Int) (a1 : (List Int)) (a2 : Int) (x136 : (Int × Int)) : Option Int :=
(ref_Dice a0 a2 x136.2).bind fun r265 =>
(forI (0 : Int) a0 law_LoneSingles_b35 (fun x276 => x276) r265).bind fun v282 =>
(ref_Lightest a1 v282).bind fun r286 =>
bif (List.length r286.2 : Int) == (1 : Int) then
(some (w64 (x136.1 + (1 : Int))))
else
(some x136.1)
@[reducible] noncomputable def law_LoneSingles_s39 (a0 : Int) (a1 : (List Int)) (a2 : Int) (r1 : (Int × Int × Int)) (x136 : (Int × Int)) (v : Int) : Fr × LL := ([(0, aI a0), (1, aD (.slice (.int .u32)) a1), (2, aI a2), (7, aI r1.1), (8, aI r1.2.1), (9, aI r1.2.2), (11, aI v), (12, aI x136.2)], [])
noncomputable def law_LoneSingles_b40 (a0 : Int) (a1 : (List Int)) (a2 : Int) (x136 : (Int × Int)) : Option (Flow (Int × Int) Int) :=
(ref_Power a2 a0).bind fun r214 =>
bif decide (x136.2 < r214) then
((law_LoneSingles_g38 a0 a1 a2 x136).bind fun v289 =>
some (.next (v289, w64 (x136.2 + (1 : Int)))))
else
(some (.done x136.1))
@[reducible] noncomputable def law_LoneSingles_s41 (a0 : Int) (a1 : (List Int)) (a2 : Int) (r1 : (Int × Int × Int)) (v : (Int × Int)) : Fr × LL := ([(0, aI a0), (1, aD (.slice (.int .u32)) a1), (2, aI a2), (7, aI r1.1), (8, aI r1.2.1), (9, aI r1.2.2), (11, aI v.1), (12, aI v.2)], [])
@[reducible] noncomputable def law_LoneSingles_s42 (a0 : Int) (a2 : Int) (r1 : (Int × Int × Int)) (v : Int) : Fr × LL := ([(0, aI a0), (2, aI a2), (7, aI r1.1), (8, aI r1.2.1), (9, aI r1.2.2), (11, aI v)], [])
@[reducible] noncomputable def law_LoneSingles_s43 (v : Bool) : Fr × LL := ([(6, aB v)], [])
@[reducible] noncomputable def law_LoneSingles_s44 (a0 : Int) (a1 : (List Int)) (a2 : Int) (r1 : (Int × Int × Int)) (v : Int) : Fr × LL := ([(0, aI a0), (1, aD (.slice (.int .u32)) a1), (2, aI a2), (7, aI r1.1), (8, aI r1.2.1), (9, aI r1.2.2), (10, aI v)], [])
noncomputable def law_LoneSingles (fuel : Nat) (a0 : Int) (a1 : (List Int)) (a2 : Int) : Option Bool :=
(lone_Single fuel a0 a1 a2).bind fun r1 =>
(ref_LoneCheck fuel a0 a1).bind fun r3 =>
(law_LoneSingles_g4 a2 r3).bind fun v41 =>
bif v41 != (0 : Int) then
(some (((r1.2.2 == v41) && (r1.1 == (0 : Int))) && (r1.2.1 == (0 : Int))))
else
((ref_Power a2 a0).bind fun r44 =>
bif decide ((w64 (r44 * (List.length a1 : Int))) > (60000 : Int)) then
((law_LoneSingles_g5 a0 a2 r1).bind fun v56 =>
some v56)
else
((iter (law_LoneSingles_b40 a0 a1 a2) fuel ((0 : Int), (0 : Int))).bind fun v291 =>
(bif r1.2.2 == (0 : Int) then
((ref_Power a2 a0).bind fun r302 =>
some ((r1.2.1 == r302) && (r1.1 == v291)))
else
(some false)).bind fun v304 =>
some v304))
theorem law_LoneSingles_ok {fuel : Nat} {a0 : Int} {a1 : (List Int)} {a2 : Int} {r : Bool} (h : law_LoneSingles fuel a0 a1 a2 = some r) : FnC Try.prog 5 [aI a0, aD (.slice (.int .u32)) a1, aI a2] [] (aB r) [] := by
  refine fnC_of_W (B := bodyOf Try.f5) (n := 122) Try.func5 (by kernel_rfl) (by kernel_rfl) (by kernel_rfl) (by kernel_rfl) (by kernel_rfl) ?_
  intro K
  refine W_seq (by kernel_rfl) ?_
  refine W_run 1 [] [0, 1, 2] [] (fr' := [(0, aI a0), (1, aD (.slice (.int .u32)) a1), (2, aI a2)]) (L' := []) (obs := []) (by kernel_rfl) (by kernel_rfl) (by kernel_rfl) allP0 ?_
  refine seqQ_norm ?_
  refine W_seq (by kernel_rfl) ?_
  refine W_region (by kernel_rfl) ?_
  refine WO_run (j := 3) (k := 3) (orcs := []) (kF := [0, 1, 2, 18, 19, 20]) (kL := []) (fr' := [(0, aI a0), (1, aD (.slice (.int .u32)) a1), (2, aI a2), (18, aI a0), (19, aD (.slice (.int .u32)) a1), (20, aI a2)]) (L' := []) (obs := []) rfl (by kernel_rfl) allP0 ?_
  obtain ⟨r1, h2, h⟩ := bind_of h
  refine WO_call0 (us := [none, none, none]) (d := 21) (p := True) (j := 4) rfl ⟨by kernel_rfl, by kernel_rfl, by kernel_rfl⟩ trivial (lone_Single_ok h2) (by kernel_rfl) ?_
  refine WO_run (j := 11) (k := 7) (orcs := []) (kF := [0, 1, 2, 7, 8, 9]) (kL := []) (fr' := [(0, aI a0), (1, aD (.slice (.int .u32)) a1), (2, aI a2), (7, aI r1.1), (8, aI r1.2.1), (9, aI r1.2.2)]) (L' := []) (obs := []) rfl (by kernel_rfl) allP0 ?_
  refine WO_fin [0, 1, 2, 7, 8, 9] [] (fr' := [(0, aI a0), (1, aD (.slice (.int .u32)) a1), (2, aI a2), (7, aI r1.1), (8, aI r1.2.1), (9, aI r1.2.2)]) (L' := []) (by kernel_rfl) (by kernel_rfl) ?_
  refine seqQ_norm ?_
  refine W_seq (by kernel_rfl) ?_
  refine W_region (by kernel_rfl) ?_
  refine WO_run (j := 2) (k := 2) (orcs := []) (kF := [0, 1, 2, 7, 8, 9, 25, 26]) (kL := []) (fr' := [(0, aI a0), (1, aD (.slice (.int .u32)) a1), (2, aI a2), (7, aI r1.1), (8, aI r1.2.1), (9, aI r1.2.2), (25, aI a0), (26, aD (.slice (.int .u32)) a1)]) (L' := []) (obs := []) rfl (by kernel_rfl) allP0 ?_
  obtain ⟨r3, h4, h⟩ := bind_of h
  refine WO_call0 (us := [none, none]) (d := 27) (p := True) (j := 3) rfl ⟨by kernel_rfl, by kernel_rfl, by kernel_rfl⟩ trivial (ref_LoneCheck_ok h4) (by kernel_rfl) ?_
  refine WO_run (j := 4) (k := 1) (orcs := []) (kF := [0, 1, 2, 7, 8, 9, 10]) (kL := []) (fr' := [(0, aI a0), (1, aD (.slice (.int .u32)) a1), (2, aI a2), (7, aI r1.1), (8, aI r1.2.1), (9, aI r1.2.2), (10, aI r3)]) (L' := []) (obs := []) rfl (by kernel_rfl) allP0 ?_
  refine WO_fin [0, 1, 2, 7, 8, 9, 10] [] (fr' := [(0, aI a0), (1, aD (.slice (.int .u32)) a1), (2, aI a2), (7, aI r1.1), (8, aI r1.2.1), (9, aI r1.2.2), (10, aI r3)]) (L' := []) (by kernel_rfl) (by kernel_rfl) ?_
  refine seqQ_norm ?_
  refine W_seq (by kernel_rfl) ?_
  obtain ⟨v41, h42, h⟩ := bind_of h
  refine W_cutK (Q' := (exQ .normal (law_LoneSingles_s44 a0 a1 a2 r1)) v41) ?_ ?_
  · replace h := h42
    refine W_seq (by kernel_rfl) ?_
    obtain ⟨v38, h39, h⟩ := bind_of h
    refine W_cutK (Q' := (exQ .normal (law_LoneSingles_s3 a0 a1 a2 r1 r3)) v38) ?_ ?_
    · replace h := h39
      refine W_region (by kernel_rfl) ?_
      refine WO_run (j := 3) (k := 3) (orcs := []) (kF := [0, 1, 2, 7, 8, 9, 10, 30]) (kL := []) (fr' := [(0, aI a0), (1, aD (.slice (.int .u32)) a1), (2, aI a2), (7, aI r1.1), (8, aI r1.2.1), (9, aI r1.2.2), (10, aI r3), (30, aB (r3 == (0 : Int)))]) (L' := []) (obs := []) rfl (by kernel_rfl) allP0 ?_
      rcases Bool.eq_false_or_eq_true (r3 == (0 : Int)) with h35 | h35
      · replace h := ofT h35 h
        refine WO_run (j := 4) (k := 1) (orcs := [(6, .known true)]) (kF := [0, 1, 2, 7, 8, 9, 10, 30, 31]) (kL := []) (fr' := [(0, aI a0), (1, aD (.slice (.int .u32)) a1), (2, aI a2), (7, aI r1.1), (8, aI r1.2.1), (9, aI r1.2.2), (10, aI r3), (30, aB (r3 == (0 : Int))), (31, aI a2)]) (L' := []) (obs := [((r3 == (0 : Int)) = true)]) rfl (by kernel_rfl) (allP1 h35) ?_
        obtain ⟨r36, h37, h⟩ := bind_of h
        refine WO_call0 (us := [none, none, none]) (d := 32) (p := ((r3 == (0 : Int)) = true)) (j := 5) rfl ⟨by kernel_rfl, by kernel_rfl, by kernel_rfl⟩ h35 (ref_Within_ok h37) (by kernel_rfl) ?_
        refine WO_run (j := 7) (k := 2) (orcs := [(10, .known true), (13, .val (.dat .bool true))]) (kF := [0, 1, 2, 7, 8, 9, 10, 34]) (kL := []) (fr' := [(0, aI a0), (1, aD (.slice (.int .u32)) a1), (2, aI a2), (7, aI r1.1), (8, aI r1.2.1), (9, aI r1.2.2), (10, aI r3), (34, aB (!r36))]) (L' := []) (obs := [((r3 == (0 : Int)) = true), ((r3 == (0 : Int)) = true)]) rfl (by kernel_rfl) (allP2 h35 (allP1 h35)) ?_
        obtain rfl := Option.some.inj h
        refine WO_fin [0, 1, 2, 7, 8, 9, 10, 34] [] (fr' := [(0, aI a0), (1, aD (.slice (.int .u32)) a1), (2, aI a2), (7, aI r1.1), (8, aI r1.2.1), (9, aI r1.2.2), (10, aI r3), (34, aB (!r36))]) (L' := []) (by kernel_rfl) (by kernel_rfl) ?_
        exact exQ_mk (by kernel_rfl) (by kernel_rfl)
      · replace h := ofF h35 h
        refine WO_run (j := 7) (k := 4) (orcs := [(6, .known false), (8, .known false), (10, .known false), (13, .val (.dat .bool false))]) (kF := [0, 1, 2, 7, 8, 9, 10, 34]) (kL := []) (fr' := [(0, aI a0), (1, aD (.slice (.int .u32)) a1), (2, aI a2), (7, aI r1.1), (8, aI r1.2.1), (9, aI r1.2.2), (10, aI r3), (34, aB false)]) (L' := []) (obs := [((r3 == (0 : Int)) = false), ((r3 == (0 : Int)) = false), ((r3 == (0 : Int)) = false), ((r3 == (0 : Int)) = false)]) rfl (by kernel_rfl) (allP2 h35 (allP2 h35 (allP2 h35 (allP1 h35)))) ?_
        obtain rfl := Option.some.inj h
        refine WO_fin [0, 1, 2, 7, 8, 9, 10, 34] [] (fr' := [(0, aI a0), (1, aD (.slice (.int .u32)) a1), (2, aI a2), (7, aI r1.1), (8, aI r1.2.1), (9, aI r1.2.2), (10, aI r3), (34, aB false)]) (L' := []) (by kernel_rfl) (by kernel_rfl) ?_
        exact exQ_mk (by kernel_rfl) (by kernel_rfl)
    · intro e fr L hJ
      obtain ⟨rfl, rfl, rfl⟩ := hJ
      refine LT_keep [0, 1, 2, 7, 8, 9, 10, 34] [] (fr' := [(0, aI a0), (1, aD (.slice (.int .u32)) a1), (2, aI a2), (7, aI r1.1), (8, aI r1.2.1), (9, aI r1.2.2), (10, aI r3), (34, aB v38)]) (L' := []) (by kernel_rfl) ?_
      refine seqQ_norm ?_
      refine W_cond (o := .tmp 34) (b := v38) (by kernel_rfl) (by kernel_rfl) (fun h40 => ?_) (fun h40 => ?_)
      · replace h := ofT h40 h
        obtain rfl := Option.some.inj h
        refine W_run 1 [] [0, 1, 2, 7, 8, 9, 10] [] (fr' := [(0, aI a0), (1, aD (.slice (.int .u32)) a1), (2, aI a2), (7, aI r1.1), (8, aI r1.2.1), (9, aI r1.2.2), (10, aI (2 : Int))]) (L' := []) (obs := []) (by kernel_rfl) (by kernel_rfl) (by kernel_rfl) allP0 ?_
        exact exQ_mk (by kernel_rfl) (by kernel_rfl)
      · replace h := ofF h40 h
        obtain rfl := Option.some.inj h
        refine W_skip [0, 1, 2, 7, 8, 9, 10] [] (fr' := [(0, aI a0), (1, aD (.slice (.int .u32)) a1), (2, aI a2), (7, aI r1.1), (8, aI r1.2.1), (9, aI r1.2.2), (10, aI r3)]) (L' := []) (by kernel_rfl) (by kernel_rfl) ?_
        exact exQ_mk (by kernel_rfl) (by kernel_rfl)
  · intro e fr L hJ
    obtain ⟨rfl, rfl, rfl⟩ := hJ
    refine LT_keep [0, 1, 2, 7, 8, 9, 10] [] (fr' := [(0, aI a0), (1, aD (.slice (.int .u32)) a1), (2, aI a2), (7, aI r1.1), (8, aI r1.2.1), (9, aI r1.2.2), (10, aI v41)]) (L' := []) (by kernel_rfl) ?_
    refine seqQ_norm ?_
    refine W_seq (by kernel_rfl) ?_
    refine W_seq (by kernel_rfl) ?_
    refine W_run 2 [] [0, 1, 2, 7, 8, 9, 10, 36] [] (fr' := [(0, aI a0), (1, aD (.slice (.int .u32)) a1), (2, aI a2), (7, aI r1.1), (8, aI r1.2.1), (9, aI r1.2.2), (10, aI v41), (36, aB (v41 != (0 : Int)))]) (L' := []) (obs := []) (by kernel_rfl) (by kernel_rfl) (by kernel_rfl) allP0 ?_
    refine seqQ_norm ?_
    refine W_cond (o := .tmp 36) (b := v41 != (0 : Int)) (by kernel_rfl) (by kernel_rfl) (fun h43 => ?_) (fun h43 => ?_)
    · replace h := ofT h43 h
      refine W_seq (by kernel_rfl) ?_
      refine W_run 12 [] [6] [] (fr' := [(6, aB (((r1.2.2 == v41) && (r1.1 == (0 : Int))) && (r1.2.1 == (0 : Int))))]) (L' := []) (obs := []) (by kernel_rfl) (by kernel_rfl) (by kernel_rfl) allP0 ?_
      refine seqQ_norm ?_
      obtain rfl := Option.some.inj h
      refine W_ret [6] [] (fr' := [(6, aB (((r1.2.2 == v41) && (r1.1 == (0 : Int))) && (r1.2.1 == (0 : Int))))]) (L' := []) (by kernel_rfl) (by kernel_rfl) ?_
      refine seqQ_ret ?_
      exact retQ_mk (by kernel_rfl) (by kernel_rfl) (by kernel_rfl)
    · replace h := ofF h43 h
      refine W_skip [0, 1, 2, 7, 8, 9] [] (fr' := [(0, aI a0), (1, aD (.slice (.int .u32)) a1), (2, aI a2), (7, aI r1.1), (8, aI r1.2.1), (9, aI r1.2.2)]) (L' := []) (by kernel_rfl) (by kernel_rfl) ?_
      refine seqQ_norm ?_
      refine W_seq (by kernel_rfl) ?_
      refine W_seq (by kernel_rfl) ?_
      refine W_region (by kernel_rfl) ?_
      refine WO_run (j := 2) (k := 2) (orcs := []) (kF := [0, 1, 2, 7, 8, 9, 48, 49]) (kL := []) (fr' := [(0, aI a0), (1, aD (.slice (.int .u32)) a1), (2, aI a2), (7, aI r1.1), (8, aI r1.2.1), (9, aI r1.2.2), (48, aI a2), (49, aI a0)]) (L' := []) (obs := []) rfl (by kernel_rfl) allP0 ?_
      obtain ⟨r44, h45, h⟩ := bind_of h
      refine WO_call0 (us := [none, none]) (d := 50) (p := True) (j := 3) rfl ⟨by kernel_rfl, by kernel_rfl, by kernel_rfl⟩ trivial (ref_Power_ok h45) (by kernel_rfl) ?_
      refine WO_run (j := 7) (k := 4) (orcs := []) (kF := [0, 1, 2, 7, 8, 9, 54]) (kL := []) (fr' := [(0, aI a0), (1, aD (.slice (.int .u32)) a1), (2, aI a2), (7, aI r1.1), (8, aI r1.2.1), (9, aI r1.2.2), (54, aB (decide ((w64 (r44 * (List.length a1 : Int))) > (60000 : Int))))]) (L' := []) (obs := []) rfl (by kernel_rfl) allP0 ?_
      refine WO_fin [0, 1, 2, 7, 8, 9, 54] [] (fr' := [(0, aI a0), (1, aD (.slice (.int .u32)) a1), (2, aI a2), (7, aI r1.1), (8, aI r1.2.1), (9, aI r1.2.2), (54, aB (decide ((w64 (r44 * (List.length a1 : Int))) > (60000 : Int))))]) (L' := []) (by kernel_rfl) (by kernel_rfl) ?_
      refine seqQ_norm ?_
      refine W_cond (o := .tmp 54) (b := decide ((w64 (r44 * (List.length a1 : Int))) > (60000 : Int))) (by kernel_rfl) (by kernel_rfl) (fun h46 => ?_) (fun h46 => ?_)
      · replace h := ofT h46 h
        refine W_seq (by kernel_rfl) ?_
        obtain ⟨v56, h57, h⟩ := bind_of h
        refine W_cutK (Q' := (exQ .normal law_LoneSingles_s6) v56) ?_ ?_
        · replace h := h57
          refine W_region (by kernel_rfl) ?_
          refine WO_run (j := 3) (k := 3) (orcs := []) (kF := [0, 2, 7, 8, 57]) (kL := []) (fr' := [(0, aI a0), (2, aI a2), (7, aI r1.1), (8, aI r1.2.1), (57, aB (r1.2.2 == (0 : Int)))]) (L' := []) (obs := []) rfl (by kernel_rfl) allP0 ?_
          rcases Bool.eq_false_or_eq_true (r1.2.2 == (0 : Int)) with h53 | h53
          · replace h := ofT h53 h
            refine WO_run (j := 6) (k := 3) (orcs := [(6, .known true), (8, .known true), (10, .known true)]) (kF := [7, 8, 57, 58, 59, 60]) (kL := []) (fr' := [(7, aI r1.1), (8, aI r1.2.1), (57, aB (r1.2.2 == (0 : Int))), (58, aI r1.2.1), (59, aI a2), (60, aI a0)]) (L' := []) (obs := [((r1.2.2 == (0 : Int)) = true), ((r1.2.2 == (0 : Int)) = true), ((r1.2.2 == (0 : Int)) = true)]) rfl (by kernel_rfl) (allP2 h53 (allP2 h53 (allP1 h53))) ?_
            obtain ⟨r54, h55, h⟩ := bind_of h
            refine WO_call0 (us := [none, none]) (d := 61) (p := ((r1.2.2 == (0 : Int)) = true)) (j := 7) rfl ⟨by kernel_rfl, by kernel_rfl, by kernel_rfl⟩ h53 (ref_Power_ok h55) (by kernel_rfl) ?_
            refine WO_run (j := 19) (k := 12) (orcs := [(14, .known true), (17, .val (.dat .bool true))]) (kF := [6]) (kL := []) (fr' := [(6, aB (((r1.2.1 == r54) && (decide (r1.1 ≥ (0 : Int)))) && (decide (r1.1 ≤ r1.2.1))))]) (L' := []) (obs := [((r1.2.2 == (0 : Int)) = true), ((r1.2.2 == (0 : Int)) = true)]) rfl (by kernel_rfl) (allP2 h53 (allP1 h53)) ?_
            obtain rfl := Option.some.inj h
            refine WO_fin [6] [] (fr' := [(6, aB (((r1.2.1 == r54) && (decide (r1.1 ≥ (0 : Int)))) && (decide (r1.1 ≤ r1.2.1))))]) (L' := []) (by kernel_rfl) (by kernel_rfl) ?_
            exact exQ_mk (by kernel_rfl) (by kernel_rfl)
          · replace h := ofF h53 h
            refine WO_run (j := 19) (k := 16) (orcs := [(6, .known false), (8, .known false), (10, .known false), (12, .known false), (14, .known false), (17, .val (.dat .bool false)), (20, .known false), (22, .known false), (25, .val (.dat .bool false)), (28, .known false), (30, .known false), (32, .known false), (35, .val (.dat .bool false))]) (kF := [6]) (kL := []) (fr' := [(6, aB false)]) (L' := []) (obs := [((r1.2.2 == (0 : Int)) = false), ((r1.2.2 == (0 : Int)) = false), ((r1.2.2 == (0 : Int)) = false), ((r1.2.2 == (0 : Int)) = false), ((r1.2.2 == (0 : Int)) = false), ((r1.2.2 == (0 : Int)) = false), (false = false), (false = false), (false = false), (false = false), (false = false), (false = false), (false = false)]) rfl (by kernel_rfl) (allP2 h53 (allP2 h53 (allP2 h53 (allP2 h53 (allP2 h53 (allP2 h53 (allP2 rfl (allP2 rfl (allP2 rfl (allP2 rfl (allP2 rfl (allP2 rfl (allP1 rfl))))))))))))) ?_
            obtain rfl := Option.some.inj h
            refine WO_fin [6] [] (fr' := [(6, aB false)]) (L' := []) (by kernel_rfl) (by kernel_rfl) ?_
            exact exQ_mk (by kernel_rfl) (by kernel_rfl)
        · intro e fr L hJ
          obtain ⟨rfl, rfl, rfl⟩ := hJ
          refine LT_keep [6] [] (fr' := [(6, aB v56)]) (L' := []) (by kernel_rfl) ?_
          refine seqQ_norm ?_
          obtain rfl := Option.some.inj h
          refine W_ret [6] [] (fr' := [(6, aB v56)]) (L' := []) (by kernel_rfl) (by kernel_rfl) ?_
          refine seqQ_ret ?_
          exact retQ_mk (by kernel_rfl) (by kernel_rfl) (by kernel_rfl)
      · replace h := ofF h46 h
        refine W_skip [0, 1, 2, 7, 8, 9] [] (fr' := [(0, aI a0), (1, aD (.slice (.int .u32)) a1), (2, aI a2), (7, aI r1.1), (8, aI r1.2.1), (9, aI r1.2.2)]) (L' := []) (by kernel_rfl) (by kernel_rfl) ?_
        refine seqQ_norm ?_
        refine W_seq (by kernel_rfl) ?_
        refine W_run 1 [] [0, 1, 2, 7, 8, 9, 11] [] (fr' := [(0, aI a0), (1, aD (.slice (.int .u32)) a1), (2, aI a2), (7, aI r1.1), (8, aI r1.2.1), (9, aI r1.2.2), (11, aI (0 : Int))]) (L' := []) (obs := []) (by kernel_rfl) (by kernel_rfl) (by kernel_rfl) allP0 ?_
        refine seqQ_norm ?_
        refine W_seq (by kernel_rfl) ?_
        refine W_seq (by kernel_rfl) ?_
        refine W_run 1 [] [0, 1, 2, 7, 8, 9, 11, 12] [] (fr' := [(0, aI a0), (1, aD (.slice (.int .u32)) a1), (2, aI a2), (7, aI r1.1), (8, aI r1.2.1), (9, aI r1.2.2), (11, aI (0 : Int)), (12, aI (0 : Int))]) (L' := []) (obs := []) (by kernel_rfl) (by kernel_rfl) (by kernel_rfl) allP0 ?_
        refine seqQ_norm ?_
        refine W_block (id := 0) (by kernel_rfl) ?_
        obtain ⟨v291, h292, h⟩ := bind_of h
        refine W_weaken [0, 1, 2, 7, 8, 9, 11, 12] [] (fr' := ((law_LoneSingles_s41 a0 a1 a2 r1) ((0 : Int), (0 : Int))).1) (L' := ((law_LoneSingles_s41 a0 a1 a2 r1) ((0 : Int), (0 : Int))).2) (by kernel_rfl) ?_
        refine W_cutK (W_loop (S := (law_LoneSingles_s41 a0 a1 a2 r1)) (J := (exQ (.exit 0) (law_LoneSingles_s42 a0 a2 r1))) (by kernel_rfl) ?_ fuel _ v291 h292) ?_
        · rintro x136 s h
          refine W_seq (by kernel_rfl) ?_
          refine W_seq (by kernel_rfl) ?_
          refine W_region (by kernel_rfl) ?_
          refine WO_run (j := 3) (k := 3) (orcs := []) (kF := [0, 1, 2, 7, 8, 9, 11, 12, 73, 74, 75]) (kL := []) (fr' := [(0, aI a0), (1, aD (.slice (.int .u32)) a1), (2, aI a2), (7, aI r1.1), (8, aI r1.2.1), (9, aI r1.2.2), (11, aI x136.1), (12, aI x136.2), (73, aI x136.2), (74, aI a2), (75, aI a0)]) (L' := []) (obs := []) rfl (by kernel_rfl) allP0 ?_
          obtain ⟨r214, h215, h⟩ := bind_of h
          refine WO_call0 (us := [none, none]) (d := 76) (p := True) (j := 4) rfl ⟨by kernel_rfl, by kernel_rfl, by kernel_rfl⟩ trivial (ref_Power_ok h215) (by kernel_rfl) ?_
          refine WO_run (j := 5) (k := 1) (orcs := []) (kF := [0, 1, 2, 7, 8, 9, 11, 12, 77]) (kL := []) (fr' := [(0, aI a0), (1, aD (.slice (.int .u32)) a1), (2, aI a2), (7, aI r1.1), (8, aI r1.2.1), (9, aI r1.2.2), (11, aI x136.1), (12, aI x136.2), (77, aB (decide (x136.2 < r214)))]) (L' := []) (obs := []) rfl (by kernel_rfl) allP0 ?_
          refine WO_fin [0, 1, 2, 7, 8, 9, 11, 12, 77] [] (fr' := [(0, aI a0), (1, aD (.slice (.int .u32)) a1), (2, aI a2), (7, aI r1.1), (8, aI r1.2.1), (9, aI r1.2.2), (11, aI x136.1), (12, aI x136.2), (77, aB (decide (x136.2 < r214)))]) (L' := []) (by kernel_rfl) (by kernel_rfl) ?_
          refine seqQ_norm ?_
          refine W_cond (o := .tmp 77) (b := decide (x136.2 < r214)) (by kernel_rfl) (by kernel_rfl) (fun h216 => ?_) (fun h216 => ?_)
          · replace h := ofT h216 h
            refine W_skip [0, 1, 2, 7, 8, 9, 11, 12] [] (fr' := [(0, aI a0), (1, aD (.slice (.int .u32)) a1), (2, aI a2), (7, aI r1.1), (8, aI r1.2.1), (9, aI r1.2.2), (11, aI x136.1), (12, aI x136.2)]) (L' := []) (by kernel_rfl) (by kernel_rfl) ?_
            refine seqQ_norm ?_
            refine W_seq (by kernel_rfl) ?_
            obtain ⟨v289, h290, h⟩ := bind_of h
            refine W_cutK (Q' := (exQ .normal (law_LoneSingles_s39 a0 a1 a2 r1 x136)) v289) ?_ ?_
            · replace h := h290
              refine W_block (id := 1) (by kernel_rfl) ?_
              refine W_seq (by kernel_rfl) ?_
              refine W_region (by kernel_rfl) ?_
              refine WO_run (j := 3) (k := 3) (orcs := []) (kF := [0, 1, 2, 7, 8, 9, 11, 12, 80, 81, 82]) (kL := []) (fr' := [(0, aI a0), (1, aD (.slice (.int .u32)) a1), (2, aI a2), (7, aI r1.1), (8, aI r1.2.1), (9, aI r1.2.2), (11, aI x136.1), (12, aI x136.2), (80, aI a0), (81, aI a2), (82, aI x136.2)]) (L' := []) (obs := []) rfl (by kernel_rfl) allP0 ?_
              obtain ⟨r265, h266, h⟩ := bind_of h
              refine WO_call1 (us := [none, none, none]) (d := 83) (t := 83) (p := True) (j := 4) rfl ⟨by kernel_rfl, by kernel_rfl, by kernel_rfl⟩ trivial (ref_Dice_ok h266) (by kernel_rfl) ?_
              refine WO_run (j := 5) (k := 1) (orcs := []) (kF := [0, 1, 2, 7, 8, 9, 11, 12, 13]) (kL := [83]) (fr' := [(0, aI a0), (1, aD (.slice (.int .u32)) a1), (2, aI a2), (7, aI r1.1), (8, aI r1.2.1), (9, aI r1.2.2), (11, aI x136.1), (12, aI x136.2), (13, .one (.slc 83))]) (L' := [(83, .seq tI r265)]) (obs := []) rfl (by kernel_rfl) allP0 ?_
              refine WO_fin [0, 1, 2, 7, 8, 9, 11, 12, 13] [83] (fr' := [(0, aI a0), (1, aD (.slice (.int .u32)) a1), (2, aI a2), (7, aI r1.1), (8, aI r1.2.1), (9, aI r1.2.2), (11, aI x136.1), (12, aI x136.2), (13, .one (.slc 83))]) (L' := [(83, .seq tI r265)]) (by kernel_rfl) (by kernel_rfl) ?_
              refine seqQ_norm ?_
              refine W_seq (by kernel_rfl) ?_
              refine W_seq (by kernel_rfl) ?_
              refine W_run 1 [] [0, 1, 2, 7, 8, 9, 11, 12, 13, 14] [83] (fr' := [(0, aI a0), (1, aD (.slice (.int .u32)) a1), (2, aI a2), (7, aI r1.1), (8, aI r1.2.1), (9, aI r1.2.2), (11, aI x136.1), (12, aI x136.2), (13, .one (.slc 83)), (14, aI (0 : Int))]) (L' := [(83, .seq tI r265)]) (obs := []) (by kernel_rfl) (by kernel_rfl) (by kernel_rfl) allP0 ?_
              refine seqQ_norm ?_
              refine W_block (id := 2) (by kernel_rfl) ?_
              obtain ⟨v282, h283, h⟩ := bind_of h
              obtain ⟨h284, h285⟩ := forI_iter h283
              refine W_weaken [0, 1, 2, 7, 8, 9, 11, 12, 13, 14] [83] (fr' := ((law_LoneSingles_s36 a0 a1 a2 r1 x136) ((0 : Int), r265)).1) (L' := ((law_LoneSingles_s36 a0 a1 a2 r1 x136) ((0 : Int), r265)).2) (by kernel_rfl) ?_
              refine W_cutK (W_loop (S := (law_LoneSingles_s36 a0 a1 a2 r1 x136)) (J := (exQ (.exit 2) (law_LoneSingles_s37 a0 a1 a2 r1 x136))) (by kernel_rfl) ?_ h284 _ v282 h285) ?_
              · rintro ⟨i275, x276⟩ s h
                refine W_seq (by kernel_rfl) ?_
                refine W_seq (by kernel_rfl) ?_
                refine W_run 3 [] [0, 1, 2, 7, 8, 9, 11, 12, 13, 14, 86] [83] (fr' := [(0, aI a0), (1, aD (.slice (.int .u32)) a1), (2, aI a2), (7, aI r1.1), (8, aI r1.2.1), (9, aI r1.2.2), (11, aI x136.1), (12, aI x136.2), (13, .one (.slc 83)), (14, aI i275), (86, aB (decide (i275 < a0)))]) (L' := [(83, .seq tI x276)]) (obs := []) (by kernel_rfl) (by kernel_rfl) (by kernel_rfl) allP0 ?_
                refine seqQ_norm ?_
                refine W_cond (o := .tmp 86) (b := decide (i275 < a0)) (by kernel_rfl) (by kernel_rfl) (fun h278 => ?_) (fun h278 => ?_)
                · replace h := stepI_true h278 h
                  obtain ⟨_, h, rfl⟩ := h
                  refine W_skip [0, 1, 2, 7, 8, 9, 11, 12, 13, 14] [83] (fr' := [(0, aI a0), (1, aD (.slice (.int .u32)) a1), (2, aI a2), (7, aI r1.1), (8, aI r1.2.1), (9, aI r1.2.2), (11, aI x136.1), (12, aI x136.2), (13, .one (.slc 83)), (14, aI i275)]) (L' := [(83, .seq tI x276)]) (by kernel_rfl) (by kernel_rfl) ?_
                  refine seqQ_norm ?_
                  refine W_seq (by kernel_rfl) ?_
                  refine W_block (id := 3) (by kernel_rfl) ?_
                  obtain ⟨v279, h280, h⟩ := bind_of h
                  refine W_run 9 [(11, .val (.dat tI v279))] [0, 1, 2, 7, 8, 9, 11, 12, 13, 14] [83] (fr' := [(0, aI a0), (1, aD (.slice (.int .u32)) a1), (2, aI a2), (7, aI r1.1), (8, aI r1.2.1), (9, aI r1.2.2), (11, aI x136.1), (12, aI x136.2), (13, .one (.slc 83)), (14, aI i275)]) (L' := [(83, .seq tI (List.set x276 (Int.toNat i275) (w64 (v279 + (1 : Int)))))]) (obs := [InR i275 (List.length x276), Idx x276 i275 v279, InR i275 (List.length x276), InR i275 (List.length x276)]) (by kernel_rfl) (by kernel_rfl) (by kernel_rfl) (allP2 (InR.of h280) (allP2 (Idx.of h280) (allP2 (InR.of h280) (allP1 (InR.of h280))))) ?_
                  refine blockQ_norm ?_
                  refine seqQ_norm ?_
                  obtain rfl := Option.some.inj h
                  refine W_run 3 [] [0, 1, 2, 7, 8, 9, 11, 12, 13, 14] [83] (fr' := [(0, aI a0), (1, aD (.slice (.int .u32)) a1), (2, aI a2), (7, aI r1.1), (8, aI r1.2.1), (9, aI r1.2.2), (11, aI x136.1), (12, aI x136.2), (13, .one (.slc 83)), (14, aI (w64 (i275 + (1 : Int))))]) (L' := [(83, .seq tI (List.set x276 (Int.toNat i275) (w64 (v279 + (1 : Int)))))]) (obs := []) (by kernel_rfl) (by kernel_rfl) (by kernel_rfl) allP0 ?_
                  exact round_next' (by kernel_rfl) (by kernel_rfl)
                · obtain rfl := stepI_false h278 h
                  refine W_exit (id := 2) [0, 1, 2, 7, 8, 9, 11, 12, 13] [83] (fr' := [(0, aI a0), (1, aD (.slice (.int .u32)) a1), (2, aI a2), (7, aI r1.1), (8, aI r1.2.1), (9, aI r1.2.2), (11, aI x136.1), (12, aI x136.2), (13, .one (.slc 83))]) (L' := [(83, .seq tI x276)]) (by kernel_rfl) (by kernel_rfl) ?_
                  refine seqQ_exit ?_
                  refine round_exit ?_
                  exact exQ_mk (by kernel_rfl) (by kernel_rfl)
              · intro e fr L hJ
                obtain ⟨rfl, rfl, rfl⟩ := hJ
                refine LT_keep [0, 1, 2, 7, 8, 9, 11, 12, 13] [83] (fr' := [(0, aI a0), (1, aD (.slice (.int .u32)) a1), (2, aI a2), (7, aI r1.1), (8, aI r1.2.1), (9, aI r1.2.2), (11, aI x136.1), (12, aI x136.2), (13, .one (.slc 83))]) (L' := [(83, .seq tI v282)]) (by kernel_rfl) ?_
                refine blockQ_hit ?_
                refine seqQ_norm ?_
                refine W_seq (by kernel_rfl) ?_
                refine W_region (by kernel_rfl) ?_
                refine WO_run (j := 2) (k := 2) (orcs := []) (kF := [0, 1, 2, 7, 8, 9, 11, 12, 98, 99]) (kL := [83]) (fr' := [(0, aI a0), (1, aD (.slice (.int .u32)) a1), (2, aI a2), (7, aI r1.1), (8, aI r1.2.1), (9, aI r1.2.2), (11, aI x136.1), (12, aI x136.2), (98, aD (.slice (.int .u32)) a1), (99, .one (.slc 83))]) (L' := [(83, .seq tI v282)]) (obs := []) rfl (by kernel_rfl) allP0 ?_
                obtain ⟨r286, h287, h⟩ := bind_of h
                refine WO_frz 83 (by kernel_rfl) ?_
                refine WO_call0 (us := [none, none]) (d := 100) (p := True) (j := 3) rfl ⟨by kernel_rfl, by kernel_rfl, by kernel_rfl⟩ trivial (ref_Lightest_ok h287) (by kernel_rfl) ?_
                refine WO_run (j := 8) (k := 5) (orcs := []) (kF := [0, 1, 2, 7, 8, 9, 11, 12, 16]) (kL := []) (fr' := [(0, aI a0), (1, aD (.slice (.int .u32)) a1), (2, aI a2), (7, aI r1.1), (8, aI r1.2.1), (9, aI r1.2.2), (11, aI x136.1), (12, aI x136.2), (16, aD (.slice (.int .u32)) r286.2)]) (L' := []) (obs := []) rfl (by kernel_rfl) allP0 ?_
                refine WO_fin [0, 1, 2, 7, 8, 9, 11, 12, 16] [] (fr' := [(0, aI a0), (1, aD (.slice (.int .u32)) a1), (2, aI a2), (7, aI r1.1), (8, aI r1.2.1), (9, aI r1.2.2), (11, aI x136.1), (12, aI x136.2), (16, aD (.slice (.int .u32)) r286.2)]) (L' := []) (by kernel_rfl) (by kernel_rfl) ?_
                refine seqQ_norm ?_
                refine W_seq (by kernel_rfl) ?_
                refine W_run 3 [] [0, 1, 2, 7, 8, 9, 11, 12, 105] [] (fr' := [(0, aI a0), (1, aD (.slice (.int .u32)) a1), (2, aI a2), (7, aI r1.1), (8, aI r1.2.1), (9, aI r1.2.2), (11, aI x136.1), (12, aI x136.2), (105, aB ((List.length r286.2 : Int) == (1 : Int)))]) (L' := []) (obs := []) (by kernel_rfl) (by kernel_rfl) (by kernel_rfl) allP0 ?_
                refine seqQ_norm ?_
                refine W_cond (o := .tmp 105) (b := (List.length r286.2 : Int) == (1 : Int)) (by kernel_rfl) (by kernel_rfl) (fun h288 => ?_) (fun h288 => ?_)
                · replace h := ofT h288 h
                  obtain rfl := Option.some.inj h
                  refine W_run 3 [] [0, 1, 2, 7, 8, 9, 11, 12] [] (fr' := [(0, aI a0), (1, aD (.slice (.int .u32)) a1), (2, aI a2), (7, aI r1.1), (8, aI r1.2.1), (9, aI r1.2.2), (11, aI (w64 (x136.1 + (1 : Int)))), (12, aI x136.2)]) (L' := []) (obs := []) (by kernel_rfl) (by kernel_rfl) (by kernel_rfl) allP0 ?_
                  refine blockQ_norm ?_
                  exact exQ_mk (by kernel_rfl) (by kernel_rfl)
                · replace h := ofF h288 h
                  obtain rfl := Option.some.inj h
                  refine W_skip [0, 1, 2, 7, 8, 9, 11, 12] [] (fr' := [(0, aI a0), (1, aD (.slice (.int .u32)) a1), (2, aI a2), (7, aI r1.1), (8, aI r1.2.1), (9, aI r1.2.2), (11, aI x136.1), (12, aI x136.2)]) (L' := []) (by kernel_rfl) (by kernel_rfl) ?_
                  refine blockQ_norm ?_
                  exact exQ_mk (by kernel_rfl) (by kernel_rfl)
            · intro e fr L hJ
              obtain ⟨rfl, rfl, rfl⟩ := hJ
              refine LT_keep [0, 1, 2, 7, 8, 9, 11, 12] [] (fr' := [(0, aI a0), (1, aD (.slice (.int .u32)) a1), (2, aI a2), (7, aI r1.1), (8, aI r1.2.1), (9, aI r1.2.2), (11, aI v289), (12, aI x136.2)]) (L' := []) (by kernel_rfl) ?_
              refine seqQ_norm ?_
              obtain rfl := Option.some.inj h
              refine W_run 3 [] [0, 1, 2, 7, 8, 9, 11, 12] [] (fr' := [(0, aI a0), (1, aD (.slice (.int .u32)) a1), (2, aI a2), (7, aI r1.1), (8, aI r1.2.1), (9, aI r1.2.2), (11, aI v289), (12, aI (w64 (x136.2 + (1 : Int))))]) (L' := []) (obs := []) (by kernel_rfl) (by kernel_rfl) (by kernel_rfl) allP0 ?_
              exact round_next' (by kernel_rfl) (by kernel_rfl)
          · replace h := ofF h216 h
            obtain rfl := Option.some.inj h
            refine W_exit (id := 0) [0, 2, 7, 8, 9, 11] [] (fr' := [(0, aI a0), (2, aI a2), (7, aI r1.1), (8, aI r1.2.1), (9, aI r1.2.2), (11, aI x136.1)]) (L' := []) (by kernel_rfl) (by kernel_rfl) ?_
            refine seqQ_exit ?_
            refine round_exit ?_
            exact exQ_mk (by kernel_rfl) (by kernel_rfl)
        · intro e fr L hJ
          obtain ⟨rfl, rfl, rfl⟩ := hJ
          refine LT_keep [0, 2, 7, 8, 9, 11] [] (fr' := [(0, aI a0), (2, aI a2), (7, aI r1.1), (8, aI r1.2.1), (9, aI r1.2.2), (11, aI v291)]) (L' := []) (by kernel_rfl) ?_
          refine blockQ_hit ?_
          refine seqQ_norm ?_
          refine W_seq (by kernel_rfl) ?_
          obtain ⟨v304, h305, h⟩ := bind_of h
          refine W_cutK (Q' := (exQ .normal law_LoneSingles_s43) v304) ?_ ?_
          · replace h := h305
            refine W_region (by kernel_rfl) ?_
            refine WO_run (j := 3) (k := 3) (orcs := []) (kF := [0, 2, 7, 8, 11, 110]) (kL := []) (fr' := [(0, aI a0), (2, aI a2), (7, aI r1.1), (8, aI r1.2.1), (11, aI v291), (110, aB (r1.2.2 == (0 : Int)))]) (L' := []) (obs := []) rfl (by kernel_rfl) allP0 ?_
            rcases Bool.eq_false_or_eq_true (r1.2.2 == (0 : Int)) with h301 | h301
            · replace h := ofT h301 h
              refine WO_run (j := 6) (k := 3) (orcs := [(6, .known true), (8, .known true), (10, .known true)]) (kF := [7, 11, 110, 111, 112, 113]) (kL := []) (fr' := [(7, aI r1.1), (11, aI v291), (110, aB (r1.2.2 == (0 : Int))), (111, aI r1.2.1), (112, aI a2), (113, aI a0)]) (L' := []) (obs := [((r1.2.2 == (0 : Int)) = true), ((r1.2.2 == (0 : Int)) = true), ((r1.2.2 == (0 : Int)) = true)]) rfl (by kernel_rfl) (allP2 h301 (allP2 h301 (allP1 h301))) ?_
              obtain ⟨r302, h303, h⟩ := bind_of h
              refine WO_call0 (us := [none, none]) (d := 114) (p := ((r1.2.2 == (0 : Int)) = true)) (j := 7) rfl ⟨by kernel_rfl, by kernel_rfl, by kernel_rfl⟩ h301 (ref_Power_ok h303) (by kernel_rfl) ?_
              refine WO_run (j := 15) (k := 8) (orcs := [(14, .known true), (17, .val (.dat .bool true))]) (kF := [6]) (kL := []) (fr' := [(6, aB ((r1.2.1 == r302) && (r1.1 == v291)))]) (L' := []) (obs := [((r1.2.2 == (0 : Int)) = true), ((r1.2.2 == (0 : Int)) = true)]) rfl (by kernel_rfl) (allP2 h301 (allP1 h301)) ?_
              obtain rfl := Option.some.inj h
              refine WO_fin [6] [] (fr' := [(6, aB ((r1.2.1 == r302) && (r1.1 == v291)))]) (L' := []) (by kernel_rfl) (by kernel_rfl) ?_
              exact exQ_mk (by kernel_rfl) (by kernel_rfl)
            · replace h := ofF h301 h
              refine WO_run (j := 15) (k := 12) (orcs := [(6, .known false), (8, .known false), (10, .known false), (12, .known false), (14, .known false), (17, .val (.dat .bool false)), (20, .known false), (22, .known false), (24, .known false), (27, .val (.dat .bool false))]) (kF := [6]) (kL := []) (fr' := [(6, aB false)]) (L' := []) (obs := [((r1.2.2 == (0 : Int)) = false), ((r1.2.2 == (0 : Int)) = false), ((r1.2.2 == (0 : Int)) = false), ((r1.2.2 == (0 : Int)) = false), ((r1.2.2 == (0 : Int)) = false), ((r1.2.2 == (0 : Int)) = false), (false = false), (false = false), (false = false), (false = false)]) rfl (by kernel_rfl) (allP2 h301 (allP2 h301 (allP2 h301 (allP2 h301 (allP2 h301 (allP2 h301 (allP2 rfl (allP2 rfl (allP2 rfl (allP1 rfl)))))))))) ?_
              obtain rfl := Option.some.inj h
              refine WO_fin [6] [] (fr' := [(6, aB false)]) (L' := []) (by kernel_rfl) (by kernel_rfl) ?_
              exact exQ_mk (by kernel_rfl) (by kernel_rfl)
          · intro e fr L hJ
            obtain ⟨rfl, rfl, rfl⟩ := hJ
            refine LT_keep [6] [] (fr' := [(6, aB v304)]) (L' := []) (by kernel_rfl) ?_
            refine seqQ_norm ?_
            obtain rfl := Option.some.inj h
            refine W_ret [6] [] (fr' := [(6, aB v304)]) (L' := []) (by kernel_rfl) (by kernel_rfl) ?_
            exact retQ_mk (by kernel_rfl) (by kernel_rfl) (by kernel_rfl)
end Go.Proofs.Ytkkmiclmbhbmjaa.loneSingles
