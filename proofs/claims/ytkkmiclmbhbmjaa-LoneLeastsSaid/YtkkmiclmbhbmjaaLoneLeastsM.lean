/- What the functions that LoneLeasts calls compute, as models, and that they compute it: written by a program of mine. -/
import Derived.Test.YtkkmiclmbhbmjaaProg
import Derived.Test.YtkkmiclmbhbmjaaSl5
set_option linter.all false
set_option maxRecDepth 100000
namespace Go.Proofs.Ytkkmiclmbhbmjaa.loneLeasts
open Go Go.Sl
def lone_wrong_1 (a0 : Int) (c0 : Int) : Option Bool :=
(ck (0 ≤ c0)).bind fun _ =>
some ((bShr .u32 a0 c0) != (0 : Int))
theorem lone_wrong_1_ok {a0 : Int} {c0 : Int} {r : Bool} (h : lone_wrong_1 a0 c0 = some r) : FnC Try.prog 76 [aD (.int .u32) a0, .one (.ptr 1000 0)] [(1000, .cells [.dat tI c0])] (aB r) [(1000, .cells [.dat tI c0])] := by
  refine fnC_of_W (B := bodyOf Try.f76) (n := 8) Try.func76 (by kernel_rfl) (by kernel_rfl) (by kernel_rfl) (by kernel_rfl) (by kernel_rfl) ?_
  intro K
  refine W_seq (by kernel_rfl) ?_
  refine W_run 1 [] [0, 1] [1000] (fr' := [(0, aD (.int .u32) a0), (1, .one (.ptr 1000 0))]) (L' := [(1000, .cells [.dat tI c0])]) (obs := []) (by kernel_rfl) (by kernel_rfl) (by kernel_rfl) allP0 ?_
  refine seqQ_norm ?_
  refine W_seq (by kernel_rfl) ?_
  obtain ⟨_, h1, h⟩ := bind_of h
  replace h1 := ck_some h1
  refine W_run 5 [] [3] [1000] (fr' := [(3, aB ((bShr .u32 a0 c0) != (0 : Int)))]) (L' := [(1000, .cells [.dat tI c0])]) (obs := [(0 ≤ c0)]) (by kernel_rfl) (by kernel_rfl) (by kernel_rfl) (allP1 h1) ?_
  refine seqQ_norm ?_
  obtain rfl := Option.some.inj h
  refine W_ret [3] [1000] (fr' := [(3, aB ((bShr .u32 a0 c0) != (0 : Int)))]) (L' := [(1000, .cells [.dat tI c0])]) (by kernel_rfl) (by kernel_rfl) ?_
  exact retQ_mk (by kernel_rfl) (by kernel_rfl) (by kernel_rfl)

def slices_IndexFunc_Luint32uint32_with_lone_wrong_1_b1 (c0 : Int) (i15 : Int) (v18 : Int) (x16 : Unit) : Option (Flow Unit (Esc Int Unit)) :=
(lone_wrong_1 v18 c0).bind fun r21 =>
bif r21 then
(some (.done (.ret i15)))
else
(some (.next ()))
@[reducible] def slices_IndexFunc_Luint32uint32_with_lone_wrong_1_s2 (a0 : (List Int)) (c0 : Int) (v : Int × Unit) : Fr × LL := ([(0, aD (.slice (.int .u32)) a0), (1, .one (.fn 76 [(1000, 0)])), (7, aI (List.length a0 : Int)), (8, aI v.1)], [(1000, .cells [.dat tI c0])])
@[reducible] def slices_IndexFunc_Luint32uint32_with_lone_wrong_1_s3 (c0 : Int) (v : Int) : Fr × LL := ([(4, aI v)], [(1000, .cells [.dat tI c0])])
@[reducible] def slices_IndexFunc_Luint32uint32_with_lone_wrong_1_s4 (c0 : Int) (v : Unit) : Fr × LL := ([], [(1000, .cells [.dat tI c0])])
def slices_IndexFunc_Luint32uint32_with_lone_wrong_1 (a0 : (List Int)) (c0 : Int) : Option Int :=
(forL (slices_IndexFunc_Luint32uint32_with_lone_wrong_1_b1 c0) (fun x16 => (.brk ())) a0 0 ()).bind fun v25 =>
match v25 with
| .ret v30 =>
(some v30)
| .brk v31 =>
(some (-1 : Int))
theorem slices_IndexFunc_Luint32uint32_with_lone_wrong_1_ok {a0 : (List Int)} {c0 : Int} {r : Int} (h : slices_IndexFunc_Luint32uint32_with_lone_wrong_1 a0 c0 = some r) : FnC Try.prog 77 [aD (.slice (.int .u32)) a0, .one (.fn 76 [(1000, 0)])] [(1000, .cells [.dat tI c0])] (aI r) [(1000, .cells [.dat tI c0])] := by
  refine fnC_of_W (B := bodyOf Try.f77) (n := 19) Try.func77 (by kernel_rfl) (by kernel_rfl) (by kernel_rfl) (by kernel_rfl) (by kernel_rfl) ?_
  intro K
  refine W_seq (by kernel_rfl) ?_
  refine W_run 1 [] [0, 1] [1000] (fr' := [(0, aD (.slice (.int .u32)) a0), (1, .one (.fn 76 [(1000, 0)]))]) (L' := [(1000, .cells [.dat tI c0])]) (obs := []) (by kernel_rfl) (by kernel_rfl) (by kernel_rfl) allP0 ?_
  refine seqQ_norm ?_
  refine W_seq (by kernel_rfl) ?_
  refine W_seq (by kernel_rfl) ?_
  refine W_run 3 [] [0, 1, 7, 8] [1000] (fr' := [(0, aD (.slice (.int .u32)) a0), (1, .one (.fn 76 [(1000, 0)])), (7, aI (List.length a0 : Int)), (8, aI (0 : Int))]) (L' := [(1000, .cells [.dat tI c0])]) (obs := []) (by kernel_rfl) (by kernel_rfl) (by kernel_rfl) allP0 ?_
  refine seqQ_norm ?_
  refine W_block (id := 0) (by kernel_rfl) ?_
  obtain ⟨v25, h26, h⟩ := bind_of h
  refine W_len (t := 0) (u := (.int .u32)) (xs := a0) (by kernel_rfl) (fun h29 => ?_)
  obtain ⟨h27, h28⟩ := forL_iter h29 h26
  refine W_weaken [0, 1, 7, 8] [1000] (fr' := ((slices_IndexFunc_Luint32uint32_with_lone_wrong_1_s2 a0 c0) ((0 : Int), ())).1) (L' := ((slices_IndexFunc_Luint32uint32_with_lone_wrong_1_s2 a0 c0) ((0 : Int), ())).2) (by kernel_rfl) ?_
  refine W_cutK (W_loop (S := (slices_IndexFunc_Luint32uint32_with_lone_wrong_1_s2 a0 c0)) (J := (escQ (exQ .ret (slices_IndexFunc_Luint32uint32_with_lone_wrong_1_s3 c0)) (exQ (.exit 0) (slices_IndexFunc_Luint32uint32_with_lone_wrong_1_s4 c0)))) (by kernel_rfl) ?_ h27 _ v25 h28) ?_
  · rintro ⟨i15, x16⟩ s h
    refine W_seq (by kernel_rfl) ?_
    refine W_run 1 [] [0, 1, 7, 8, 9] [1000] (fr' := [(0, aD (.slice (.int .u32)) a0), (1, .one (.fn 76 [(1000, 0)])), (7, aI (List.length a0 : Int)), (8, aI i15), (9, aB (decide (i15 < (List.length a0 : Int))))]) (L' := [(1000, .cells [.dat tI c0])]) (obs := []) (by kernel_rfl) (by kernel_rfl) (by kernel_rfl) allP0 ?_
    refine seqQ_norm ?_
    refine W_seq (by kernel_rfl) ?_
    refine W_cond (o := .tmp 9) (b := decide (i15 < (List.length a0 : Int))) (by kernel_rfl) (by kernel_rfl) (fun h20 => ?_) (fun h20 => ?_)
    · replace h := stepL_true h20 h
      obtain ⟨v18, _, h19, h, rfl⟩ := h
      refine W_skip [0, 1, 7, 8] [1000] (fr' := [(0, aD (.slice (.int .u32)) a0), (1, .one (.fn 76 [(1000, 0)])), (7, aI (List.length a0 : Int)), (8, aI i15)]) (L' := [(1000, .cells [.dat tI c0])]) (by kernel_rfl) (by kernel_rfl) ?_
      refine seqQ_norm ?_
      refine W_seq (by kernel_rfl) ?_
      refine W_block (id := 1) (by kernel_rfl) ?_
      refine W_seq (by kernel_rfl) ?_
      refine W_run 2 [] [0, 1, 5, 7, 8] [1000] (fr' := [(0, aD (.slice (.int .u32)) a0), (1, .one (.fn 76 [(1000, 0)])), (5, aI i15), (7, aI (List.length a0 : Int)), (8, aI i15)]) (L' := [(1000, .cells [.dat tI c0])]) (obs := []) (by kernel_rfl) (by kernel_rfl) (by kernel_rfl) allP0 ?_
      refine seqQ_norm ?_
      refine W_seq (by kernel_rfl) ?_
      refine W_region (by kernel_rfl) ?_
      refine WO_run (j := 5) (k := 5) (orcs := [(7, .val (.dat (.int .u32) v18))]) (kF := [0, 1, 5, 7, 8, 11, 15]) (kL := [1000]) (fr' := [(0, aD (.slice (.int .u32)) a0), (1, .one (.fn 76 [(1000, 0)])), (5, aI i15), (7, aI (List.length a0 : Int)), (8, aI i15), (11, .one (.fn 76 [(1000, 0)])), (15, aD (.int .u32) v18)]) (L' := [(1000, .cells [.dat tI c0])]) (obs := [Idx a0 i15 v18]) rfl (by kernel_rfl) (allP1 (Idx.of h19)) ?_
      obtain ⟨r21, h22, h⟩ := bind_of h
      refine WO_lend [(1000, 1000)] (us := [none, none]) (d := 16) (p := True) (j := 6) rfl ⟨by kernel_rfl, by kernel_rfl, by kernel_rfl⟩ trivial (lone_wrong_1_ok h22) (by kernel_rfl) (by kernel_rfl) ?_
      refine WO_fin [0, 1, 5, 7, 8, 16] [1000] (fr' := [(0, aD (.slice (.int .u32)) a0), (1, .one (.fn 76 [(1000, 0)])), (5, aI i15), (7, aI (List.length a0 : Int)), (8, aI i15), (16, aB r21)]) (L' := [(1000, .cells [.dat tI c0])]) (by kernel_rfl) (by kernel_rfl) ?_
      refine seqQ_norm ?_
      refine W_cond (o := .tmp 16) (b := r21) (by kernel_rfl) (by kernel_rfl) (fun h23 => ?_) (fun h23 => ?_)
      · replace h := ofT h23 h
        refine W_seq (by kernel_rfl) ?_
        refine W_run 2 [] [4] [1000] (fr' := [(4, aI i15)]) (L' := [(1000, .cells [.dat tI c0])]) (obs := []) (by kernel_rfl) (by kernel_rfl) (by kernel_rfl) allP0 ?_
        refine seqQ_norm ?_
        obtain rfl := Option.some.inj h
        refine W_ret [4] [1000] (fr' := [(4, aI i15)]) (L' := [(1000, .cells [.dat tI c0])]) (by kernel_rfl) (by kernel_rfl) ?_
        refine blockQ_ret ?_
        refine seqQ_ret ?_
        refine round_ret ?_
        refine escQ_ret ?_
        exact exQ_mk (by kernel_rfl) (by kernel_rfl)
      · replace h := ofF h23 h
        refine W_skip [0, 1, 7, 8] [1000] (fr' := [(0, aD (.slice (.int .u32)) a0), (1, .one (.fn 76 [(1000, 0)])), (7, aI (List.length a0 : Int)), (8, aI i15)]) (L' := [(1000, .cells [.dat tI c0])]) (by kernel_rfl) (by kernel_rfl) ?_
        refine blockQ_norm ?_
        refine seqQ_norm ?_
        obtain rfl := Option.some.inj h
        refine W_run 2 [] [0, 1, 7, 8] [1000] (fr' := [(0, aD (.slice (.int .u32)) a0), (1, .one (.fn 76 [(1000, 0)])), (7, aI (List.length a0 : Int)), (8, aI (w64 (i15 + (1 : Int))))]) (L' := [(1000, .cells [.dat tI c0])]) (obs := []) (by kernel_rfl) (by kernel_rfl) (by kernel_rfl) allP0 ?_
        exact round_next' (by kernel_rfl) (by kernel_rfl)
    · obtain rfl := stepL_false h20 h
      refine W_exit (id := 0) [] [1000] (fr' := []) (L' := [(1000, .cells [.dat tI c0])]) (by kernel_rfl) (by kernel_rfl) ?_
      refine seqQ_exit ?_
      refine round_exit ?_
      refine escQ_brk ?_
      exact exQ_mk (by kernel_rfl) (by kernel_rfl)
  · intro e fr L hJ
    rcases v25 with v30 | v31
    · obtain ⟨rfl, rfl, rfl⟩ := hJ
      obtain rfl := Option.some.inj h
      refine LT_keep [4] [1000] (fr' := [(4, aI v30)]) (L' := [(1000, .cells [.dat tI c0])]) (by kernel_rfl) ?_
      refine blockQ_ret ?_
      refine seqQ_ret ?_
      exact retQ_mk (by kernel_rfl) (by kernel_rfl) (by kernel_rfl)
    · obtain ⟨rfl, rfl, rfl⟩ := hJ
      refine LT_keep [] [1000] (fr' := []) (L' := [(1000, .cells [.dat tI c0])]) (by kernel_rfl) ?_
      refine blockQ_hit ?_
      refine seqQ_norm ?_
      refine W_seq (by kernel_rfl) ?_
      refine W_run 1 [] [4] [1000] (fr' := [(4, aI (-1 : Int))]) (L' := [(1000, .cells [.dat tI c0])]) (obs := []) (by kernel_rfl) (by kernel_rfl) (by kernel_rfl) allP0 ?_
      refine seqQ_norm ?_
      obtain rfl := Option.some.inj h
      refine W_ret [4] [1000] (fr' := [(4, aI (-1 : Int))]) (L' := [(1000, .cells [.dat tI c0])]) (by kernel_rfl) (by kernel_rfl) ?_
      exact retQ_mk (by kernel_rfl) (by kernel_rfl) (by kernel_rfl)

def slices_ContainsFunc_Luint32uint32_with_lone_wrong_1 (a0 : (List Int)) (c0 : Int) : Option Bool :=
(slices_IndexFunc_Luint32uint32_with_lone_wrong_1 a0 c0).bind fun r1 =>
some (decide (r1 ≥ (0 : Int)))
theorem slices_ContainsFunc_Luint32uint32_with_lone_wrong_1_ok {a0 : (List Int)} {c0 : Int} {r : Bool} (h : slices_ContainsFunc_Luint32uint32_with_lone_wrong_1 a0 c0 = some r) : FnC Try.prog 49 [aD (.slice (.int .u32)) a0, .one (.fn 76 [(1000, 0)])] [(1000, .cells [.dat tI c0])] (aB r) [(1000, .cells [.dat tI c0])] := by
  refine fnC_of_W (B := bodyOf Try.f49) (n := 9) Try.func49 (by kernel_rfl) (by kernel_rfl) (by kernel_rfl) (by kernel_rfl) (by kernel_rfl) ?_
  intro K
  refine W_seq (by kernel_rfl) ?_
  refine W_run 1 [] [0, 1] [1000] (fr' := [(0, aD (.slice (.int .u32)) a0), (1, .one (.fn 76 [(1000, 0)]))]) (L' := [(1000, .cells [.dat tI c0])]) (obs := []) (by kernel_rfl) (by kernel_rfl) (by kernel_rfl) allP0 ?_
  refine seqQ_norm ?_
  refine W_seq (by kernel_rfl) ?_
  refine W_region (by kernel_rfl) ?_
  refine WO_run (j := 2) (k := 2) (orcs := []) (kF := [5, 6]) (kL := [1000]) (fr' := [(5, aD (.slice (.int .u32)) a0), (6, .one (.fn 76 [(1000, 0)]))]) (L' := [(1000, .cells [.dat tI c0])]) (obs := []) rfl (by kernel_rfl) allP0 ?_
  obtain ⟨r1, h2, h⟩ := bind_of h
  refine WO_lend [(1000, 1000)] (us := [none, none]) (d := 7) (p := True) (j := 3) rfl ⟨by kernel_rfl, by kernel_rfl, by kernel_rfl⟩ trivial (slices_IndexFunc_Luint32uint32_with_lone_wrong_1_ok h2) (by kernel_rfl) (by kernel_rfl) ?_
  refine WO_run (j := 5) (k := 2) (orcs := []) (kF := [4]) (kL := [1000]) (fr' := [(4, aB (decide (r1 ≥ (0 : Int))))]) (L' := [(1000, .cells [.dat tI c0])]) (obs := []) rfl (by kernel_rfl) allP0 ?_
  refine WO_fin [4] [1000] (fr' := [(4, aB (decide (r1 ≥ (0 : Int))))]) (L' := [(1000, .cells [.dat tI c0])]) (by kernel_rfl) (by kernel_rfl) ?_
  refine seqQ_norm ?_
  obtain rfl := Option.some.inj h
  refine W_ret [4] [1000] (fr' := [(4, aB (decide (r1 ≥ (0 : Int))))]) (L' := [(1000, .cells [.dat tI c0])]) (by kernel_rfl) (by kernel_rfl) ?_
  exact retQ_mk (by kernel_rfl) (by kernel_rfl) (by kernel_rfl)

def lone_wrong_b1 (i16 : Int) (v19 : Int) (x17 : (Option (List (Int × Bool)))) : Option (Flow (Option (List (Int × Bool))) (Esc Int Unit)) :=
bif Option.getD (mGet (deqT (.int .u32)) (Option.getD x17 []) v19) false then
(some (.done (.ret (3 : Int))))
else
((ck (Option.isSome x17 = true)).bind fun _ =>
some (.next (Option.map (fun l => mPut (deqT (.int .u32)) l v19 true) x17)))
@[reducible] def lone_wrong_s2 (a1 : (List Int)) (v : Int × (Option (List (Int × Bool)))) : Fr × LL := ([(5, .one (.slc 27)), (28, aD (.slice (.int .u32)) a1), (29, aI (List.length a1 : Int)), (30, aI v.1)], [(27, .map (.int .u32) .bool v.2)])
@[reducible] def lone_wrong_s3 (v : Int) : Fr × LL := ([(4, aI v)], [])
@[reducible] def lone_wrong_s4 (v : Unit) : Fr × LL := ([], [])
def lone_wrong (a0 : Int) (a1 : (List Int)) : Option Int :=
bif (((decide (a0 < (1 : Int))) || (decide (a0 > (5 : Int)))) || (decide ((List.length a1 : Int) < (1 : Int)))) || (decide ((List.length a1 : Int) > (200 : Int))) then
(some (1 : Int))
else
((slices_ContainsFunc_Luint32uint32_with_lone_wrong_1 a1 a0).bind fun r2 =>
bif r2 then
(some (4 : Int))
else
((forL lone_wrong_b1 (fun x17 => (.brk ())) a1 0 (some [] : Option (List (Int × Bool)))).bind fun v25 =>
match v25 with
| .ret v30 =>
(some v30)
| .brk v31 =>
(some (0 : Int))))
theorem lone_wrong_ok {a0 : Int} {a1 : (List Int)} {r : Int} (h : lone_wrong a0 a1 = some r) : FnC Try.prog 48 [aI a0, aD (.slice (.int .u32)) a1] [] (aI r) [] := by
  refine fnC_of_W (B := bodyOf Try.f48) (n := 40) Try.func48 (by kernel_rfl) (by kernel_rfl) (by kernel_rfl) (by kernel_rfl) (by kernel_rfl) ?_
  intro K
  refine W_seq (by kernel_rfl) ?_
  refine W_run 2 [] [1, 2] [2] (fr' := [(1, aD (.slice (.int .u32)) a1), (2, .one (.ptr 2 0))]) (L' := [(2, .cells [.dat tI a0])]) (obs := []) (by kernel_rfl) (by kernel_rfl) (by kernel_rfl) allP0 ?_
  refine seqQ_norm ?_
  refine W_seq (by kernel_rfl) ?_
  refine W_seq (by kernel_rfl) ?_
  refine W_run 16 [] [1, 2, 23] [2] (fr' := [(1, aD (.slice (.int .u32)) a1), (2, .one (.ptr 2 0)), (23, aB ((((decide (a0 < (1 : Int))) || (decide (a0 > (5 : Int)))) || (decide ((List.length a1 : Int) < (1 : Int)))) || (decide ((List.length a1 : Int) > (200 : Int)))))]) (L' := [(2, .cells [.dat tI a0])]) (obs := []) (by kernel_rfl) (by kernel_rfl) (by kernel_rfl) allP0 ?_
  refine seqQ_norm ?_
  refine W_cond (o := .tmp 23) (b := (((decide (a0 < (1 : Int))) || (decide (a0 > (5 : Int)))) || (decide ((List.length a1 : Int) < (1 : Int)))) || (decide ((List.length a1 : Int) > (200 : Int)))) (by kernel_rfl) (by kernel_rfl) (fun h1 => ?_) (fun h1 => ?_)
  · replace h := ofT h1 h
    refine W_seq (by kernel_rfl) ?_
    refine W_run 1 [] [4] [] (fr' := [(4, aI (1 : Int))]) (L' := []) (obs := []) (by kernel_rfl) (by kernel_rfl) (by kernel_rfl) allP0 ?_
    refine seqQ_norm ?_
    obtain rfl := Option.some.inj h
    refine W_ret [4] [] (fr' := [(4, aI (1 : Int))]) (L' := []) (by kernel_rfl) (by kernel_rfl) ?_
    refine seqQ_ret ?_
    exact retQ_mk (by kernel_rfl) (by kernel_rfl) (by kernel_rfl)
  · replace h := ofF h1 h
    refine W_skip [1, 2] [2] (fr' := [(1, aD (.slice (.int .u32)) a1), (2, .one (.ptr 2 0))]) (L' := [(2, .cells [.dat tI a0])]) (by kernel_rfl) (by kernel_rfl) ?_
    refine seqQ_norm ?_
    refine W_seq (by kernel_rfl) ?_
    refine W_seq (by kernel_rfl) ?_
    refine W_region (by kernel_rfl) ?_
    refine WO_run (j := 2) (k := 2) (orcs := []) (kF := [1, 24, 25]) (kL := [2]) (fr' := [(1, aD (.slice (.int .u32)) a1), (24, aD (.slice (.int .u32)) a1), (25, .one (.fn 76 [(2, 0)]))]) (L' := [(2, .cells [.dat tI a0])]) (obs := []) rfl (by kernel_rfl) allP0 ?_
    obtain ⟨r2, h3, h⟩ := bind_of h
    refine WO_lend [(1000, 2)] (us := [none, none]) (d := 26) (p := True) (j := 3) rfl ⟨by kernel_rfl, by kernel_rfl, by kernel_rfl⟩ trivial (slices_ContainsFunc_Luint32uint32_with_lone_wrong_1_ok h3) (by kernel_rfl) (by kernel_rfl) ?_
    refine WO_fin [1, 26] [] (fr' := [(1, aD (.slice (.int .u32)) a1), (26, aB r2)]) (L' := []) (by kernel_rfl) (by kernel_rfl) ?_
    refine seqQ_norm ?_
    refine W_cond (o := .tmp 26) (b := r2) (by kernel_rfl) (by kernel_rfl) (fun h4 => ?_) (fun h4 => ?_)
    · replace h := ofT h4 h
      refine W_seq (by kernel_rfl) ?_
      refine W_run 1 [] [4] [] (fr' := [(4, aI (4 : Int))]) (L' := []) (obs := []) (by kernel_rfl) (by kernel_rfl) (by kernel_rfl) allP0 ?_
      refine seqQ_norm ?_
      obtain rfl := Option.some.inj h
      refine W_ret [4] [] (fr' := [(4, aI (4 : Int))]) (L' := []) (by kernel_rfl) (by kernel_rfl) ?_
      refine seqQ_ret ?_
      exact retQ_mk (by kernel_rfl) (by kernel_rfl) (by kernel_rfl)
    · replace h := ofF h4 h
      refine W_skip [1] [] (fr' := [(1, aD (.slice (.int .u32)) a1)]) (L' := []) (by kernel_rfl) (by kernel_rfl) ?_
      refine seqQ_norm ?_
      refine W_seq (by kernel_rfl) ?_
      refine W_run 2 [] [1, 5] [27] (fr' := [(1, aD (.slice (.int .u32)) a1), (5, .one (.slc 27))]) (L' := [(27, .map (.int .u32) .bool (some [] : Option (List (Int × Bool))))]) (obs := []) (by kernel_rfl) (by kernel_rfl) (by kernel_rfl) allP0 ?_
      refine seqQ_norm ?_
      refine W_seq (by kernel_rfl) ?_
      refine W_seq (by kernel_rfl) ?_
      refine W_run 3 [] [5, 28, 29, 30] [27] (fr' := [(5, .one (.slc 27)), (28, aD (.slice (.int .u32)) a1), (29, aI (List.length a1 : Int)), (30, aI (0 : Int))]) (L' := [(27, .map (.int .u32) .bool (some [] : Option (List (Int × Bool))))]) (obs := []) (by kernel_rfl) (by kernel_rfl) (by kernel_rfl) allP0 ?_
      refine seqQ_norm ?_
      refine W_block (id := 0) (by kernel_rfl) ?_
      obtain ⟨v25, h26, h⟩ := bind_of h
      refine W_len (t := 28) (u := (.int .u32)) (xs := a1) (by kernel_rfl) (fun h29 => ?_)
      obtain ⟨h27, h28⟩ := forL_iter h29 h26
      refine W_weaken [5, 28, 29, 30] [27] (fr' := ((lone_wrong_s2 a1) ((0 : Int), (some [] : Option (List (Int × Bool))))).1) (L' := ((lone_wrong_s2 a1) ((0 : Int), (some [] : Option (List (Int × Bool))))).2) (by kernel_rfl) ?_
      refine W_cutK (W_loop (S := (lone_wrong_s2 a1)) (J := (escQ (exQ .ret lone_wrong_s3) (exQ (.exit 0) lone_wrong_s4))) (by kernel_rfl) ?_ h27 _ v25 h28) ?_
      · rintro ⟨i16, x17⟩ s h
        refine W_seq (by kernel_rfl) ?_
        refine W_run 1 [] [5, 28, 29, 30, 31] [27] (fr' := [(5, .one (.slc 27)), (28, aD (.slice (.int .u32)) a1), (29, aI (List.length a1 : Int)), (30, aI i16), (31, aB (decide (i16 < (List.length a1 : Int))))]) (L' := [(27, .map (.int .u32) .bool x17)]) (obs := []) (by kernel_rfl) (by kernel_rfl) (by kernel_rfl) allP0 ?_
        refine seqQ_norm ?_
        refine W_seq (by kernel_rfl) ?_
        refine W_cond (o := .tmp 31) (b := decide (i16 < (List.length a1 : Int))) (by kernel_rfl) (by kernel_rfl) (fun h21 => ?_) (fun h21 => ?_)
        · replace h := stepL_true h21 h
          obtain ⟨v19, _, h20, h, rfl⟩ := h
          refine W_skip [5, 28, 29, 30] [27] (fr' := [(5, .one (.slc 27)), (28, aD (.slice (.int .u32)) a1), (29, aI (List.length a1 : Int)), (30, aI i16)]) (L' := [(27, .map (.int .u32) .bool x17)]) (by kernel_rfl) (by kernel_rfl) ?_
          refine seqQ_norm ?_
          refine W_seq (by kernel_rfl) ?_
          refine W_block (id := 1) (by kernel_rfl) ?_
          refine W_seq (by kernel_rfl) ?_
          refine W_run 3 [(1, .val (.dat (.int .u32) v19))] [5, 7, 28, 29, 30] [27] (fr' := [(5, .one (.slc 27)), (7, aD (.int .u32) v19), (28, aD (.slice (.int .u32)) a1), (29, aI (List.length a1 : Int)), (30, aI i16)]) (L' := [(27, .map (.int .u32) .bool x17)]) (obs := [Idx a1 i16 v19]) (by kernel_rfl) (by kernel_rfl) (by kernel_rfl) (allP1 (Idx.of h20)) ?_
          refine seqQ_norm ?_
          refine W_seq (by kernel_rfl) ?_
          refine W_seq (by kernel_rfl) ?_
          refine W_run 3 [] [5, 7, 28, 29, 30, 36] [27] (fr' := [(5, .one (.slc 27)), (7, aD (.int .u32) v19), (28, aD (.slice (.int .u32)) a1), (29, aI (List.length a1 : Int)), (30, aI i16), (36, aB (Option.getD (mGet (deqT (.int .u32)) (Option.getD x17 []) v19) false))]) (L' := [(27, .map (.int .u32) .bool x17)]) (obs := []) (by kernel_rfl) (by kernel_rfl) (by kernel_rfl) allP0 ?_
          refine seqQ_norm ?_
          refine W_cond (o := .tmp 36) (b := Option.getD (mGet (deqT (.int .u32)) (Option.getD x17 []) v19) false) (by kernel_rfl) (by kernel_rfl) (fun h22 => ?_) (fun h22 => ?_)
          · replace h := ofT h22 h
            refine W_seq (by kernel_rfl) ?_
            refine W_run 1 [] [4] [] (fr' := [(4, aI (3 : Int))]) (L' := []) (obs := []) (by kernel_rfl) (by kernel_rfl) (by kernel_rfl) allP0 ?_
            refine seqQ_norm ?_
            obtain rfl := Option.some.inj h
            refine W_ret [4] [] (fr' := [(4, aI (3 : Int))]) (L' := []) (by kernel_rfl) (by kernel_rfl) ?_
            refine seqQ_ret ?_
            refine blockQ_ret ?_
            refine seqQ_ret ?_
            refine round_ret ?_
            refine escQ_ret ?_
            exact exQ_mk (by kernel_rfl) (by kernel_rfl)
          · replace h := ofF h22 h
            refine W_skip [5, 7, 28, 29, 30] [27] (fr' := [(5, .one (.slc 27)), (7, aD (.int .u32) v19), (28, aD (.slice (.int .u32)) a1), (29, aI (List.length a1 : Int)), (30, aI i16)]) (L' := [(27, .map (.int .u32) .bool x17)]) (by kernel_rfl) (by kernel_rfl) ?_
            refine seqQ_norm ?_
            obtain ⟨_, h23, h⟩ := bind_of h
            replace h23 := ck_some h23
            refine W_run 3 [] [5, 28, 29, 30] [27] (fr' := [(5, .one (.slc 27)), (28, aD (.slice (.int .u32)) a1), (29, aI (List.length a1 : Int)), (30, aI i16)]) (L' := [(27, .map (.int .u32) .bool (Option.map (fun l => mPut (deqT (.int .u32)) l v19 true) x17))]) (obs := [Option.isSome x17 = true]) (by kernel_rfl) (by kernel_rfl) (by kernel_rfl) (allP1 h23) ?_
            refine blockQ_norm ?_
            refine seqQ_norm ?_
            obtain rfl := Option.some.inj h
            refine W_run 2 [] [5, 28, 29, 30] [27] (fr' := [(5, .one (.slc 27)), (28, aD (.slice (.int .u32)) a1), (29, aI (List.length a1 : Int)), (30, aI (w64 (i16 + (1 : Int))))]) (L' := [(27, .map (.int .u32) .bool (Option.map (fun l => mPut (deqT (.int .u32)) l v19 true) x17))]) (obs := []) (by kernel_rfl) (by kernel_rfl) (by kernel_rfl) allP0 ?_
            exact round_next' (by kernel_rfl) (by kernel_rfl)
        · obtain rfl := stepL_false h21 h
          refine W_exit (id := 0) [] [] (fr' := []) (L' := []) (by kernel_rfl) (by kernel_rfl) ?_
          refine seqQ_exit ?_
          refine round_exit ?_
          refine escQ_brk ?_
          exact exQ_mk (by kernel_rfl) (by kernel_rfl)
      · intro e fr L hJ
        rcases v25 with v30 | v31
        · obtain ⟨rfl, rfl, rfl⟩ := hJ
          obtain rfl := Option.some.inj h
          refine LT_keep [4] [] (fr' := [(4, aI v30)]) (L' := []) (by kernel_rfl) ?_
          refine blockQ_ret ?_
          refine seqQ_ret ?_
          exact retQ_mk (by kernel_rfl) (by kernel_rfl) (by kernel_rfl)
        · obtain ⟨rfl, rfl, rfl⟩ := hJ
          refine LT_keep [] [] (fr' := []) (L' := []) (by kernel_rfl) ?_
          refine blockQ_hit ?_
          refine seqQ_norm ?_
          refine W_seq (by kernel_rfl) ?_
          refine W_run 1 [] [4] [] (fr' := [(4, aI (0 : Int))]) (L' := []) (obs := []) (by kernel_rfl) (by kernel_rfl) (by kernel_rfl) allP0 ?_
          refine seqQ_norm ?_
          obtain rfl := Option.some.inj h
          refine W_ret [4] [] (fr' := [(4, aI (0 : Int))]) (L' := []) (by kernel_rfl) (by kernel_rfl) ?_
          exact retQ_mk (by kernel_rfl) (by kernel_rfl) (by kernel_rfl)

def lone_Least_1 (a0 : Int) : Option Bool :=
some ((decide (a0 < (1 : Int))) || (decide (a0 > (1000 : Int))))
theorem lone_Least_1_ok {a0 : Int} {r : Bool} (h : lone_Least_1 a0 = some r) : FnC Try.prog 54 [aI a0] [] (aB r) [] := by
  refine fnC_of_W (B := bodyOf Try.f54) (n := 9) Try.func54 (by kernel_rfl) (by kernel_rfl) (by kernel_rfl) (by kernel_rfl) (by kernel_rfl) ?_
  intro K
  refine W_seq (by kernel_rfl) ?_
  refine W_run 1 [] [0] [] (fr' := [(0, aI a0)]) (L' := []) (obs := []) (by kernel_rfl) (by kernel_rfl) (by kernel_rfl) allP0 ?_
  refine seqQ_norm ?_
  refine W_seq (by kernel_rfl) ?_
  refine W_run 7 [] [2] [] (fr' := [(2, aB ((decide (a0 < (1 : Int))) || (decide (a0 > (1000 : Int)))))]) (L' := []) (obs := []) (by kernel_rfl) (by kernel_rfl) (by kernel_rfl) allP0 ?_
  refine seqQ_norm ?_
  obtain rfl := Option.some.inj h
  refine W_ret [2] [] (fr' := [(2, aB ((decide (a0 < (1 : Int))) || (decide (a0 > (1000 : Int)))))]) (L' := []) (by kernel_rfl) (by kernel_rfl) ?_
  exact retQ_mk (by kernel_rfl) (by kernel_rfl) (by kernel_rfl)

def slices_IndexFunc_Lintint_with_lone_Least_1_b1 (i15 : Int) (v18 : Int) (x16 : Unit) : Option (Flow Unit (Esc Int Unit)) :=
(lone_Least_1 v18).bind fun r21 =>
bif r21 then
(some (.done (.ret i15)))
else
(some (.next ()))
@[reducible] def slices_IndexFunc_Lintint_with_lone_Least_1_s2 (a0 : (List Int)) (v : Int × Unit) : Fr × LL := ([(0, aD (.slice tI) a0), (1, .one (.fn 54 [])), (7, aI (List.length a0 : Int)), (8, aI v.1)], [])
@[reducible] def slices_IndexFunc_Lintint_with_lone_Least_1_s3 (v : Int) : Fr × LL := ([(4, aI v)], [])
@[reducible] def slices_IndexFunc_Lintint_with_lone_Least_1_s4 (v : Unit) : Fr × LL := ([], [])
def slices_IndexFunc_Lintint_with_lone_Least_1 (a0 : (List Int)) : Option Int :=
(forL slices_IndexFunc_Lintint_with_lone_Least_1_b1 (fun x16 => (.brk ())) a0 0 ()).bind fun v25 =>
match v25 with
| .ret v30 =>
(some v30)
| .brk v31 =>
(some (-1 : Int))
theorem slices_IndexFunc_Lintint_with_lone_Least_1_ok {a0 : (List Int)} {r : Int} (h : slices_IndexFunc_Lintint_with_lone_Least_1 a0 = some r) : FnC Try.prog 81 [aD (.slice tI) a0, .one (.fn 54 [])] [] (aI r) [] := by
  refine fnC_of_W (B := bodyOf Try.f81) (n := 19) Try.func81 (by kernel_rfl) (by kernel_rfl) (by kernel_rfl) (by kernel_rfl) (by kernel_rfl) ?_
  intro K
  refine W_seq (by kernel_rfl) ?_
  refine W_run 1 [] [0, 1] [] (fr' := [(0, aD (.slice tI) a0), (1, .one (.fn 54 []))]) (L' := []) (obs := []) (by kernel_rfl) (by kernel_rfl) (by kernel_rfl) allP0 ?_
  refine seqQ_norm ?_
  refine W_seq (by kernel_rfl) ?_
  refine W_seq (by kernel_rfl) ?_
  refine W_run 3 [] [0, 1, 7, 8] [] (fr' := [(0, aD (.slice tI) a0), (1, .one (.fn 54 [])), (7, aI (List.length a0 : Int)), (8, aI (0 : Int))]) (L' := []) (obs := []) (by kernel_rfl) (by kernel_rfl) (by kernel_rfl) allP0 ?_
  refine seqQ_norm ?_
  refine W_block (id := 0) (by kernel_rfl) ?_
  obtain ⟨v25, h26, h⟩ := bind_of h
  refine W_len (t := 0) (u := tI) (xs := a0) (by kernel_rfl) (fun h29 => ?_)
  obtain ⟨h27, h28⟩ := forL_iter h29 h26
  refine W_weaken [0, 1, 7, 8] [] (fr' := ((slices_IndexFunc_Lintint_with_lone_Least_1_s2 a0) ((0 : Int), ())).1) (L' := ((slices_IndexFunc_Lintint_with_lone_Least_1_s2 a0) ((0 : Int), ())).2) (by kernel_rfl) ?_
  refine W_cutK (W_loop (S := (slices_IndexFunc_Lintint_with_lone_Least_1_s2 a0)) (J := (escQ (exQ .ret slices_IndexFunc_Lintint_with_lone_Least_1_s3) (exQ (.exit 0) slices_IndexFunc_Lintint_with_lone_Least_1_s4))) (by kernel_rfl) ?_ h27 _ v25 h28) ?_
  · rintro ⟨i15, x16⟩ s h
    refine W_seq (by kernel_rfl) ?_
    refine W_run 1 [] [0, 1, 7, 8, 9] [] (fr' := [(0, aD (.slice tI) a0), (1, .one (.fn 54 [])), (7, aI (List.length a0 : Int)), (8, aI i15), (9, aB (decide (i15 < (List.length a0 : Int))))]) (L' := []) (obs := []) (by kernel_rfl) (by kernel_rfl) (by kernel_rfl) allP0 ?_
    refine seqQ_norm ?_
    refine W_seq (by kernel_rfl) ?_
    refine W_cond (o := .tmp 9) (b := decide (i15 < (List.length a0 : Int))) (by kernel_rfl) (by kernel_rfl) (fun h20 => ?_) (fun h20 => ?_)
    · replace h := stepL_true h20 h
      obtain ⟨v18, _, h19, h, rfl⟩ := h
      refine W_skip [0, 1, 7, 8] [] (fr' := [(0, aD (.slice tI) a0), (1, .one (.fn 54 [])), (7, aI (List.length a0 : Int)), (8, aI i15)]) (L' := []) (by kernel_rfl) (by kernel_rfl) ?_
      refine seqQ_norm ?_
      refine W_seq (by kernel_rfl) ?_
      refine W_block (id := 1) (by kernel_rfl) ?_
      refine W_seq (by kernel_rfl) ?_
      refine W_run 2 [] [0, 1, 5, 7, 8] [] (fr' := [(0, aD (.slice tI) a0), (1, .one (.fn 54 [])), (5, aI i15), (7, aI (List.length a0 : Int)), (8, aI i15)]) (L' := []) (obs := []) (by kernel_rfl) (by kernel_rfl) (by kernel_rfl) allP0 ?_
      refine seqQ_norm ?_
      refine W_seq (by kernel_rfl) ?_
      refine W_region (by kernel_rfl) ?_
      refine WO_run (j := 5) (k := 5) (orcs := [(7, .val (.dat tI v18))]) (kF := [0, 1, 5, 7, 8, 11, 15]) (kL := []) (fr' := [(0, aD (.slice tI) a0), (1, .one (.fn 54 [])), (5, aI i15), (7, aI (List.length a0 : Int)), (8, aI i15), (11, .one (.fn 54 [])), (15, aI v18)]) (L' := []) (obs := [Idx a0 i15 v18]) rfl (by kernel_rfl) (allP1 (Idx.of h19)) ?_
      obtain ⟨r21, h22, h⟩ := bind_of h
      refine WO_call0 (us := [none]) (d := 16) (p := True) (j := 6) rfl ⟨by kernel_rfl, by kernel_rfl, by kernel_rfl⟩ trivial (lone_Least_1_ok h22) (by kernel_rfl) ?_
      refine WO_fin [0, 1, 5, 7, 8, 16] [] (fr' := [(0, aD (.slice tI) a0), (1, .one (.fn 54 [])), (5, aI i15), (7, aI (List.length a0 : Int)), (8, aI i15), (16, aB r21)]) (L' := []) (by kernel_rfl) (by kernel_rfl) ?_
      refine seqQ_norm ?_
      refine W_cond (o := .tmp 16) (b := r21) (by kernel_rfl) (by kernel_rfl) (fun h23 => ?_) (fun h23 => ?_)
      · replace h := ofT h23 h
        refine W_seq (by kernel_rfl) ?_
        refine W_run 2 [] [4] [] (fr' := [(4, aI i15)]) (L' := []) (obs := []) (by kernel_rfl) (by kernel_rfl) (by kernel_rfl) allP0 ?_
        refine seqQ_norm ?_
        obtain rfl := Option.some.inj h
        refine W_ret [4] [] (fr' := [(4, aI i15)]) (L' := []) (by kernel_rfl) (by kernel_rfl) ?_
        refine blockQ_ret ?_
        refine seqQ_ret ?_
        refine round_ret ?_
        refine escQ_ret ?_
        exact exQ_mk (by kernel_rfl) (by kernel_rfl)
      · replace h := ofF h23 h
        refine W_skip [0, 1, 7, 8] [] (fr' := [(0, aD (.slice tI) a0), (1, .one (.fn 54 [])), (7, aI (List.length a0 : Int)), (8, aI i15)]) (L' := []) (by kernel_rfl) (by kernel_rfl) ?_
        refine blockQ_norm ?_
        refine seqQ_norm ?_
        obtain rfl := Option.some.inj h
        refine W_run 2 [] [0, 1, 7, 8] [] (fr' := [(0, aD (.slice tI) a0), (1, .one (.fn 54 [])), (7, aI (List.length a0 : Int)), (8, aI (w64 (i15 + (1 : Int))))]) (L' := []) (obs := []) (by kernel_rfl) (by kernel_rfl) (by kernel_rfl) allP0 ?_
        exact round_next' (by kernel_rfl) (by kernel_rfl)
    · obtain rfl := stepL_false h20 h
      refine W_exit (id := 0) [] [] (fr' := []) (L' := []) (by kernel_rfl) (by kernel_rfl) ?_
      refine seqQ_exit ?_
      refine round_exit ?_
      refine escQ_brk ?_
      exact exQ_mk (by kernel_rfl) (by kernel_rfl)
  · intro e fr L hJ
    rcases v25 with v30 | v31
    · obtain ⟨rfl, rfl, rfl⟩ := hJ
      obtain rfl := Option.some.inj h
      refine LT_keep [4] [] (fr' := [(4, aI v30)]) (L' := []) (by kernel_rfl) ?_
      refine blockQ_ret ?_
      refine seqQ_ret ?_
      exact retQ_mk (by kernel_rfl) (by kernel_rfl) (by kernel_rfl)
    · obtain ⟨rfl, rfl, rfl⟩ := hJ
      refine LT_keep [] [] (fr' := []) (L' := []) (by kernel_rfl) ?_
      refine blockQ_hit ?_
      refine seqQ_norm ?_
      refine W_seq (by kernel_rfl) ?_
      refine W_run 1 [] [4] [] (fr' := [(4, aI (-1 : Int))]) (L' := []) (obs := []) (by kernel_rfl) (by kernel_rfl) (by kernel_rfl) allP0 ?_
      refine seqQ_norm ?_
      obtain rfl := Option.some.inj h
      refine W_ret [4] [] (fr' := [(4, aI (-1 : Int))]) (L' := []) (by kernel_rfl) (by kernel_rfl) ?_
      exact retQ_mk (by kernel_rfl) (by kernel_rfl) (by kernel_rfl)

def slices_ContainsFunc_Lintint_with_lone_Least_1 (a0 : (List Int)) : Option Bool :=
(slices_IndexFunc_Lintint_with_lone_Least_1 a0).bind fun r1 =>
some (decide (r1 ≥ (0 : Int)))
theorem slices_ContainsFunc_Lintint_with_lone_Least_1_ok {a0 : (List Int)} {r : Bool} (h : slices_ContainsFunc_Lintint_with_lone_Least_1 a0 = some r) : FnC Try.prog 53 [aD (.slice tI) a0, .one (.fn 54 [])] [] (aB r) [] := by
  refine fnC_of_W (B := bodyOf Try.f53) (n := 9) Try.func53 (by kernel_rfl) (by kernel_rfl) (by kernel_rfl) (by kernel_rfl) (by kernel_rfl) ?_
  intro K
  refine W_seq (by kernel_rfl) ?_
  refine W_run 1 [] [0, 1] [] (fr' := [(0, aD (.slice tI) a0), (1, .one (.fn 54 []))]) (L' := []) (obs := []) (by kernel_rfl) (by kernel_rfl) (by kernel_rfl) allP0 ?_
  refine seqQ_norm ?_
  refine W_seq (by kernel_rfl) ?_
  refine W_region (by kernel_rfl) ?_
  refine WO_run (j := 2) (k := 2) (orcs := []) (kF := [5, 6]) (kL := []) (fr' := [(5, aD (.slice tI) a0), (6, .one (.fn 54 []))]) (L' := []) (obs := []) rfl (by kernel_rfl) allP0 ?_
  obtain ⟨r1, h2, h⟩ := bind_of h
  refine WO_call0 (us := [none, none]) (d := 7) (p := True) (j := 3) rfl ⟨by kernel_rfl, by kernel_rfl, by kernel_rfl⟩ trivial (slices_IndexFunc_Lintint_with_lone_Least_1_ok h2) (by kernel_rfl) ?_
  refine WO_run (j := 5) (k := 2) (orcs := []) (kF := [4]) (kL := []) (fr' := [(4, aB (decide (r1 ≥ (0 : Int))))]) (L' := []) (obs := []) rfl (by kernel_rfl) allP0 ?_
  refine WO_fin [4] [] (fr' := [(4, aB (decide (r1 ≥ (0 : Int))))]) (L' := []) (by kernel_rfl) (by kernel_rfl) ?_
  refine seqQ_norm ?_
  obtain rfl := Option.some.inj h
  refine W_ret [4] [] (fr' := [(4, aB (decide (r1 ≥ (0 : Int))))]) (L' := []) (by kernel_rfl) (by kernel_rfl) ?_
  exact retQ_mk (by kernel_rfl) (by kernel_rfl) (by kernel_rfl)

def lone_least_b24 (v141 : Int) (i203 : Int) (v206 : Int) (x204 : Int) : Option (Flow Int Int) :=
(ck (0 ≤ i203)).bind fun _ =>
some (.next (w64 (x204 + (w64 ((w64 (bAnd .u32 (bShr .u32 v141 i203) (1 : Int))) * v206)))))
@[reducible] def lone_least_s25 (a0 : (List Int)) (a1 : (List Int)) (i138 : Int) (x139 : (Int × (List Int))) (v141 : Int) (v : Int × Int) : Fr × LL := ([(1, aD (.slice tI) a1), (6, aI x139.1), (7, .one (.slc 46)), (9, aD (.int .u32) v141), (10, aI v.2), (13, aD (.slice (.int .u32)) a0), (14, aI (List.length a0 : Int)), (15, aI i138), (19, aD (.slice tI) a1), (20, aI (List.length a1 : Int)), (21, aI v.1)], [(46, .seq (.int .u32) x139.2)])
@[reducible] def lone_least_s26 (a0 : (List Int)) (a1 : (List Int)) (i138 : Int) (x139 : (Int × (List Int))) (v141 : Int) (v : Int) : Fr × LL := ([(1, aD (.slice tI) a1), (6, aI x139.1), (7, .one (.slc 46)), (9, aD (.int .u32) v141), (10, aI v), (13, aD (.slice (.int .u32)) a0), (14, aI (List.length a0 : Int)), (15, aI i138)], [(46, .seq (.int .u32) x139.2)])
def lone_least_g27 (a1 : (List Int)) (x139 : (Int × (List Int))) (v141 : Int) : Option (Int × (List Int)) :=
(forL (lone_least_b24 v141) (fun x204 => x204) a1 0 (0 : Int)).bind fun v211 =>
bif (decide (x139.1 < (0 : Int))) || (decide (v211 < x139.1)) then
(some (v211, [v141]))
else
(bif v211 == x139.1 then
((ck ((List.length x139.2 : Int) + 1 ≤ 4294967296)).bind fun _ =>
some (x139.1, x139.2 ++ [v141]))
else
(some (x139.1, x139.2)))
@[reducible] def lone_least_s28 (a0 : (List Int)) (a1 : (List Int)) (i138 : Int) (v : (Int × (List Int))) : Fr × LL := ([(1, aD (.slice tI) a1), (6, aI v.1), (7, .one (.slc 46)), (13, aD (.slice (.int .u32)) a0), (14, aI (List.length a0 : Int)), (15, aI i138)], [(46, .seq (.int .u32) v.2)])
def lone_least_b29 (a1 : (List Int)) (i138 : Int) (v141 : Int) (x139 : (Int × (List Int))) : Option (Flow (Int × (List Int)) (Int × (List Int))) :=
(lone_least_g27 a1 x139 v141).bind fun v219 =>
some (.next (v219.1, v219.2))
@[reducible] def lone_least_s30 (a0 : (List Int)) (a1 : (List Int)) (v : Int × (Int × (List Int))) : Fr × LL := ([(1, aD (.slice tI) a1), (6, aI v.2.1), (7, .one (.slc 46)), (13, aD (.slice (.int .u32)) a0), (14, aI (List.length a0 : Int)), (15, aI v.1)], [(46, .seq (.int .u32) v.2.2)])
@[reducible] def lone_least_s31 (v : (Int × (List Int))) : Fr × LL := ([(6, aI v.1), (7, .one (.slc 46))], [(46, .seq (.int .u32) v.2)])
def lone_least (a0 : (List Int)) (a1 : (List Int)) : Option (Int × (List Int)) :=
(forL (lone_least_b29 a1) (fun x139 => (x139.1, x139.2)) a0 0 ((-1 : Int), [])).bind fun v222 =>
some (v222.1, v222.2)
theorem lone_least_ok {a0 : (List Int)} {a1 : (List Int)} {r : (Int × (List Int))} (h : lone_least a0 a1 = some r) : FnC Try.prog 55 [aD (.slice (.int .u32)) a0, aD (.slice tI) a1] [] (.tup [.dat tI r.1, .dat (.slice (.int .u32)) r.2]) [] := by
  refine fnC_of_W (B := bodyOf Try.f55) (n := 58) Try.func55 (by kernel_rfl) (by kernel_rfl) (by kernel_rfl) (by kernel_rfl) (by kernel_rfl) ?_
  intro K
  refine W_seq (by kernel_rfl) ?_
  refine W_run 2 [] [0, 1] [] (fr' := [(0, aD (.slice (.int .u32)) a0), (1, aD (.slice tI) a1)]) (L' := []) (obs := []) (by kernel_rfl) (by kernel_rfl) (by kernel_rfl) allP0 ?_
  refine seqQ_norm ?_
  refine W_seq (by kernel_rfl) ?_
  refine W_run 1 [] [0, 1, 6] [] (fr' := [(0, aD (.slice (.int .u32)) a0), (1, aD (.slice tI) a1), (6, aI (-1 : Int))]) (L' := []) (obs := []) (by kernel_rfl) (by kernel_rfl) (by kernel_rfl) allP0 ?_
  refine seqQ_norm ?_
  refine W_seq (by kernel_rfl) ?_
  refine W_run 1 [] [0, 1, 6, 7] [] (fr' := [(0, aD (.slice (.int .u32)) a0), (1, aD (.slice tI) a1), (6, aI (-1 : Int)), (7, .one (.nilS))]) (L' := []) (obs := []) (by kernel_rfl) (by kernel_rfl) (by kernel_rfl) allP0 ?_
  refine seqQ_norm ?_
  refine W_seq (by kernel_rfl) ?_
  refine W_seq (by kernel_rfl) ?_
  refine W_run 3 [] [1, 6, 7, 13, 14, 15] [] (fr' := [(1, aD (.slice tI) a1), (6, aI (-1 : Int)), (7, .one (.nilS)), (13, aD (.slice (.int .u32)) a0), (14, aI (List.length a0 : Int)), (15, aI (0 : Int))]) (L' := []) (obs := []) (by kernel_rfl) (by kernel_rfl) (by kernel_rfl) allP0 ?_
  refine seqQ_norm ?_
  refine W_block (id := 0) (by kernel_rfl) ?_
  obtain ⟨v222, h223, h⟩ := bind_of h
  refine W_len (t := 13) (u := (.int .u32)) (xs := a0) (by kernel_rfl) (fun h226 => ?_)
  obtain ⟨h224, h225⟩ := forL_iter h226 h223
  refine W_mine 7 46 (.int .u32) (by kernel_rfl) ?_
  refine W_weaken [1, 6, 7, 13, 14, 15] [46] (fr' := ((lone_least_s30 a0 a1) ((0 : Int), ((-1 : Int), []))).1) (L' := ((lone_least_s30 a0 a1) ((0 : Int), ((-1 : Int), []))).2) (by kernel_rfl) ?_
  refine W_cutK (W_loop (S := (lone_least_s30 a0 a1)) (J := (exQ (.exit 0) lone_least_s31)) (by kernel_rfl) ?_ h224 _ v222 h225) ?_
  · rintro ⟨i138, x139⟩ s h
    refine W_seq (by kernel_rfl) ?_
    refine W_run 1 [] [1, 6, 7, 13, 14, 15, 16] [46] (fr' := [(1, aD (.slice tI) a1), (6, aI x139.1), (7, .one (.slc 46)), (13, aD (.slice (.int .u32)) a0), (14, aI (List.length a0 : Int)), (15, aI i138), (16, aB (decide (i138 < (List.length a0 : Int))))]) (L' := [(46, .seq (.int .u32) x139.2)]) (obs := []) (by kernel_rfl) (by kernel_rfl) (by kernel_rfl) allP0 ?_
    refine seqQ_norm ?_
    refine W_seq (by kernel_rfl) ?_
    refine W_cond (o := .tmp 16) (b := decide (i138 < (List.length a0 : Int))) (by kernel_rfl) (by kernel_rfl) (fun h143 => ?_) (fun h143 => ?_)
    · replace h := stepL_true h143 h
      obtain ⟨v141, _, h142, h, rfl⟩ := h
      refine W_skip [1, 6, 7, 13, 14, 15] [46] (fr' := [(1, aD (.slice tI) a1), (6, aI x139.1), (7, .one (.slc 46)), (13, aD (.slice (.int .u32)) a0), (14, aI (List.length a0 : Int)), (15, aI i138)]) (L' := [(46, .seq (.int .u32) x139.2)]) (by kernel_rfl) (by kernel_rfl) ?_
      refine seqQ_norm ?_
      refine W_seq (by kernel_rfl) ?_
      obtain ⟨v219, h220, h⟩ := bind_of h
      refine W_cutK (Q' := (exQ .normal (lone_least_s28 a0 a1 i138)) v219) ?_ ?_
      · replace h := h220
        refine W_block (id := 1) (by kernel_rfl) ?_
        refine W_seq (by kernel_rfl) ?_
        refine W_run 3 [(1, .val (.dat (.int .u32) v141))] [1, 6, 7, 9, 13, 14, 15] [46] (fr' := [(1, aD (.slice tI) a1), (6, aI x139.1), (7, .one (.slc 46)), (9, aD (.int .u32) v141), (13, aD (.slice (.int .u32)) a0), (14, aI (List.length a0 : Int)), (15, aI i138)]) (L' := [(46, .seq (.int .u32) x139.2)]) (obs := [Idx a0 i138 v141]) (by kernel_rfl) (by kernel_rfl) (by kernel_rfl) (allP1 (Idx.of h142)) ?_
        refine seqQ_norm ?_
        refine W_seq (by kernel_rfl) ?_
        refine W_run 1 [] [1, 6, 7, 9, 10, 13, 14, 15] [46] (fr' := [(1, aD (.slice tI) a1), (6, aI x139.1), (7, .one (.slc 46)), (9, aD (.int .u32) v141), (10, aI (0 : Int)), (13, aD (.slice (.int .u32)) a0), (14, aI (List.length a0 : Int)), (15, aI i138)]) (L' := [(46, .seq (.int .u32) x139.2)]) (obs := []) (by kernel_rfl) (by kernel_rfl) (by kernel_rfl) allP0 ?_
        refine seqQ_norm ?_
        refine W_seq (by kernel_rfl) ?_
        refine W_seq (by kernel_rfl) ?_
        refine W_run 3 [] [1, 6, 7, 9, 10, 13, 14, 15, 19, 20, 21] [46] (fr' := [(1, aD (.slice tI) a1), (6, aI x139.1), (7, .one (.slc 46)), (9, aD (.int .u32) v141), (10, aI (0 : Int)), (13, aD (.slice (.int .u32)) a0), (14, aI (List.length a0 : Int)), (15, aI i138), (19, aD (.slice tI) a1), (20, aI (List.length a1 : Int)), (21, aI (0 : Int))]) (L' := [(46, .seq (.int .u32) x139.2)]) (obs := []) (by kernel_rfl) (by kernel_rfl) (by kernel_rfl) allP0 ?_
        refine seqQ_norm ?_
        refine W_block (id := 2) (by kernel_rfl) ?_
        obtain ⟨v211, h212, h⟩ := bind_of h
        refine W_len (t := 19) (u := tI) (xs := a1) (by kernel_rfl) (fun h215 => ?_)
        obtain ⟨h213, h214⟩ := forL_iter h215 h212
        refine W_weaken [1, 6, 7, 9, 10, 13, 14, 15, 19, 20, 21] [46] (fr' := ((lone_least_s25 a0 a1 i138 x139 v141) ((0 : Int), (0 : Int))).1) (L' := ((lone_least_s25 a0 a1 i138 x139 v141) ((0 : Int), (0 : Int))).2) (by kernel_rfl) ?_
        refine W_cutK (W_loop (S := (lone_least_s25 a0 a1 i138 x139 v141)) (J := (exQ (.exit 2) (lone_least_s26 a0 a1 i138 x139 v141))) (by kernel_rfl) ?_ h213 _ v211 h214) ?_
        · rintro ⟨i203, x204⟩ s h
          refine W_seq (by kernel_rfl) ?_
          refine W_run 1 [] [1, 6, 7, 9, 10, 13, 14, 15, 19, 20, 21, 22] [46] (fr' := [(1, aD (.slice tI) a1), (6, aI x139.1), (7, .one (.slc 46)), (9, aD (.int .u32) v141), (10, aI x204), (13, aD (.slice (.int .u32)) a0), (14, aI (List.length a0 : Int)), (15, aI i138), (19, aD (.slice tI) a1), (20, aI (List.length a1 : Int)), (21, aI i203), (22, aB (decide (i203 < (List.length a1 : Int))))]) (L' := [(46, .seq (.int .u32) x139.2)]) (obs := []) (by kernel_rfl) (by kernel_rfl) (by kernel_rfl) allP0 ?_
          refine seqQ_norm ?_
          refine W_seq (by kernel_rfl) ?_
          refine W_cond (o := .tmp 22) (b := decide (i203 < (List.length a1 : Int))) (by kernel_rfl) (by kernel_rfl) (fun h208 => ?_) (fun h208 => ?_)
          · replace h := stepL_true h208 h
            obtain ⟨v206, _, h207, h, rfl⟩ := h
            refine W_skip [1, 6, 7, 9, 10, 13, 14, 15, 19, 20, 21] [46] (fr' := [(1, aD (.slice tI) a1), (6, aI x139.1), (7, .one (.slc 46)), (9, aD (.int .u32) v141), (10, aI x204), (13, aD (.slice (.int .u32)) a0), (14, aI (List.length a0 : Int)), (15, aI i138), (19, aD (.slice tI) a1), (20, aI (List.length a1 : Int)), (21, aI i203)]) (L' := [(46, .seq (.int .u32) x139.2)]) (by kernel_rfl) (by kernel_rfl) ?_
            refine seqQ_norm ?_
            refine W_seq (by kernel_rfl) ?_
            refine W_block (id := 3) (by kernel_rfl) ?_
            refine W_seq (by kernel_rfl) ?_
            refine W_run 5 [(3, .val (.dat tI v206))] [1, 6, 7, 9, 10, 11, 12, 13, 14, 15, 19, 20, 21] [46] (fr' := [(1, aD (.slice tI) a1), (6, aI x139.1), (7, .one (.slc 46)), (9, aD (.int .u32) v141), (10, aI x204), (11, aI i203), (12, aI v206), (13, aD (.slice (.int .u32)) a0), (14, aI (List.length a0 : Int)), (15, aI i138), (19, aD (.slice tI) a1), (20, aI (List.length a1 : Int)), (21, aI i203)]) (L' := [(46, .seq (.int .u32) x139.2)]) (obs := [Idx a1 i203 v206]) (by kernel_rfl) (by kernel_rfl) (by kernel_rfl) (allP1 (Idx.of h207)) ?_
            refine seqQ_norm ?_
            obtain ⟨_, h209, h⟩ := bind_of h
            replace h209 := ck_some h209
            refine W_run 10 [] [1, 6, 7, 9, 10, 13, 14, 15, 19, 20, 21] [46] (fr' := [(1, aD (.slice tI) a1), (6, aI x139.1), (7, .one (.slc 46)), (9, aD (.int .u32) v141), (10, aI (w64 (x204 + (w64 ((w64 (bAnd .u32 (bShr .u32 v141 i203) (1 : Int))) * v206))))), (13, aD (.slice (.int .u32)) a0), (14, aI (List.length a0 : Int)), (15, aI i138), (19, aD (.slice tI) a1), (20, aI (List.length a1 : Int)), (21, aI i203)]) (L' := [(46, .seq (.int .u32) x139.2)]) (obs := [(0 ≤ i203)]) (by kernel_rfl) (by kernel_rfl) (by kernel_rfl) (allP1 h209) ?_
            refine blockQ_norm ?_
            refine seqQ_norm ?_
            obtain rfl := Option.some.inj h
            refine W_run 2 [] [1, 6, 7, 9, 10, 13, 14, 15, 19, 20, 21] [46] (fr' := [(1, aD (.slice tI) a1), (6, aI x139.1), (7, .one (.slc 46)), (9, aD (.int .u32) v141), (10, aI (w64 (x204 + (w64 ((w64 (bAnd .u32 (bShr .u32 v141 i203) (1 : Int))) * v206))))), (13, aD (.slice (.int .u32)) a0), (14, aI (List.length a0 : Int)), (15, aI i138), (19, aD (.slice tI) a1), (20, aI (List.length a1 : Int)), (21, aI (w64 (i203 + (1 : Int))))]) (L' := [(46, .seq (.int .u32) x139.2)]) (obs := []) (by kernel_rfl) (by kernel_rfl) (by kernel_rfl) allP0 ?_
            exact round_next' (by kernel_rfl) (by kernel_rfl)
          · obtain rfl := stepL_false h208 h
            refine W_exit (id := 2) [1, 6, 7, 9, 10, 13, 14, 15] [46] (fr' := [(1, aD (.slice tI) a1), (6, aI x139.1), (7, .one (.slc 46)), (9, aD (.int .u32) v141), (10, aI x204), (13, aD (.slice (.int .u32)) a0), (14, aI (List.length a0 : Int)), (15, aI i138)]) (L' := [(46, .seq (.int .u32) x139.2)]) (by kernel_rfl) (by kernel_rfl) ?_
            refine seqQ_exit ?_
            refine round_exit ?_
            exact exQ_mk (by kernel_rfl) (by kernel_rfl)
        · intro e fr L hJ
          obtain ⟨rfl, rfl, rfl⟩ := hJ
          refine LT_keep [1, 6, 7, 9, 10, 13, 14, 15] [46] (fr' := [(1, aD (.slice tI) a1), (6, aI x139.1), (7, .one (.slc 46)), (9, aD (.int .u32) v141), (10, aI v211), (13, aD (.slice (.int .u32)) a0), (14, aI (List.length a0 : Int)), (15, aI i138)]) (L' := [(46, .seq (.int .u32) x139.2)]) (by kernel_rfl) ?_
          refine blockQ_hit ?_
          refine seqQ_norm ?_
          refine W_block (id := 4) (by kernel_rfl) ?_
          refine W_seq (by kernel_rfl) ?_
          refine W_run 8 [] [1, 6, 7, 9, 10, 13, 14, 15, 36] [46] (fr' := [(1, aD (.slice tI) a1), (6, aI x139.1), (7, .one (.slc 46)), (9, aD (.int .u32) v141), (10, aI v211), (13, aD (.slice (.int .u32)) a0), (14, aI (List.length a0 : Int)), (15, aI i138), (36, aB ((decide (x139.1 < (0 : Int))) || (decide (v211 < x139.1))))]) (L' := [(46, .seq (.int .u32) x139.2)]) (obs := []) (by kernel_rfl) (by kernel_rfl) (by kernel_rfl) allP0 ?_
          refine seqQ_norm ?_
          refine W_cond (o := .tmp 36) (b := (decide (x139.1 < (0 : Int))) || (decide (v211 < x139.1))) (by kernel_rfl) (by kernel_rfl) (fun h216 => ?_) (fun h216 => ?_)
          · replace h := ofT h216 h
            obtain rfl := Option.some.inj h
            refine W_run 5 [] [1, 6, 7, 13, 14, 15] [46] (fr' := [(1, aD (.slice tI) a1), (6, aI v211), (7, .one (.slc 46)), (13, aD (.slice (.int .u32)) a0), (14, aI (List.length a0 : Int)), (15, aI i138)]) (L' := [(46, .seq (.int .u32) [v141])]) (obs := []) (by kernel_rfl) (by kernel_rfl) (by kernel_rfl) allP0 ?_
            refine blockQ_norm ?_
            refine blockQ_norm ?_
            exact exQ_mk (by kernel_rfl) (by kernel_rfl)
          · replace h := ofF h216 h
            refine W_seq (by kernel_rfl) ?_
            refine W_run 4 [] [1, 6, 7, 9, 13, 14, 15, 47] [46] (fr' := [(1, aD (.slice tI) a1), (6, aI x139.1), (7, .one (.slc 46)), (9, aD (.int .u32) v141), (13, aD (.slice (.int .u32)) a0), (14, aI (List.length a0 : Int)), (15, aI i138), (47, aB (v211 == x139.1))]) (L' := [(46, .seq (.int .u32) x139.2)]) (obs := []) (by kernel_rfl) (by kernel_rfl) (by kernel_rfl) allP0 ?_
            refine seqQ_norm ?_
            refine W_cond (o := .tmp 47) (b := v211 == x139.1) (by kernel_rfl) (by kernel_rfl) (fun h217 => ?_) (fun h217 => ?_)
            · replace h := ofT h217 h
              obtain ⟨_, h218, h⟩ := bind_of h
              replace h218 := ck_some h218
              obtain rfl := Option.some.inj h
              refine W_run 5 [] [1, 6, 7, 13, 14, 15] [46] (fr' := [(1, aD (.slice tI) a1), (6, aI x139.1), (7, .one (.slc 46)), (13, aD (.slice (.int .u32)) a0), (14, aI (List.length a0 : Int)), (15, aI i138)]) (L' := [(46, .seq (.int .u32) (x139.2 ++ [v141]))]) (obs := [SmallLen (List.length x139.2 + List.length [v141])]) (by kernel_rfl) (by kernel_rfl) (by kernel_rfl) (allP1 h218) ?_
              refine blockQ_norm ?_
              refine blockQ_norm ?_
              exact exQ_mk (by kernel_rfl) (by kernel_rfl)
            · replace h := ofF h217 h
              obtain rfl := Option.some.inj h
              refine W_skip [1, 6, 7, 13, 14, 15] [46] (fr' := [(1, aD (.slice tI) a1), (6, aI x139.1), (7, .one (.slc 46)), (13, aD (.slice (.int .u32)) a0), (14, aI (List.length a0 : Int)), (15, aI i138)]) (L' := [(46, .seq (.int .u32) x139.2)]) (by kernel_rfl) (by kernel_rfl) ?_
              refine blockQ_norm ?_
              refine blockQ_norm ?_
              exact exQ_mk (by kernel_rfl) (by kernel_rfl)
      · intro e fr L hJ
        obtain ⟨rfl, rfl, rfl⟩ := hJ
        refine LT_keep [1, 6, 7, 13, 14, 15] [46] (fr' := [(1, aD (.slice tI) a1), (6, aI v219.1), (7, .one (.slc 46)), (13, aD (.slice (.int .u32)) a0), (14, aI (List.length a0 : Int)), (15, aI i138)]) (L' := [(46, .seq (.int .u32) v219.2)]) (by kernel_rfl) ?_
        refine seqQ_norm ?_
        obtain rfl := Option.some.inj h
        refine W_run 2 [] [1, 6, 7, 13, 14, 15] [46] (fr' := [(1, aD (.slice tI) a1), (6, aI v219.1), (7, .one (.slc 46)), (13, aD (.slice (.int .u32)) a0), (14, aI (List.length a0 : Int)), (15, aI (w64 (i138 + (1 : Int))))]) (L' := [(46, .seq (.int .u32) v219.2)]) (obs := []) (by kernel_rfl) (by kernel_rfl) (by kernel_rfl) allP0 ?_
        exact round_next' (by kernel_rfl) (by kernel_rfl)
    · obtain rfl := stepL_false h143 h
      refine W_exit (id := 0) [6, 7] [46] (fr' := [(6, aI x139.1), (7, .one (.slc 46))]) (L' := [(46, .seq (.int .u32) x139.2)]) (by kernel_rfl) (by kernel_rfl) ?_
      refine seqQ_exit ?_
      refine round_exit ?_
      exact exQ_mk (by kernel_rfl) (by kernel_rfl)
  · intro e fr L hJ
    obtain ⟨rfl, rfl, rfl⟩ := hJ
    refine LT_keep [6, 7] [46] (fr' := [(6, aI v222.1), (7, .one (.slc 46))]) (L' := [(46, .seq (.int .u32) v222.2)]) (by kernel_rfl) ?_
    refine blockQ_hit ?_
    refine seqQ_norm ?_
    refine W_seq (by kernel_rfl) ?_
    refine W_run 4 [] [4, 5] [46] (fr' := [(4, aI v222.1), (5, .one (.slc 46))]) (L' := [(46, .seq (.int .u32) v222.2)]) (obs := []) (by kernel_rfl) (by kernel_rfl) (by kernel_rfl) allP0 ?_
    refine seqQ_norm ?_
    obtain rfl := Option.some.inj h
    refine W_frz 46 (by kernel_rfl) ?_
    refine W_ret [4, 5] [] (fr' := [(4, aI v222.1), (5, aD (.slice (.int .u32)) v222.2)]) (L' := []) (by kernel_rfl) (by kernel_rfl) ?_
    exact retQ_mk (by kernel_rfl) (by kernel_rfl) (by kernel_rfl)

@[reducible] def lone_Least_s1 (a1 : (List Int)) (a2 : (List Int)) (v : Bool) : Fr × LL := ([(1, aD (.slice (.int .u32)) a1), (2, aD (.slice tI) a2), (25, aB v)], [])
def lone_Least (a0 : Int) (a1 : (List Int)) (a2 : (List Int)) : Option (Int × (List Int) × Int) :=
(lone_wrong a0 a1).bind fun r1 =>
bif r1 != (0 : Int) then
(some ((0 : Int), [], r1))
else
((bif (List.length a2 : Int) != a0 then
(some true)
else
((slices_ContainsFunc_Lintint_with_lone_Least_1 a2).bind fun r11 =>
some r11)).bind fun v13 =>
bif v13 then
(some ((0 : Int), [], (2 : Int)))
else
((lone_least a1 a2).bind fun r16 =>
some (r16.1, r16.2, (0 : Int))))
theorem lone_Least_ok {a0 : Int} {a1 : (List Int)} {a2 : (List Int)} {r : (Int × (List Int) × Int)} (h : lone_Least a0 a1 a2 = some r) : FnC Try.prog 19 [aI a0, aD (.slice (.int .u32)) a1, aD (.slice tI) a2] [] (.tup [.dat tI r.1, .dat (.slice (.int .u32)) r.2.1, .dat tI r.2.2]) [] := by
  refine fnC_of_W (B := bodyOf Try.f19) (n := 34) Try.func19 (by kernel_rfl) (by kernel_rfl) (by kernel_rfl) (by kernel_rfl) (by kernel_rfl) ?_
  intro K
  refine W_seq (by kernel_rfl) ?_
  refine W_run 3 [] [0, 1, 2] [] (fr' := [(0, aI a0), (1, aD (.slice (.int .u32)) a1), (2, aD (.slice tI) a2)]) (L' := []) (obs := []) (by kernel_rfl) (by kernel_rfl) (by kernel_rfl) allP0 ?_
  refine seqQ_norm ?_
  refine W_seq (by kernel_rfl) ?_
  refine W_seq (by kernel_rfl) ?_
  refine W_region (by kernel_rfl) ?_
  refine WO_run (j := 2) (k := 2) (orcs := []) (kF := [0, 1, 2, 12, 13]) (kL := []) (fr' := [(0, aI a0), (1, aD (.slice (.int .u32)) a1), (2, aD (.slice tI) a2), (12, aI a0), (13, aD (.slice (.int .u32)) a1)]) (L' := []) (obs := []) rfl (by kernel_rfl) allP0 ?_
  obtain ⟨r1, h2, h⟩ := bind_of h
  refine WO_call0 (us := [none, none]) (d := 14) (p := True) (j := 3) rfl ⟨by kernel_rfl, by kernel_rfl, by kernel_rfl⟩ trivial (lone_wrong_ok h2) (by kernel_rfl) ?_
  refine WO_run (j := 4) (k := 1) (orcs := []) (kF := [0, 1, 2, 9]) (kL := []) (fr' := [(0, aI a0), (1, aD (.slice (.int .u32)) a1), (2, aD (.slice tI) a2), (9, aI r1)]) (L' := []) (obs := []) rfl (by kernel_rfl) allP0 ?_
  refine WO_fin [0, 1, 2, 9] [] (fr' := [(0, aI a0), (1, aD (.slice (.int .u32)) a1), (2, aD (.slice tI) a2), (9, aI r1)]) (L' := []) (by kernel_rfl) (by kernel_rfl) ?_
  refine seqQ_norm ?_
  refine W_seq (by kernel_rfl) ?_
  refine W_run 2 [] [0, 1, 2, 9, 16] [] (fr' := [(0, aI a0), (1, aD (.slice (.int .u32)) a1), (2, aD (.slice tI) a2), (9, aI r1), (16, aB (r1 != (0 : Int)))]) (L' := []) (obs := []) (by kernel_rfl) (by kernel_rfl) (by kernel_rfl) allP0 ?_
  refine seqQ_norm ?_
  refine W_cond (o := .tmp 16) (b := r1 != (0 : Int)) (by kernel_rfl) (by kernel_rfl) (fun h3 => ?_) (fun h3 => ?_)
  · replace h := ofT h3 h
    refine W_seq (by kernel_rfl) ?_
    refine W_run 4 [] [6, 7, 8] [] (fr' := [(6, aI (0 : Int)), (7, .one (.nilS)), (8, aI r1)]) (L' := []) (obs := []) (by kernel_rfl) (by kernel_rfl) (by kernel_rfl) allP0 ?_
    refine seqQ_norm ?_
    obtain rfl := Option.some.inj h
    refine W_cnv 7 (.slice (.int .u32)) (by kernel_rfl) ?_
    refine W_ret [6, 7, 8] [] (fr' := [(6, aI (0 : Int)), (7, aD (.slice (.int .u32)) []), (8, aI r1)]) (L' := []) (by kernel_rfl) (by kernel_rfl) ?_
    refine seqQ_ret ?_
    exact retQ_mk (by kernel_rfl) (by kernel_rfl) (by kernel_rfl)
  · replace h := ofF h3 h
    refine W_skip [0, 1, 2] [] (fr' := [(0, aI a0), (1, aD (.slice (.int .u32)) a1), (2, aD (.slice tI) a2)]) (L' := []) (by kernel_rfl) (by kernel_rfl) ?_
    refine seqQ_norm ?_
    refine W_seq (by kernel_rfl) ?_
    refine W_seq (by kernel_rfl) ?_
    obtain ⟨v13, h14, h⟩ := bind_of h
    refine W_cutK (Q' := (exQ .normal (lone_Least_s1 a1 a2)) v13) ?_ ?_
    · replace h := h14
      refine W_region (by kernel_rfl) ?_
      refine WO_run (j := 5) (k := 5) (orcs := []) (kF := [1, 2, 22]) (kL := []) (fr' := [(1, aD (.slice (.int .u32)) a1), (2, aD (.slice tI) a2), (22, aB ((List.length a2 : Int) != a0))]) (L' := []) (obs := []) rfl (by kernel_rfl) allP0 ?_
      rcases Bool.eq_false_or_eq_true ((List.length a2 : Int) != a0) with h10 | h10
      · replace h := ofT h10 h
        refine WO_run (j := 8) (k := 3) (orcs := [(10, .known true), (12, .known true), (15, .val (.dat .bool true))]) (kF := [1, 2, 25]) (kL := []) (fr' := [(1, aD (.slice (.int .u32)) a1), (2, aD (.slice tI) a2), (25, aB true)]) (L' := []) (obs := [(((List.length a2 : Int) != a0) = true), (((List.length a2 : Int) != a0) = true), (((List.length a2 : Int) != a0) = true)]) rfl (by kernel_rfl) (allP2 h10 (allP2 h10 (allP1 h10))) ?_
        obtain rfl := Option.some.inj h
        refine WO_fin [1, 2, 25] [] (fr' := [(1, aD (.slice (.int .u32)) a1), (2, aD (.slice tI) a2), (25, aB true)]) (L' := []) (by kernel_rfl) (by kernel_rfl) ?_
        exact exQ_mk (by kernel_rfl) (by kernel_rfl)
      · replace h := ofF h10 h
        refine WO_run (j := 6) (k := 1) (orcs := [(10, .known false)]) (kF := [1, 2, 22, 23]) (kL := []) (fr' := [(1, aD (.slice (.int .u32)) a1), (2, aD (.slice tI) a2), (22, aB ((List.length a2 : Int) != a0)), (23, aD (.slice tI) a2)]) (L' := []) (obs := [(((List.length a2 : Int) != a0) = false)]) rfl (by kernel_rfl) (allP1 h10) ?_
        obtain ⟨r11, h12, h⟩ := bind_of h
        refine WO_call0 (us := [none, none]) (d := 24) (p := (((List.length a2 : Int) != a0) = false)) (j := 7) rfl ⟨by kernel_rfl, by kernel_rfl, by kernel_rfl⟩ h10 (slices_ContainsFunc_Lintint_with_lone_Least_1_ok h12) (by kernel_rfl) ?_
        refine WO_run (j := 8) (k := 1) (orcs := [(15, .val (.dat .bool false))]) (kF := [1, 2, 25]) (kL := []) (fr' := [(1, aD (.slice (.int .u32)) a1), (2, aD (.slice tI) a2), (25, aB r11)]) (L' := []) (obs := [(((List.length a2 : Int) != a0) = false)]) rfl (by kernel_rfl) (allP1 h10) ?_
        obtain rfl := Option.some.inj h
        refine WO_fin [1, 2, 25] [] (fr' := [(1, aD (.slice (.int .u32)) a1), (2, aD (.slice tI) a2), (25, aB r11)]) (L' := []) (by kernel_rfl) (by kernel_rfl) ?_
        exact exQ_mk (by kernel_rfl) (by kernel_rfl)
    · intro e fr L hJ
      obtain ⟨rfl, rfl, rfl⟩ := hJ
      refine LT_keep [1, 2, 25] [] (fr' := [(1, aD (.slice (.int .u32)) a1), (2, aD (.slice tI) a2), (25, aB v13)]) (L' := []) (by kernel_rfl) ?_
      refine seqQ_norm ?_
      refine W_cond (o := .tmp 25) (b := v13) (by kernel_rfl) (by kernel_rfl) (fun h15 => ?_) (fun h15 => ?_)
      · replace h := ofT h15 h
        refine W_seq (by kernel_rfl) ?_
        refine W_run 3 [] [6, 7, 8] [] (fr' := [(6, aI (0 : Int)), (7, .one (.nilS)), (8, aI (2 : Int))]) (L' := []) (obs := []) (by kernel_rfl) (by kernel_rfl) (by kernel_rfl) allP0 ?_
        refine seqQ_norm ?_
        obtain rfl := Option.some.inj h
        refine W_cnv 7 (.slice (.int .u32)) (by kernel_rfl) ?_
        refine W_ret [6, 7, 8] [] (fr' := [(6, aI (0 : Int)), (7, aD (.slice (.int .u32)) []), (8, aI (2 : Int))]) (L' := []) (by kernel_rfl) (by kernel_rfl) ?_
        refine seqQ_ret ?_
        exact retQ_mk (by kernel_rfl) (by kernel_rfl) (by kernel_rfl)
      · replace h := ofF h15 h
        refine W_skip [1, 2] [] (fr' := [(1, aD (.slice (.int .u32)) a1), (2, aD (.slice tI) a2)]) (L' := []) (by kernel_rfl) (by kernel_rfl) ?_
        refine seqQ_norm ?_
        refine W_seq (by kernel_rfl) ?_
        refine W_region (by kernel_rfl) ?_
        refine WO_run (j := 2) (k := 2) (orcs := []) (kF := [27, 28]) (kL := []) (fr' := [(27, aD (.slice (.int .u32)) a1), (28, aD (.slice tI) a2)]) (L' := []) (obs := []) rfl (by kernel_rfl) allP0 ?_
        obtain ⟨r16, h17, h⟩ := bind_of h
        refine WO_call0 (us := [none, none]) (d := 29) (p := True) (j := 3) rfl ⟨by kernel_rfl, by kernel_rfl, by kernel_rfl⟩ trivial (lone_least_ok h17) (by kernel_rfl) ?_
        refine WO_run (j := 8) (k := 5) (orcs := []) (kF := [10, 11]) (kL := []) (fr' := [(10, aI r16.1), (11, aD (.slice (.int .u32)) r16.2)]) (L' := []) (obs := []) rfl (by kernel_rfl) allP0 ?_
        refine WO_fin [10, 11] [] (fr' := [(10, aI r16.1), (11, aD (.slice (.int .u32)) r16.2)]) (L' := []) (by kernel_rfl) (by kernel_rfl) ?_
        refine seqQ_norm ?_
        refine W_seq (by kernel_rfl) ?_
        refine W_run 5 [] [6, 7, 8] [] (fr' := [(6, aI r16.1), (7, aD (.slice (.int .u32)) r16.2), (8, aI (0 : Int))]) (L' := []) (obs := []) (by kernel_rfl) (by kernel_rfl) (by kernel_rfl) allP0 ?_
        refine seqQ_norm ?_
        obtain rfl := Option.some.inj h
        refine W_ret [6, 7, 8] [] (fr' := [(6, aI r16.1), (7, aD (.slice (.int .u32)) r16.2), (8, aI (0 : Int))]) (L' := []) (by kernel_rfl) (by kernel_rfl) ?_
        exact retQ_mk (by kernel_rfl) (by kernel_rfl) (by kernel_rfl)

def ref_Within (a0 : Int) (a1 : Int) (a2 : Int) : Option Bool :=
some ((decide (a0 ≤ a1)) && (decide (a1 ≤ a2)))
theorem ref_Within_ok {a0 : Int} {a1 : Int} {a2 : Int} {r : Bool} (h : ref_Within a0 a1 a2 = some r) : FnC Try.prog 20 [aI a0, aI a1, aI a2] [] (aB r) [] := by
  refine fnC_of_W (B := bodyOf Try.f20) (n := 15) Try.func20 (by kernel_rfl) (by kernel_rfl) (by kernel_rfl) (by kernel_rfl) (by kernel_rfl) ?_
  intro K
  refine W_seq (by kernel_rfl) ?_
  refine W_run 1 [] [0, 1, 2] [] (fr' := [(0, aI a0), (1, aI a1), (2, aI a2)]) (L' := []) (obs := []) (by kernel_rfl) (by kernel_rfl) (by kernel_rfl) allP0 ?_
  refine seqQ_norm ?_
  refine W_seq (by kernel_rfl) ?_
  refine W_run 9 [] [6] [] (fr' := [(6, aB ((decide (a0 ≤ a1)) && (decide (a1 ≤ a2))))]) (L' := []) (obs := []) (by kernel_rfl) (by kernel_rfl) (by kernel_rfl) allP0 ?_
  refine seqQ_norm ?_
  obtain rfl := Option.some.inj h
  refine W_ret [6] [] (fr' := [(6, aB ((decide (a0 ≤ a1)) && (decide (a1 ≤ a2))))]) (L' := []) (by kernel_rfl) (by kernel_rfl) ?_
  exact retQ_mk (by kernel_rfl) (by kernel_rfl) (by kernel_rfl)

def ref_LoneCheck_g1 (a0 : Int) (a1 : (List Int)) : Option Bool :=
(ref_Within (1 : Int) a0 (5 : Int)).bind fun r11 =>
bif !r11 then
(some true)
else
((ref_Within (1 : Int) (List.length a1 : Int) (200 : Int)).bind fun r14 =>
some (!r14))
def ref_LoneCheck_b2 (a0 : Int) (i31 : Int) (v34 : Int) (x32 : Unit) : Option (Flow Unit (Esc Int Unit)) :=
(ck (0 ≤ IntKind.wrap .u64 (a0))).bind fun _ =>
bif decide (v34 ≥ (bShl .u32 (1 : Int) (IntKind.wrap .u64 (a0)))) then
(some (.done (.ret (4 : Int))))
else
(some (.next ()))
@[reducible] def ref_LoneCheck_s3 (a0 : Int) (a1 : (List Int)) (v : Int × Unit) : Fr × LL := ([(0, aI a0), (1, aD (.slice (.int .u32)) a1), (18, aD (.slice (.int .u32)) a1), (19, aI (List.length a1 : Int)), (20, aI v.1)], [])
@[reducible] def ref_LoneCheck_s4 (v : Int) : Fr × LL := ([(4, aI v)], [])
@[reducible] def ref_LoneCheck_s5 (a1 : (List Int)) (v : Unit) : Fr × LL := ([(1, aD (.slice (.int .u32)) a1)], [])
def ref_LoneCheck_b12 (a1 : (List Int)) (v91 : Int) (i104 : Int) (x105 : Unit) : Option (Flow Unit (Esc Int Unit)) :=
(idx a1 i104).bind fun v108 =>
bif v91 == v108 then
(some (.done (.ret (3 : Int))))
else
(some (.next ()))
@[reducible] def ref_LoneCheck_s13 (a1 : (List Int)) (i88 : Int) (v : Int × Unit) : Fr × LL := ([(1, aD (.slice (.int .u32)) a1), (7, aI i88), (8, aI v.1)], [])
@[reducible] def ref_LoneCheck_s14 (v : Int) : Fr × LL := ([(4, aI v)], [])
@[reducible] def ref_LoneCheck_s15 (a1 : (List Int)) (i88 : Int) (v : Unit) : Fr × LL := ([(1, aD (.slice (.int .u32)) a1), (7, aI i88)], [])
def ref_LoneCheck_b16 (a1 : (List Int)) (i88 : Int) (v91 : Int) (x89 : Unit) : Option (Flow Unit (Esc Int Unit)) :=
(forI (0 : Int) i88 (ref_LoneCheck_b12 a1 v91) (fun x105 => (.brk ())) ()).bind fun v112 =>
match v112 with
| .ret v116 =>
(some (.done (.ret v116)))
| .brk v117 =>
(some (.next ()))
@[reducible] def ref_LoneCheck_s17 (a1 : (List Int)) (v : Int × Unit) : Fr × LL := ([(1, aD (.slice (.int .u32)) a1), (7, aI v.1)], [])
@[reducible] def ref_LoneCheck_s18 (v : Int) : Fr × LL := ([(4, aI v)], [])
@[reducible] def ref_LoneCheck_s19 (v : Unit) : Fr × LL := ([], [])
@[reducible] def ref_LoneCheck_s20 (a0 : Int) (a1 : (List Int)) (v : Bool) : Fr × LL := ([(0, aI a0), (1, aD (.slice (.int .u32)) a1), (17, aB v)], [])
def ref_LoneCheck (fuel : Nat) (a0 : Int) (a1 : (List Int)) : Option Int :=
(ref_LoneCheck_g1 a0 a1).bind fun v16 =>
bif v16 then
(some (1 : Int))
else
((forL (ref_LoneCheck_b2 a0) (fun x32 => (.brk ())) a1 0 ()).bind fun v40 =>
match v40 with
| .ret v45 =>
(some v45)
| .brk v46 =>
((forL (ref_LoneCheck_b16 a1) (fun x89 => (.brk ())) a1 0 ()).bind fun v119 =>
match v119 with
| .ret v124 =>
(some v124)
| .brk v125 =>
(some (0 : Int))))
theorem ref_LoneCheck_ok {fuel : Nat} {a0 : Int} {a1 : (List Int)} {r : Int} (h : ref_LoneCheck fuel a0 a1 = some r) : FnC Try.prog 16 [aI a0, aD (.slice (.int .u32)) a1] [] (aI r) [] := by
  refine fnC_of_W (B := bodyOf Try.f16) (n := 50) Try.func16 (by kernel_rfl) (by kernel_rfl) (by kernel_rfl) (by kernel_rfl) (by kernel_rfl) ?_
  intro K
  refine W_seq (by kernel_rfl) ?_
  refine W_run 1 [] [0, 1] [] (fr' := [(0, aI a0), (1, aD (.slice (.int .u32)) a1)]) (L' := []) (obs := []) (by kernel_rfl) (by kernel_rfl) (by kernel_rfl) allP0 ?_
  refine seqQ_norm ?_
  refine W_seq (by kernel_rfl) ?_
  refine W_seq (by kernel_rfl) ?_
  obtain ⟨v16, h17, h⟩ := bind_of h
  refine W_cutK (Q' := (exQ .normal (ref_LoneCheck_s20 a0 a1)) v16) ?_ ?_
  · replace h := h17
    refine W_region (by kernel_rfl) ?_
    refine WO_run (j := 1) (k := 1) (orcs := []) (kF := [0, 1, 9]) (kL := []) (fr' := [(0, aI a0), (1, aD (.slice (.int .u32)) a1), (9, aI a0)]) (L' := []) (obs := []) rfl (by kernel_rfl) allP0 ?_
    obtain ⟨r11, h12, h⟩ := bind_of h
    refine WO_call0 (us := [none, none, none]) (d := 10) (p := True) (j := 2) rfl ⟨by kernel_rfl, by kernel_rfl, by kernel_rfl⟩ trivial (ref_Within_ok h12) (by kernel_rfl) ?_
    refine WO_run (j := 4) (k := 2) (orcs := []) (kF := [0, 1, 12]) (kL := []) (fr' := [(0, aI a0), (1, aD (.slice (.int .u32)) a1), (12, aB (!r11))]) (L' := []) (obs := []) rfl (by kernel_rfl) allP0 ?_
    rcases Bool.eq_false_or_eq_true (!r11) with h13 | h13
    · replace h := ofT h13 h
      refine WO_run (j := 9) (k := 5) (orcs := [(8, .known true), (10, .known true), (12, .known true), (14, .known true), (17, .val (.dat .bool true))]) (kF := [0, 1, 17]) (kL := []) (fr' := [(0, aI a0), (1, aD (.slice (.int .u32)) a1), (17, aB true)]) (L' := []) (obs := [((!r11) = true), ((!r11) = true), ((!r11) = true), ((!r11) = true), ((!r11) = true)]) rfl (by kernel_rfl) (allP2 h13 (allP2 h13 (allP2 h13 (allP2 h13 (allP1 h13))))) ?_
      obtain rfl := Option.some.inj h
      refine WO_fin [0, 1, 17] [] (fr' := [(0, aI a0), (1, aD (.slice (.int .u32)) a1), (17, aB true)]) (L' := []) (by kernel_rfl) (by kernel_rfl) ?_
      exact exQ_mk (by kernel_rfl) (by kernel_rfl)
    · replace h := ofF h13 h
      refine WO_run (j := 6) (k := 2) (orcs := [(8, .known false), (10, .known false)]) (kF := [0, 1, 12, 14]) (kL := []) (fr' := [(0, aI a0), (1, aD (.slice (.int .u32)) a1), (12, aB (!r11)), (14, aI (List.length a1 : Int))]) (L' := []) (obs := [((!r11) = false), ((!r11) = false)]) rfl (by kernel_rfl) (allP2 h13 (allP1 h13)) ?_
      obtain ⟨r14, h15, h⟩ := bind_of h
      refine WO_call0 (us := [none, none, none]) (d := 15) (p := ((!r11) = false)) (j := 7) rfl ⟨by kernel_rfl, by kernel_rfl, by kernel_rfl⟩ h13 (ref_Within_ok h15) (by kernel_rfl) ?_
      refine WO_run (j := 9) (k := 2) (orcs := [(14, .known false), (17, .val (.dat .bool false))]) (kF := [0, 1, 17]) (kL := []) (fr' := [(0, aI a0), (1, aD (.slice (.int .u32)) a1), (17, aB (!r14))]) (L' := []) (obs := [((!r11) = false), ((!r11) = false)]) rfl (by kernel_rfl) (allP2 h13 (allP1 h13)) ?_
      obtain rfl := Option.some.inj h
      refine WO_fin [0, 1, 17] [] (fr' := [(0, aI a0), (1, aD (.slice (.int .u32)) a1), (17, aB (!r14))]) (L' := []) (by kernel_rfl) (by kernel_rfl) ?_
      exact exQ_mk (by kernel_rfl) (by kernel_rfl)
  · intro e fr L hJ
    obtain ⟨rfl, rfl, rfl⟩ := hJ
    refine LT_keep [0, 1, 17] [] (fr' := [(0, aI a0), (1, aD (.slice (.int .u32)) a1), (17, aB v16)]) (L' := []) (by kernel_rfl) ?_
    refine seqQ_norm ?_
    refine W_cond (o := .tmp 17) (b := v16) (by kernel_rfl) (by kernel_rfl) (fun h18 => ?_) (fun h18 => ?_)
    · replace h := ofT h18 h
      refine W_seq (by kernel_rfl) ?_
      refine W_run 1 [] [4] [] (fr' := [(4, aI (1 : Int))]) (L' := []) (obs := []) (by kernel_rfl) (by kernel_rfl) (by kernel_rfl) allP0 ?_
      refine seqQ_norm ?_
      obtain rfl := Option.some.inj h
      refine W_ret [4] [] (fr' := [(4, aI (1 : Int))]) (L' := []) (by kernel_rfl) (by kernel_rfl) ?_
      refine seqQ_ret ?_
      exact retQ_mk (by kernel_rfl) (by kernel_rfl) (by kernel_rfl)
    · replace h := ofF h18 h
      refine W_skip [0, 1] [] (fr' := [(0, aI a0), (1, aD (.slice (.int .u32)) a1)]) (L' := []) (by kernel_rfl) (by kernel_rfl) ?_
      refine seqQ_norm ?_
      refine W_seq (by kernel_rfl) ?_
      refine W_seq (by kernel_rfl) ?_
      refine W_run 3 [] [0, 1, 18, 19, 20] [] (fr' := [(0, aI a0), (1, aD (.slice (.int .u32)) a1), (18, aD (.slice (.int .u32)) a1), (19, aI (List.length a1 : Int)), (20, aI (0 : Int))]) (L' := []) (obs := []) (by kernel_rfl) (by kernel_rfl) (by kernel_rfl) allP0 ?_
      refine seqQ_norm ?_
      refine W_block (id := 0) (by kernel_rfl) ?_
      obtain ⟨v40, h41, h⟩ := bind_of h
      refine W_len (t := 18) (u := (.int .u32)) (xs := a1) (by kernel_rfl) (fun h44 => ?_)
      obtain ⟨h42, h43⟩ := forL_iter h44 h41
      refine W_weaken [0, 1, 18, 19, 20] [] (fr' := ((ref_LoneCheck_s3 a0 a1) ((0 : Int), ())).1) (L' := ((ref_LoneCheck_s3 a0 a1) ((0 : Int), ())).2) (by kernel_rfl) ?_
      refine W_cutK (W_loop (S := (ref_LoneCheck_s3 a0 a1)) (J := (escQ (exQ .ret ref_LoneCheck_s4) (exQ (.exit 0) (ref_LoneCheck_s5 a1)))) (by kernel_rfl) ?_ h42 _ v40 h43) ?_
      · rintro ⟨i31, x32⟩ s h
        refine W_seq (by kernel_rfl) ?_
        refine W_run 1 [] [0, 1, 18, 19, 20, 21] [] (fr' := [(0, aI a0), (1, aD (.slice (.int .u32)) a1), (18, aD (.slice (.int .u32)) a1), (19, aI (List.length a1 : Int)), (20, aI i31), (21, aB (decide (i31 < (List.length a1 : Int))))]) (L' := []) (obs := []) (by kernel_rfl) (by kernel_rfl) (by kernel_rfl) allP0 ?_
        refine seqQ_norm ?_
        refine W_seq (by kernel_rfl) ?_
        refine W_cond (o := .tmp 21) (b := decide (i31 < (List.length a1 : Int))) (by kernel_rfl) (by kernel_rfl) (fun h36 => ?_) (fun h36 => ?_)
        · replace h := stepL_true h36 h
          obtain ⟨v34, _, h35, h, rfl⟩ := h
          refine W_skip [0, 1, 18, 19, 20] [] (fr' := [(0, aI a0), (1, aD (.slice (.int .u32)) a1), (18, aD (.slice (.int .u32)) a1), (19, aI (List.length a1 : Int)), (20, aI i31)]) (L' := []) (by kernel_rfl) (by kernel_rfl) ?_
          refine seqQ_norm ?_
          refine W_seq (by kernel_rfl) ?_
          refine W_block (id := 1) (by kernel_rfl) ?_
          refine W_seq (by kernel_rfl) ?_
          refine W_run 3 [(1, .val (.dat (.int .u32) v34))] [0, 1, 6, 18, 19, 20] [] (fr' := [(0, aI a0), (1, aD (.slice (.int .u32)) a1), (6, aD (.int .u32) v34), (18, aD (.slice (.int .u32)) a1), (19, aI (List.length a1 : Int)), (20, aI i31)]) (L' := []) (obs := [Idx a1 i31 v34]) (by kernel_rfl) (by kernel_rfl) (by kernel_rfl) (allP1 (Idx.of h35)) ?_
          refine seqQ_norm ?_
          refine W_seq (by kernel_rfl) ?_
          obtain ⟨_, h37, h⟩ := bind_of h
          replace h37 := ck_some h37
          refine W_run 5 [] [0, 1, 18, 19, 20, 28] [] (fr' := [(0, aI a0), (1, aD (.slice (.int .u32)) a1), (18, aD (.slice (.int .u32)) a1), (19, aI (List.length a1 : Int)), (20, aI i31), (28, aB (decide (v34 ≥ (bShl .u32 (1 : Int) (IntKind.wrap .u64 (a0))))))]) (L' := []) (obs := [(0 ≤ IntKind.wrap .u64 (a0))]) (by kernel_rfl) (by kernel_rfl) (by kernel_rfl) (allP1 h37) ?_
          refine seqQ_norm ?_
          refine W_cond (o := .tmp 28) (b := decide (v34 ≥ (bShl .u32 (1 : Int) (IntKind.wrap .u64 (a0))))) (by kernel_rfl) (by kernel_rfl) (fun h38 => ?_) (fun h38 => ?_)
          · replace h := ofT h38 h
            refine W_seq (by kernel_rfl) ?_
            refine W_run 1 [] [4] [] (fr' := [(4, aI (4 : Int))]) (L' := []) (obs := []) (by kernel_rfl) (by kernel_rfl) (by kernel_rfl) allP0 ?_
            refine seqQ_norm ?_
            obtain rfl := Option.some.inj h
            refine W_ret [4] [] (fr' := [(4, aI (4 : Int))]) (L' := []) (by kernel_rfl) (by kernel_rfl) ?_
            refine blockQ_ret ?_
            refine seqQ_ret ?_
            refine round_ret ?_
            refine escQ_ret ?_
            exact exQ_mk (by kernel_rfl) (by kernel_rfl)
          · replace h := ofF h38 h
            refine W_skip [0, 1, 18, 19, 20] [] (fr' := [(0, aI a0), (1, aD (.slice (.int .u32)) a1), (18, aD (.slice (.int .u32)) a1), (19, aI (List.length a1 : Int)), (20, aI i31)]) (L' := []) (by kernel_rfl) (by kernel_rfl) ?_
            refine blockQ_norm ?_
            refine seqQ_norm ?_
            obtain rfl := Option.some.inj h
            refine W_run 2 [] [0, 1, 18, 19, 20] [] (fr' := [(0, aI a0), (1, aD (.slice (.int .u32)) a1), (18, aD (.slice (.int .u32)) a1), (19, aI (List.length a1 : Int)), (20, aI (w64 (i31 + (1 : Int))))]) (L' := []) (obs := []) (by kernel_rfl) (by kernel_rfl) (by kernel_rfl) allP0 ?_
            exact round_next' (by kernel_rfl) (by kernel_rfl)
        · obtain rfl := stepL_false h36 h
          refine W_exit (id := 0) [1] [] (fr' := [(1, aD (.slice (.int .u32)) a1)]) (L' := []) (by kernel_rfl) (by kernel_rfl) ?_
          refine seqQ_exit ?_
          refine round_exit ?_
          refine escQ_brk ?_
          exact exQ_mk (by kernel_rfl) (by kernel_rfl)
      · intro e fr L hJ
        rcases v40 with v45 | v46
        · obtain ⟨rfl, rfl, rfl⟩ := hJ
          obtain rfl := Option.some.inj h
          refine LT_keep [4] [] (fr' := [(4, aI v45)]) (L' := []) (by kernel_rfl) ?_
          refine blockQ_ret ?_
          refine seqQ_ret ?_
          exact retQ_mk (by kernel_rfl) (by kernel_rfl) (by kernel_rfl)
        · obtain ⟨rfl, rfl, rfl⟩ := hJ
          refine LT_keep [1] [] (fr' := [(1, aD (.slice (.int .u32)) a1)]) (L' := []) (by kernel_rfl) ?_
          refine blockQ_hit ?_
          refine seqQ_norm ?_
          refine W_seq (by kernel_rfl) ?_
          refine W_seq (by kernel_rfl) ?_
          refine W_run 1 [] [1, 7] [] (fr' := [(1, aD (.slice (.int .u32)) a1), (7, aI (0 : Int))]) (L' := []) (obs := []) (by kernel_rfl) (by kernel_rfl) (by kernel_rfl) allP0 ?_
          refine seqQ_norm ?_
          refine W_block (id := 2) (by kernel_rfl) ?_
          obtain ⟨v119, h120, h⟩ := bind_of h
          refine W_len (t := 1) (u := (.int .u32)) (xs := a1) (by kernel_rfl) (fun h123 => ?_)
          obtain ⟨h121, h122⟩ := forL_iter h123 h120
          refine W_weaken [1, 7] [] (fr' := ((ref_LoneCheck_s17 a1) ((0 : Int), ())).1) (L' := ((ref_LoneCheck_s17 a1) ((0 : Int), ())).2) (by kernel_rfl) ?_
          refine W_cutK (W_loop (S := (ref_LoneCheck_s17 a1)) (J := (escQ (exQ .ret ref_LoneCheck_s18) (exQ (.exit 2) ref_LoneCheck_s19))) (by kernel_rfl) ?_ h121 _ v119 h122) ?_
          · rintro ⟨i88, x89⟩ s h
            refine W_seq (by kernel_rfl) ?_
            refine W_seq (by kernel_rfl) ?_
            refine W_run 4 [] [1, 7, 33] [] (fr' := [(1, aD (.slice (.int .u32)) a1), (7, aI i88), (33, aB (decide (i88 < (List.length a1 : Int))))]) (L' := []) (obs := []) (by kernel_rfl) (by kernel_rfl) (by kernel_rfl) allP0 ?_
            refine seqQ_norm ?_
            refine W_cond (o := .tmp 33) (b := decide (i88 < (List.length a1 : Int))) (by kernel_rfl) (by kernel_rfl) (fun h93 => ?_) (fun h93 => ?_)
            · replace h := stepL_true h93 h
              obtain ⟨v91, _, h92, h, rfl⟩ := h
              refine W_skip [1, 7] [] (fr' := [(1, aD (.slice (.int .u32)) a1), (7, aI i88)]) (L' := []) (by kernel_rfl) (by kernel_rfl) ?_
              refine seqQ_norm ?_
              refine W_seq (by kernel_rfl) ?_
              refine W_block (id := 3) (by kernel_rfl) ?_
              refine W_seq (by kernel_rfl) ?_
              refine W_run 1 [] [1, 7, 8] [] (fr' := [(1, aD (.slice (.int .u32)) a1), (7, aI i88), (8, aI (0 : Int))]) (L' := []) (obs := []) (by kernel_rfl) (by kernel_rfl) (by kernel_rfl) allP0 ?_
              refine seqQ_norm ?_
              refine W_block (id := 4) (by kernel_rfl) ?_
              obtain ⟨v112, h113, h⟩ := bind_of h
              obtain ⟨h114, h115⟩ := forI_iter h113
              refine W_weaken [1, 7, 8] [] (fr' := ((ref_LoneCheck_s13 a1 i88) ((0 : Int), ())).1) (L' := ((ref_LoneCheck_s13 a1 i88) ((0 : Int), ())).2) (by kernel_rfl) ?_
              refine W_cutK (W_loop (S := (ref_LoneCheck_s13 a1 i88)) (J := (escQ (exQ .ret ref_LoneCheck_s14) (exQ (.exit 4) (ref_LoneCheck_s15 a1 i88)))) (by kernel_rfl) ?_ h114 _ v112 h115) ?_
              · rintro ⟨i104, x105⟩ s h
                refine W_seq (by kernel_rfl) ?_
                refine W_seq (by kernel_rfl) ?_
                refine W_run 3 [] [1, 7, 8, 38] [] (fr' := [(1, aD (.slice (.int .u32)) a1), (7, aI i88), (8, aI i104), (38, aB (decide (i104 < i88)))]) (L' := []) (obs := []) (by kernel_rfl) (by kernel_rfl) (by kernel_rfl) allP0 ?_
                refine seqQ_norm ?_
                refine W_cond (o := .tmp 38) (b := decide (i104 < i88)) (by kernel_rfl) (by kernel_rfl) (fun h107 => ?_) (fun h107 => ?_)
                · replace h := stepI_true h107 h
                  obtain ⟨_, h, rfl⟩ := h
                  refine W_skip [1, 7, 8] [] (fr' := [(1, aD (.slice (.int .u32)) a1), (7, aI i88), (8, aI i104)]) (L' := []) (by kernel_rfl) (by kernel_rfl) ?_
                  refine seqQ_norm ?_
                  refine W_seq (by kernel_rfl) ?_
                  refine W_block (id := 5) (by kernel_rfl) ?_
                  refine W_seq (by kernel_rfl) ?_
                  obtain ⟨v108, h109, h⟩ := bind_of h
                  refine W_draw2 9 [(5, .val (.dat (.int .u32) v91)), (13, .val (.dat (.int .u32) v108))] [] [1, 7, 8, 49] [] (fr' := [(1, aD (.slice (.int .u32)) a1), (7, aI i88), (8, aI i104), (49, aB (v91 == v108))]) (L' := []) (out := [(41, aD (.slice (.int .u32)) a1), (42, aI i88), (43, .one (.dptr (.int .u32) v91)), (44, aD (.int .u32) v91), (45, aD (.slice (.int .u32)) a1), (46, aI i104), (47, .one (.dptr (.int .u32) v108)), (48, aD (.int .u32) v108), (49, aB (v91 == v108))]) (obs := [Idx a1 i88 v91, Idx a1 i104 v108]) (obs2 := []) (calls := []) (by kernel_rfl) (by kernel_rfl) (by kernel_rfl) (by kernel_rfl) (allP2 (Idx.of h92) (allP1 (Idx.of h109))) allC0 (by kernel_rfl) allP0 ?_
                  refine seqQ_norm ?_
                  refine W_cond (o := .tmp 49) (b := v91 == v108) (by kernel_rfl) (by kernel_rfl) (fun h110 => ?_) (fun h110 => ?_)
                  · replace h := ofT h110 h
                    refine W_seq (by kernel_rfl) ?_
                    refine W_run 1 [] [4] [] (fr' := [(4, aI (3 : Int))]) (L' := []) (obs := []) (by kernel_rfl) (by kernel_rfl) (by kernel_rfl) allP0 ?_
                    refine seqQ_norm ?_
                    obtain rfl := Option.some.inj h
                    refine W_ret [4] [] (fr' := [(4, aI (3 : Int))]) (L' := []) (by kernel_rfl) (by kernel_rfl) ?_
                    refine blockQ_ret ?_
                    refine seqQ_ret ?_
                    refine round_ret ?_
                    refine escQ_ret ?_
                    exact exQ_mk (by kernel_rfl) (by kernel_rfl)
                  · replace h := ofF h110 h
                    refine W_skip [1, 7, 8] [] (fr' := [(1, aD (.slice (.int .u32)) a1), (7, aI i88), (8, aI i104)]) (L' := []) (by kernel_rfl) (by kernel_rfl) ?_
                    refine blockQ_norm ?_
                    refine seqQ_norm ?_
                    obtain rfl := Option.some.inj h
                    refine W_run 3 [] [1, 7, 8] [] (fr' := [(1, aD (.slice (.int .u32)) a1), (7, aI i88), (8, aI (w64 (i104 + (1 : Int))))]) (L' := []) (obs := []) (by kernel_rfl) (by kernel_rfl) (by kernel_rfl) allP0 ?_
                    exact round_next' (by kernel_rfl) (by kernel_rfl)
                · obtain rfl := stepI_false h107 h
                  refine W_exit (id := 4) [1, 7] [] (fr' := [(1, aD (.slice (.int .u32)) a1), (7, aI i88)]) (L' := []) (by kernel_rfl) (by kernel_rfl) ?_
                  refine seqQ_exit ?_
                  refine round_exit ?_
                  refine escQ_brk ?_
                  exact exQ_mk (by kernel_rfl) (by kernel_rfl)
              · intro e fr L hJ
                rcases v112 with v116 | v117
                · obtain ⟨rfl, rfl, rfl⟩ := hJ
                  obtain rfl := Option.some.inj h
                  refine LT_keep [4] [] (fr' := [(4, aI v116)]) (L' := []) (by kernel_rfl) ?_
                  refine blockQ_ret ?_
                  refine blockQ_ret ?_
                  refine seqQ_ret ?_
                  refine round_ret ?_
                  refine escQ_ret ?_
                  exact exQ_mk (by kernel_rfl) (by kernel_rfl)
                · obtain ⟨rfl, rfl, rfl⟩ := hJ
                  refine LT_keep [1, 7] [] (fr' := [(1, aD (.slice (.int .u32)) a1), (7, aI i88)]) (L' := []) (by kernel_rfl) ?_
                  refine blockQ_hit ?_
                  refine blockQ_norm ?_
                  refine seqQ_norm ?_
                  obtain rfl := Option.some.inj h
                  refine W_run 3 [] [1, 7] [] (fr' := [(1, aD (.slice (.int .u32)) a1), (7, aI (w64 (i88 + (1 : Int))))]) (L' := []) (obs := []) (by kernel_rfl) (by kernel_rfl) (by kernel_rfl) allP0 ?_
                  exact round_next' (by kernel_rfl) (by kernel_rfl)
            · obtain rfl := stepL_false h93 h
              refine W_exit (id := 2) [] [] (fr' := []) (L' := []) (by kernel_rfl) (by kernel_rfl) ?_
              refine seqQ_exit ?_
              refine round_exit ?_
              refine escQ_brk ?_
              exact exQ_mk (by kernel_rfl) (by kernel_rfl)
          · intro e fr L hJ
            rcases v119 with v124 | v125
            · obtain ⟨rfl, rfl, rfl⟩ := hJ
              obtain rfl := Option.some.inj h
              refine LT_keep [4] [] (fr' := [(4, aI v124)]) (L' := []) (by kernel_rfl) ?_
              refine blockQ_ret ?_
              refine seqQ_ret ?_
              exact retQ_mk (by kernel_rfl) (by kernel_rfl) (by kernel_rfl)
            · obtain ⟨rfl, rfl, rfl⟩ := hJ
              refine LT_keep [] [] (fr' := []) (L' := []) (by kernel_rfl) ?_
              refine blockQ_hit ?_
              refine seqQ_norm ?_
              refine W_seq (by kernel_rfl) ?_
              refine W_run 1 [] [4] [] (fr' := [(4, aI (0 : Int))]) (L' := []) (obs := []) (by kernel_rfl) (by kernel_rfl) (by kernel_rfl) allP0 ?_
              refine seqQ_norm ?_
              obtain rfl := Option.some.inj h
              refine W_ret [4] [] (fr' := [(4, aI (0 : Int))]) (L' := []) (by kernel_rfl) (by kernel_rfl) ?_
              exact retQ_mk (by kernel_rfl) (by kernel_rfl) (by kernel_rfl)

def ref_Bit (a0 : Int) (a1 : Int) : Option Bool :=
bif (decide (a1 ≥ (0 : Int))) && (decide (a1 < (63 : Int))) then
((ck (0 ≤ IntKind.wrap .u64 (a1))).bind fun _ =>
some ((bAnd .i64 a0 (bShl .i64 (1 : Int) (IntKind.wrap .u64 (a1)))) != (0 : Int)))
else
(some false)
theorem ref_Bit_ok {a0 : Int} {a1 : Int} {r : Bool} (h : ref_Bit a0 a1 = some r) : FnC Try.prog 82 [aI a0, aI a1] [] (aB r) [] := by
  refine fnC_of_W (B := bodyOf Try.f82) (n := 19) Try.func82 (by kernel_rfl) (by kernel_rfl) (by kernel_rfl) (by kernel_rfl) (by kernel_rfl) ?_
  intro K
  refine W_seq (by kernel_rfl) ?_
  refine W_run 1 [] [0, 1] [] (fr' := [(0, aI a0), (1, aI a1)]) (L' := []) (obs := []) (by kernel_rfl) (by kernel_rfl) (by kernel_rfl) allP0 ?_
  refine seqQ_norm ?_
  refine W_seq (by kernel_rfl) ?_
  refine W_region (by kernel_rfl) ?_
  refine WO_run (j := 7) (k := 7) (orcs := []) (kF := [0, 1, 11]) (kL := []) (fr' := [(0, aI a0), (1, aI a1), (11, aB ((decide (a1 ≥ (0 : Int))) && (decide (a1 < (63 : Int)))))]) (L' := []) (obs := []) rfl (by kernel_rfl) allP0 ?_
  rcases Bool.eq_false_or_eq_true ((decide (a1 ≥ (0 : Int))) && (decide (a1 < (63 : Int)))) with h1 | h1
  · replace h := ofT h1 h
    obtain ⟨_, h2, h⟩ := bind_of h
    replace h2 := ck_some h2
    refine WO_run (j := 15) (k := 8) (orcs := [(14, .known true), (16, .known true), (18, .known true), (20, .known true), (22, .known true), (24, .known true), (27, .val (.dat .bool true))]) (kF := [4]) (kL := []) (fr' := [(4, aB ((bAnd .i64 a0 (bShl .i64 (1 : Int) (IntKind.wrap .u64 (a1)))) != (0 : Int)))]) (L' := []) (obs := [(((decide (a1 ≥ (0 : Int))) && (decide (a1 < (63 : Int)))) = true), (((decide (a1 ≥ (0 : Int))) && (decide (a1 < (63 : Int)))) = true), (((decide (a1 ≥ (0 : Int))) && (decide (a1 < (63 : Int)))) = true), (((decide (a1 ≥ (0 : Int))) && (decide (a1 < (63 : Int)))) = true), (0 ≤ IntKind.wrap .u64 (a1)), (((decide (a1 ≥ (0 : Int))) && (decide (a1 < (63 : Int)))) = true), (((decide (a1 ≥ (0 : Int))) && (decide (a1 < (63 : Int)))) = true), (((decide (a1 ≥ (0 : Int))) && (decide (a1 < (63 : Int)))) = true)]) rfl (by kernel_rfl) (allP2 h1 (allP2 h1 (allP2 h1 (allP2 h1 (allP2 h2 (allP2 h1 (allP2 h1 (allP1 h1)))))))) ?_
    refine WO_fin [4] [] (fr' := [(4, aB ((bAnd .i64 a0 (bShl .i64 (1 : Int) (IntKind.wrap .u64 (a1)))) != (0 : Int)))]) (L' := []) (by kernel_rfl) (by kernel_rfl) ?_
    refine seqQ_norm ?_
    obtain rfl := Option.some.inj h
    refine W_ret [4] [] (fr' := [(4, aB ((bAnd .i64 a0 (bShl .i64 (1 : Int) (IntKind.wrap .u64 (a1)))) != (0 : Int)))]) (L' := []) (by kernel_rfl) (by kernel_rfl) ?_
    exact retQ_mk (by kernel_rfl) (by kernel_rfl) (by kernel_rfl)
  · replace h := ofF h1 h
    refine WO_run (j := 15) (k := 8) (orcs := [(14, .known false), (16, .known false), (18, .known false), (20, .known false), (22, .known false), (24, .known false), (27, .val (.dat .bool false))]) (kF := [4]) (kL := []) (fr' := [(4, aB false)]) (L' := []) (obs := [(((decide (a1 ≥ (0 : Int))) && (decide (a1 < (63 : Int)))) = false), (((decide (a1 ≥ (0 : Int))) && (decide (a1 < (63 : Int)))) = false), (((decide (a1 ≥ (0 : Int))) && (decide (a1 < (63 : Int)))) = false), (((decide (a1 ≥ (0 : Int))) && (decide (a1 < (63 : Int)))) = false), (((decide (a1 ≥ (0 : Int))) && (decide (a1 < (63 : Int)))) = false), (((decide (a1 ≥ (0 : Int))) && (decide (a1 < (63 : Int)))) = false), (((decide (a1 ≥ (0 : Int))) && (decide (a1 < (63 : Int)))) = false)]) rfl (by kernel_rfl) (allP2 h1 (allP2 h1 (allP2 h1 (allP2 h1 (allP2 h1 (allP2 h1 (allP1 h1))))))) ?_
    refine WO_fin [4] [] (fr' := [(4, aB false)]) (L' := []) (by kernel_rfl) (by kernel_rfl) ?_
    refine seqQ_norm ?_
    obtain rfl := Option.some.inj h
    refine W_ret [4] [] (fr' := [(4, aB false)]) (L' := []) (by kernel_rfl) (by kernel_rfl) ?_
    exact retQ_mk (by kernel_rfl) (by kernel_rfl) (by kernel_rfl)

@[reducible] def ref_Weigh_s3 (a0 : Int) (a1 : (List Int)) (i39 : Int) (v : Int) : Fr × LL := ([(0, aD (.int .u32) a0), (5, aI v), (8, aD (.slice tI) a1), (9, aI (List.length a1 : Int)), (10, aI i39)], [])
def ref_Weigh_b4 (a0 : Int) (i39 : Int) (v42 : Int) (x40 : Int) : Option (Flow Int Int) :=
((ref_Bit (w64 (a0)) i39).bind fun r51 =>
bif r51 then
(some (w64 (x40 + v42)))
else
(some x40)).bind fun v54 =>
some (.next v54)
@[reducible] def ref_Weigh_s5 (a0 : Int) (a1 : (List Int)) (v : Int × Int) : Fr × LL := ([(0, aD (.int .u32) a0), (5, aI v.2), (8, aD (.slice tI) a1), (9, aI (List.length a1 : Int)), (10, aI v.1)], [])
@[reducible] def ref_Weigh_s6 (v : Int) : Fr × LL := ([(5, aI v)], [])
def ref_Weigh (a0 : Int) (a1 : (List Int)) : Option Int :=
(forL (ref_Weigh_b4 a0) (fun x40 => x40) a1 0 (0 : Int)).bind fun v57 =>
some v57
theorem ref_Weigh_ok {a0 : Int} {a1 : (List Int)} {r : Int} (h : ref_Weigh a0 a1 = some r) : FnC Try.prog 56 [aD (.int .u32) a0, aD (.slice tI) a1] [] (aI r) [] := by
  refine fnC_of_W (B := bodyOf Try.f56) (n := 24) Try.func56 (by kernel_rfl) (by kernel_rfl) (by kernel_rfl) (by kernel_rfl) (by kernel_rfl) ?_
  intro K
  refine W_seq (by kernel_rfl) ?_
  refine W_run 1 [] [0, 1] [] (fr' := [(0, aD (.int .u32) a0), (1, aD (.slice tI) a1)]) (L' := []) (obs := []) (by kernel_rfl) (by kernel_rfl) (by kernel_rfl) allP0 ?_
  refine seqQ_norm ?_
  refine W_seq (by kernel_rfl) ?_
  refine W_run 1 [] [0, 1, 5] [] (fr' := [(0, aD (.int .u32) a0), (1, aD (.slice tI) a1), (5, aI (0 : Int))]) (L' := []) (obs := []) (by kernel_rfl) (by kernel_rfl) (by kernel_rfl) allP0 ?_
  refine seqQ_norm ?_
  refine W_seq (by kernel_rfl) ?_
  refine W_seq (by kernel_rfl) ?_
  refine W_run 3 [] [0, 5, 8, 9, 10] [] (fr' := [(0, aD (.int .u32) a0), (5, aI (0 : Int)), (8, aD (.slice tI) a1), (9, aI (List.length a1 : Int)), (10, aI (0 : Int))]) (L' := []) (obs := []) (by kernel_rfl) (by kernel_rfl) (by kernel_rfl) allP0 ?_
  refine seqQ_norm ?_
  refine W_block (id := 0) (by kernel_rfl) ?_
  obtain ⟨v57, h58, h⟩ := bind_of h
  refine W_len (t := 8) (u := tI) (xs := a1) (by kernel_rfl) (fun h61 => ?_)
  obtain ⟨h59, h60⟩ := forL_iter h61 h58
  refine W_weaken [0, 5, 8, 9, 10] [] (fr' := ((ref_Weigh_s5 a0 a1) ((0 : Int), (0 : Int))).1) (L' := ((ref_Weigh_s5 a0 a1) ((0 : Int), (0 : Int))).2) (by kernel_rfl) ?_
  refine W_cutK (W_loop (S := (ref_Weigh_s5 a0 a1)) (J := (exQ (.exit 0) ref_Weigh_s6)) (by kernel_rfl) ?_ h59 _ v57 h60) ?_
  · rintro ⟨i39, x40⟩ s h
    refine W_seq (by kernel_rfl) ?_
    refine W_run 1 [] [0, 5, 8, 9, 10, 11] [] (fr' := [(0, aD (.int .u32) a0), (5, aI x40), (8, aD (.slice tI) a1), (9, aI (List.length a1 : Int)), (10, aI i39), (11, aB (decide (i39 < (List.length a1 : Int))))]) (L' := []) (obs := []) (by kernel_rfl) (by kernel_rfl) (by kernel_rfl) allP0 ?_
    refine seqQ_norm ?_
    refine W_seq (by kernel_rfl) ?_
    refine W_cond (o := .tmp 11) (b := decide (i39 < (List.length a1 : Int))) (by kernel_rfl) (by kernel_rfl) (fun h44 => ?_) (fun h44 => ?_)
    · replace h := stepL_true h44 h
      obtain ⟨v42, _, h43, h, rfl⟩ := h
      refine W_skip [0, 5, 8, 9, 10] [] (fr' := [(0, aD (.int .u32) a0), (5, aI x40), (8, aD (.slice tI) a1), (9, aI (List.length a1 : Int)), (10, aI i39)]) (L' := []) (by kernel_rfl) (by kernel_rfl) ?_
      refine seqQ_norm ?_
      refine W_seq (by kernel_rfl) ?_
      obtain ⟨v54, h55, h⟩ := bind_of h
      refine W_cutK (Q' := (exQ .normal (ref_Weigh_s3 a0 a1 i39)) v54) ?_ ?_
      · replace h := h55
        refine W_block (id := 1) (by kernel_rfl) ?_
        refine W_seq (by kernel_rfl) ?_
        refine W_run 5 [(3, .val (.dat tI v42))] [0, 5, 6, 7, 8, 9, 10] [] (fr' := [(0, aD (.int .u32) a0), (5, aI x40), (6, aI i39), (7, aI v42), (8, aD (.slice tI) a1), (9, aI (List.length a1 : Int)), (10, aI i39)]) (L' := []) (obs := [Idx a1 i39 v42]) (by kernel_rfl) (by kernel_rfl) (by kernel_rfl) (allP1 (Idx.of h43)) ?_
        refine seqQ_norm ?_
        refine W_seq (by kernel_rfl) ?_
        refine W_region (by kernel_rfl) ?_
        refine WO_run (j := 3) (k := 3) (orcs := []) (kF := [0, 5, 7, 8, 9, 10, 16, 17]) (kL := []) (fr' := [(0, aD (.int .u32) a0), (5, aI x40), (7, aI v42), (8, aD (.slice tI) a1), (9, aI (List.length a1 : Int)), (10, aI i39), (16, aI (w64 (a0))), (17, aI i39)]) (L' := []) (obs := []) rfl (by kernel_rfl) allP0 ?_
        obtain ⟨r51, h52, h⟩ := bind_of h
        refine WO_call0 (us := [none, none]) (d := 18) (p := True) (j := 4) rfl ⟨by kernel_rfl, by kernel_rfl, by kernel_rfl⟩ trivial (ref_Bit_ok h52) (by kernel_rfl) ?_
        refine WO_fin [0, 5, 7, 8, 9, 10, 18] [] (fr' := [(0, aD (.int .u32) a0), (5, aI x40), (7, aI v42), (8, aD (.slice tI) a1), (9, aI (List.length a1 : Int)), (10, aI i39), (18, aB r51)]) (L' := []) (by kernel_rfl) (by kernel_rfl) ?_
        refine seqQ_norm ?_
        refine W_cond (o := .tmp 18) (b := r51) (by kernel_rfl) (by kernel_rfl) (fun h53 => ?_) (fun h53 => ?_)
        · replace h := ofT h53 h
          obtain rfl := Option.some.inj h
          refine W_run 4 [] [0, 5, 8, 9, 10] [] (fr' := [(0, aD (.int .u32) a0), (5, aI (w64 (x40 + v42))), (8, aD (.slice tI) a1), (9, aI (List.length a1 : Int)), (10, aI i39)]) (L' := []) (obs := []) (by kernel_rfl) (by kernel_rfl) (by kernel_rfl) allP0 ?_
          refine blockQ_norm ?_
          exact exQ_mk (by kernel_rfl) (by kernel_rfl)
        · replace h := ofF h53 h
          obtain rfl := Option.some.inj h
          refine W_skip [0, 5, 8, 9, 10] [] (fr' := [(0, aD (.int .u32) a0), (5, aI x40), (8, aD (.slice tI) a1), (9, aI (List.length a1 : Int)), (10, aI i39)]) (L' := []) (by kernel_rfl) (by kernel_rfl) ?_
          refine blockQ_norm ?_
          exact exQ_mk (by kernel_rfl) (by kernel_rfl)
      · intro e fr L hJ
        obtain ⟨rfl, rfl, rfl⟩ := hJ
        refine LT_keep [0, 5, 8, 9, 10] [] (fr' := [(0, aD (.int .u32) a0), (5, aI v54), (8, aD (.slice tI) a1), (9, aI (List.length a1 : Int)), (10, aI i39)]) (L' := []) (by kernel_rfl) ?_
        refine seqQ_norm ?_
        obtain rfl := Option.some.inj h
        refine W_run 2 [] [0, 5, 8, 9, 10] [] (fr' := [(0, aD (.int .u32) a0), (5, aI v54), (8, aD (.slice tI) a1), (9, aI (List.length a1 : Int)), (10, aI (w64 (i39 + (1 : Int))))]) (L' := []) (obs := []) (by kernel_rfl) (by kernel_rfl) (by kernel_rfl) allP0 ?_
        exact round_next' (by kernel_rfl) (by kernel_rfl)
    · obtain rfl := stepL_false h44 h
      refine W_exit (id := 0) [5] [] (fr' := [(5, aI x40)]) (L' := []) (by kernel_rfl) (by kernel_rfl) ?_
      refine seqQ_exit ?_
      refine round_exit ?_
      exact exQ_mk (by kernel_rfl) (by kernel_rfl)
  · intro e fr L hJ
    obtain ⟨rfl, rfl, rfl⟩ := hJ
    refine LT_keep [5] [] (fr' := [(5, aI v57)]) (L' := []) (by kernel_rfl) ?_
    refine blockQ_hit ?_
    refine seqQ_norm ?_
    refine W_seq (by kernel_rfl) ?_
    refine W_run 2 [] [4] [] (fr' := [(4, aI v57)]) (L' := []) (obs := []) (by kernel_rfl) (by kernel_rfl) (by kernel_rfl) allP0 ?_
    refine seqQ_norm ?_
    obtain rfl := Option.some.inj h
    refine W_ret [4] [] (fr' := [(4, aI v57)]) (L' := []) (by kernel_rfl) (by kernel_rfl) ?_
    exact retQ_mk (by kernel_rfl) (by kernel_rfl) (by kernel_rfl)

@[reducible] def ref_Lightest_s3 (a0 : (List Int)) (a1 : (List Int)) (i49 : Int) (v : Int) : Fr × LL := ([(0, aD (.slice (.int .u32)) a0), (1, aD (.slice tI) a1), (6, aI v), (17, aD (.slice (.int .u32)) a0), (18, aI (List.length a0 : Int)), (19, aI i49)], [])
def ref_Lightest_b4 (a1 : (List Int)) (i49 : Int) (v52 : Int) (x50 : Int) : Option (Flow Int Int) :=
((ref_Weigh v52 a1).bind fun r65 =>
bif decide (r65 < x50) then
((ref_Weigh v52 a1).bind fun r68 =>
some r68)
else
(some x50)).bind fun v70 =>
some (.next v70)
@[reducible] def ref_Lightest_s5 (a0 : (List Int)) (a1 : (List Int)) (v : Int × Int) : Fr × LL := ([(0, aD (.slice (.int .u32)) a0), (1, aD (.slice tI) a1), (6, aI v.2), (17, aD (.slice (.int .u32)) a0), (18, aI (List.length a0 : Int)), (19, aI v.1)], [])
@[reducible] def ref_Lightest_s6 (a0 : (List Int)) (a1 : (List Int)) (v : Int) : Fr × LL := ([(0, aD (.slice (.int .u32)) a0), (1, aD (.slice tI) a1), (6, aI v)], [])
def ref_Lightest_g10 (a1 : (List Int)) (v73 : Int) (x114 : (List Int)) (v116 : Int) : Option (List Int) :=
(ref_Weigh v116 a1).bind fun r127 =>
bif r127 == v73 then
((ck ((List.length x114 : Int) + 1 ≤ 4294967296)).bind fun _ =>
some (x114 ++ [v116]))
else
(some x114)
@[reducible] def ref_Lightest_s11 (a0 : (List Int)) (a1 : (List Int)) (v73 : Int) (i113 : Int) (v : (List Int)) : Fr × LL := ([(1, aD (.slice tI) a1), (6, aI v73), (9, .one (.slc 46)), (32, aD (.slice (.int .u32)) a0), (33, aI (List.length a0 : Int)), (34, aI i113)], [(46, .seq (.int .u32) v)])
def ref_Lightest_b12 (a1 : (List Int)) (v73 : Int) (i113 : Int) (v116 : Int) (x114 : (List Int)) : Option (Flow (List Int) (List Int)) :=
(ref_Lightest_g10 a1 v73 x114 v116).bind fun v131 =>
some (.next v131)
@[reducible] def ref_Lightest_s13 (a0 : (List Int)) (a1 : (List Int)) (v73 : Int) (v : Int × (List Int)) : Fr × LL := ([(1, aD (.slice tI) a1), (6, aI v73), (9, .one (.slc 46)), (32, aD (.slice (.int .u32)) a0), (33, aI (List.length a0 : Int)), (34, aI v.1)], [(46, .seq (.int .u32) v.2)])
@[reducible] def ref_Lightest_s14 (v73 : Int) (v : (List Int)) : Fr × LL := ([(6, aI v73), (9, .one (.slc 46))], [(46, .seq (.int .u32) v)])
def ref_Lightest (a0 : (List Int)) (a1 : (List Int)) : Option (Int × (List Int)) :=
(idx a0 (0 : Int)).bind fun v1 =>
(ref_Weigh v1 a1).bind fun r3 =>
(forL (ref_Lightest_b4 a1) (fun x50 => x50) a0 0 r3).bind fun v73 =>
(forL (ref_Lightest_b12 a1 v73) (fun x114 => x114) a0 0 []).bind fun v134 =>
some (v73, v134)
theorem ref_Lightest_ok {a0 : (List Int)} {a1 : (List Int)} {r : (Int × (List Int))} (h : ref_Lightest a0 a1 = some r) : FnC Try.prog 21 [aD (.slice (.int .u32)) a0, aD (.slice tI) a1] [] (.tup [.dat tI r.1, .dat (.slice (.int .u32)) r.2]) [] := by
  refine fnC_of_W (B := bodyOf Try.f21) (n := 50) Try.func21 (by kernel_rfl) (by kernel_rfl) (by kernel_rfl) (by kernel_rfl) (by kernel_rfl) ?_
  intro K
  refine W_seq (by kernel_rfl) ?_
  refine W_run 2 [] [0, 1] [] (fr' := [(0, aD (.slice (.int .u32)) a0), (1, aD (.slice tI) a1)]) (L' := []) (obs := []) (by kernel_rfl) (by kernel_rfl) (by kernel_rfl) allP0 ?_
  refine seqQ_norm ?_
  refine W_seq (by kernel_rfl) ?_
  obtain ⟨v1, h2, h⟩ := bind_of h
  refine W_region (by kernel_rfl) ?_
  refine WO_run (j := 4) (k := 4) (orcs := [(3, .val (.dat (.int .u32) v1))]) (kF := [0, 1, 14, 15]) (kL := []) (fr' := [(0, aD (.slice (.int .u32)) a0), (1, aD (.slice tI) a1), (14, aD (.int .u32) v1), (15, aD (.slice tI) a1)]) (L' := []) (obs := [Idx a0 (0 : Int) v1]) rfl (by kernel_rfl) (allP1 (Idx.of h2)) ?_
  obtain ⟨r3, h4, h⟩ := bind_of h
  refine WO_call0 (us := [none, none]) (d := 16) (p := True) (j := 5) rfl ⟨by kernel_rfl, by kernel_rfl, by kernel_rfl⟩ trivial (ref_Weigh_ok h4) (by kernel_rfl) ?_
  refine WO_run (j := 6) (k := 1) (orcs := []) (kF := [0, 1, 6]) (kL := []) (fr' := [(0, aD (.slice (.int .u32)) a0), (1, aD (.slice tI) a1), (6, aI r3)]) (L' := []) (obs := []) rfl (by kernel_rfl) allP0 ?_
  refine WO_fin [0, 1, 6] [] (fr' := [(0, aD (.slice (.int .u32)) a0), (1, aD (.slice tI) a1), (6, aI r3)]) (L' := []) (by kernel_rfl) (by kernel_rfl) ?_
  refine seqQ_norm ?_
  refine W_seq (by kernel_rfl) ?_
  refine W_seq (by kernel_rfl) ?_
  refine W_run 3 [] [0, 1, 6, 17, 18, 19] [] (fr' := [(0, aD (.slice (.int .u32)) a0), (1, aD (.slice tI) a1), (6, aI r3), (17, aD (.slice (.int .u32)) a0), (18, aI (List.length a0 : Int)), (19, aI (0 : Int))]) (L' := []) (obs := []) (by kernel_rfl) (by kernel_rfl) (by kernel_rfl) allP0 ?_
  refine seqQ_norm ?_
  refine W_block (id := 0) (by kernel_rfl) ?_
  obtain ⟨v73, h74, h⟩ := bind_of h
  refine W_len (t := 17) (u := (.int .u32)) (xs := a0) (by kernel_rfl) (fun h77 => ?_)
  obtain ⟨h75, h76⟩ := forL_iter h77 h74
  refine W_weaken [0, 1, 6, 17, 18, 19] [] (fr' := ((ref_Lightest_s5 a0 a1) ((0 : Int), r3)).1) (L' := ((ref_Lightest_s5 a0 a1) ((0 : Int), r3)).2) (by kernel_rfl) ?_
  refine W_cutK (W_loop (S := (ref_Lightest_s5 a0 a1)) (J := (exQ (.exit 0) (ref_Lightest_s6 a0 a1))) (by kernel_rfl) ?_ h75 _ v73 h76) ?_
  · rintro ⟨i49, x50⟩ s h
    refine W_seq (by kernel_rfl) ?_
    refine W_run 1 [] [0, 1, 6, 17, 18, 19, 20] [] (fr' := [(0, aD (.slice (.int .u32)) a0), (1, aD (.slice tI) a1), (6, aI x50), (17, aD (.slice (.int .u32)) a0), (18, aI (List.length a0 : Int)), (19, aI i49), (20, aB (decide (i49 < (List.length a0 : Int))))]) (L' := []) (obs := []) (by kernel_rfl) (by kernel_rfl) (by kernel_rfl) allP0 ?_
    refine seqQ_norm ?_
    refine W_seq (by kernel_rfl) ?_
    refine W_cond (o := .tmp 20) (b := decide (i49 < (List.length a0 : Int))) (by kernel_rfl) (by kernel_rfl) (fun h54 => ?_) (fun h54 => ?_)
    · replace h := stepL_true h54 h
      obtain ⟨v52, _, h53, h, rfl⟩ := h
      refine W_skip [0, 1, 6, 17, 18, 19] [] (fr' := [(0, aD (.slice (.int .u32)) a0), (1, aD (.slice tI) a1), (6, aI x50), (17, aD (.slice (.int .u32)) a0), (18, aI (List.length a0 : Int)), (19, aI i49)]) (L' := []) (by kernel_rfl) (by kernel_rfl) ?_
      refine seqQ_norm ?_
      refine W_seq (by kernel_rfl) ?_
      obtain ⟨v70, h71, h⟩ := bind_of h
      refine W_cutK (Q' := (exQ .normal (ref_Lightest_s3 a0 a1 i49)) v70) ?_ ?_
      · replace h := h71
        refine W_block (id := 1) (by kernel_rfl) ?_
        refine W_seq (by kernel_rfl) ?_
        refine W_run 3 [(1, .val (.dat (.int .u32) v52))] [0, 1, 6, 8, 17, 18, 19] [] (fr' := [(0, aD (.slice (.int .u32)) a0), (1, aD (.slice tI) a1), (6, aI x50), (8, aD (.int .u32) v52), (17, aD (.slice (.int .u32)) a0), (18, aI (List.length a0 : Int)), (19, aI i49)]) (L' := []) (obs := [Idx a0 i49 v52]) (by kernel_rfl) (by kernel_rfl) (by kernel_rfl) (allP1 (Idx.of h53)) ?_
        refine seqQ_norm ?_
        refine W_seq (by kernel_rfl) ?_
        refine W_region (by kernel_rfl) ?_
        refine WO_run (j := 2) (k := 2) (orcs := []) (kF := [0, 1, 6, 8, 17, 18, 19, 23, 24]) (kL := []) (fr' := [(0, aD (.slice (.int .u32)) a0), (1, aD (.slice tI) a1), (6, aI x50), (8, aD (.int .u32) v52), (17, aD (.slice (.int .u32)) a0), (18, aI (List.length a0 : Int)), (19, aI i49), (23, aD (.int .u32) v52), (24, aD (.slice tI) a1)]) (L' := []) (obs := []) rfl (by kernel_rfl) allP0 ?_
        obtain ⟨r65, h66, h⟩ := bind_of h
        refine WO_call0 (us := [none, none]) (d := 25) (p := True) (j := 3) rfl ⟨by kernel_rfl, by kernel_rfl, by kernel_rfl⟩ trivial (ref_Weigh_ok h66) (by kernel_rfl) ?_
        refine WO_run (j := 5) (k := 2) (orcs := []) (kF := [0, 1, 6, 8, 17, 18, 19, 27]) (kL := []) (fr' := [(0, aD (.slice (.int .u32)) a0), (1, aD (.slice tI) a1), (6, aI x50), (8, aD (.int .u32) v52), (17, aD (.slice (.int .u32)) a0), (18, aI (List.length a0 : Int)), (19, aI i49), (27, aB (decide (r65 < x50)))]) (L' := []) (obs := []) rfl (by kernel_rfl) allP0 ?_
        refine WO_fin [0, 1, 6, 8, 17, 18, 19, 27] [] (fr' := [(0, aD (.slice (.int .u32)) a0), (1, aD (.slice tI) a1), (6, aI x50), (8, aD (.int .u32) v52), (17, aD (.slice (.int .u32)) a0), (18, aI (List.length a0 : Int)), (19, aI i49), (27, aB (decide (r65 < x50)))]) (L' := []) (by kernel_rfl) (by kernel_rfl) ?_
        refine seqQ_norm ?_
        refine W_cond (o := .tmp 27) (b := decide (r65 < x50)) (by kernel_rfl) (by kernel_rfl) (fun h67 => ?_) (fun h67 => ?_)
        · replace h := ofT h67 h
          refine W_region (by kernel_rfl) ?_
          refine WO_run (j := 2) (k := 2) (orcs := []) (kF := [0, 1, 6, 17, 18, 19, 28, 29]) (kL := []) (fr' := [(0, aD (.slice (.int .u32)) a0), (1, aD (.slice tI) a1), (6, aI x50), (17, aD (.slice (.int .u32)) a0), (18, aI (List.length a0 : Int)), (19, aI i49), (28, aD (.int .u32) v52), (29, aD (.slice tI) a1)]) (L' := []) (obs := []) rfl (by kernel_rfl) allP0 ?_
          obtain ⟨r68, h69, h⟩ := bind_of h
          refine WO_call0 (us := [none, none]) (d := 30) (p := True) (j := 3) rfl ⟨by kernel_rfl, by kernel_rfl, by kernel_rfl⟩ trivial (ref_Weigh_ok h69) (by kernel_rfl) ?_
          refine WO_run (j := 4) (k := 1) (orcs := []) (kF := [0, 1, 6, 17, 18, 19]) (kL := []) (fr' := [(0, aD (.slice (.int .u32)) a0), (1, aD (.slice tI) a1), (6, aI r68), (17, aD (.slice (.int .u32)) a0), (18, aI (List.length a0 : Int)), (19, aI i49)]) (L' := []) (obs := []) rfl (by kernel_rfl) allP0 ?_
          obtain rfl := Option.some.inj h
          refine WO_fin [0, 1, 6, 17, 18, 19] [] (fr' := [(0, aD (.slice (.int .u32)) a0), (1, aD (.slice tI) a1), (6, aI r68), (17, aD (.slice (.int .u32)) a0), (18, aI (List.length a0 : Int)), (19, aI i49)]) (L' := []) (by kernel_rfl) (by kernel_rfl) ?_
          refine blockQ_norm ?_
          exact exQ_mk (by kernel_rfl) (by kernel_rfl)
        · replace h := ofF h67 h
          obtain rfl := Option.some.inj h
          refine W_skip [0, 1, 6, 17, 18, 19] [] (fr' := [(0, aD (.slice (.int .u32)) a0), (1, aD (.slice tI) a1), (6, aI x50), (17, aD (.slice (.int .u32)) a0), (18, aI (List.length a0 : Int)), (19, aI i49)]) (L' := []) (by kernel_rfl) (by kernel_rfl) ?_
          refine blockQ_norm ?_
          exact exQ_mk (by kernel_rfl) (by kernel_rfl)
      · intro e fr L hJ
        obtain ⟨rfl, rfl, rfl⟩ := hJ
        refine LT_keep [0, 1, 6, 17, 18, 19] [] (fr' := [(0, aD (.slice (.int .u32)) a0), (1, aD (.slice tI) a1), (6, aI v70), (17, aD (.slice (.int .u32)) a0), (18, aI (List.length a0 : Int)), (19, aI i49)]) (L' := []) (by kernel_rfl) ?_
        refine seqQ_norm ?_
        obtain rfl := Option.some.inj h
        refine W_run 2 [] [0, 1, 6, 17, 18, 19] [] (fr' := [(0, aD (.slice (.int .u32)) a0), (1, aD (.slice tI) a1), (6, aI v70), (17, aD (.slice (.int .u32)) a0), (18, aI (List.length a0 : Int)), (19, aI (w64 (i49 + (1 : Int))))]) (L' := []) (obs := []) (by kernel_rfl) (by kernel_rfl) (by kernel_rfl) allP0 ?_
        exact round_next' (by kernel_rfl) (by kernel_rfl)
    · obtain rfl := stepL_false h54 h
      refine W_exit (id := 0) [0, 1, 6] [] (fr' := [(0, aD (.slice (.int .u32)) a0), (1, aD (.slice tI) a1), (6, aI x50)]) (L' := []) (by kernel_rfl) (by kernel_rfl) ?_
      refine seqQ_exit ?_
      refine round_exit ?_
      exact exQ_mk (by kernel_rfl) (by kernel_rfl)
  · intro e fr L hJ
    obtain ⟨rfl, rfl, rfl⟩ := hJ
    refine LT_keep [0, 1, 6] [] (fr' := [(0, aD (.slice (.int .u32)) a0), (1, aD (.slice tI) a1), (6, aI v73)]) (L' := []) (by kernel_rfl) ?_
    refine blockQ_hit ?_
    refine seqQ_norm ?_
    refine W_seq (by kernel_rfl) ?_
    refine W_run 1 [] [0, 1, 6, 9] [] (fr' := [(0, aD (.slice (.int .u32)) a0), (1, aD (.slice tI) a1), (6, aI v73), (9, .one (.nilS))]) (L' := []) (obs := []) (by kernel_rfl) (by kernel_rfl) (by kernel_rfl) allP0 ?_
    refine seqQ_norm ?_
    refine W_seq (by kernel_rfl) ?_
    refine W_seq (by kernel_rfl) ?_
    refine W_run 3 [] [1, 6, 9, 32, 33, 34] [] (fr' := [(1, aD (.slice tI) a1), (6, aI v73), (9, .one (.nilS)), (32, aD (.slice (.int .u32)) a0), (33, aI (List.length a0 : Int)), (34, aI (0 : Int))]) (L' := []) (obs := []) (by kernel_rfl) (by kernel_rfl) (by kernel_rfl) allP0 ?_
    refine seqQ_norm ?_
    refine W_block (id := 2) (by kernel_rfl) ?_
    obtain ⟨v134, h135, h⟩ := bind_of h
    refine W_len (t := 32) (u := (.int .u32)) (xs := a0) (by kernel_rfl) (fun h138 => ?_)
    obtain ⟨h136, h137⟩ := forL_iter h138 h135
    refine W_mine 9 46 (.int .u32) (by kernel_rfl) ?_
    refine W_weaken [1, 6, 9, 32, 33, 34] [46] (fr' := ((ref_Lightest_s13 a0 a1 v73) ((0 : Int), [])).1) (L' := ((ref_Lightest_s13 a0 a1 v73) ((0 : Int), [])).2) (by kernel_rfl) ?_
    refine W_cutK (W_loop (S := (ref_Lightest_s13 a0 a1 v73)) (J := (exQ (.exit 2) (ref_Lightest_s14 v73))) (by kernel_rfl) ?_ h136 _ v134 h137) ?_
    · rintro ⟨i113, x114⟩ s h
      refine W_seq (by kernel_rfl) ?_
      refine W_run 1 [] [1, 6, 9, 32, 33, 34, 35] [46] (fr' := [(1, aD (.slice tI) a1), (6, aI v73), (9, .one (.slc 46)), (32, aD (.slice (.int .u32)) a0), (33, aI (List.length a0 : Int)), (34, aI i113), (35, aB (decide (i113 < (List.length a0 : Int))))]) (L' := [(46, .seq (.int .u32) x114)]) (obs := []) (by kernel_rfl) (by kernel_rfl) (by kernel_rfl) allP0 ?_
      refine seqQ_norm ?_
      refine W_seq (by kernel_rfl) ?_
      refine W_cond (o := .tmp 35) (b := decide (i113 < (List.length a0 : Int))) (by kernel_rfl) (by kernel_rfl) (fun h118 => ?_) (fun h118 => ?_)
      · replace h := stepL_true h118 h
        obtain ⟨v116, _, h117, h, rfl⟩ := h
        refine W_skip [1, 6, 9, 32, 33, 34] [46] (fr' := [(1, aD (.slice tI) a1), (6, aI v73), (9, .one (.slc 46)), (32, aD (.slice (.int .u32)) a0), (33, aI (List.length a0 : Int)), (34, aI i113)]) (L' := [(46, .seq (.int .u32) x114)]) (by kernel_rfl) (by kernel_rfl) ?_
        refine seqQ_norm ?_
        refine W_seq (by kernel_rfl) ?_
        obtain ⟨v131, h132, h⟩ := bind_of h
        refine W_cutK (Q' := (exQ .normal (ref_Lightest_s11 a0 a1 v73 i113)) v131) ?_ ?_
        · replace h := h132
          refine W_block (id := 3) (by kernel_rfl) ?_
          refine W_seq (by kernel_rfl) ?_
          refine W_run 3 [(1, .val (.dat (.int .u32) v116))] [1, 6, 9, 11, 32, 33, 34] [46] (fr' := [(1, aD (.slice tI) a1), (6, aI v73), (9, .one (.slc 46)), (11, aD (.int .u32) v116), (32, aD (.slice (.int .u32)) a0), (33, aI (List.length a0 : Int)), (34, aI i113)]) (L' := [(46, .seq (.int .u32) x114)]) (obs := [Idx a0 i113 v116]) (by kernel_rfl) (by kernel_rfl) (by kernel_rfl) (allP1 (Idx.of h117)) ?_
          refine seqQ_norm ?_
          refine W_seq (by kernel_rfl) ?_
          refine W_region (by kernel_rfl) ?_
          refine WO_run (j := 2) (k := 2) (orcs := []) (kF := [1, 6, 9, 11, 32, 33, 34, 38, 39]) (kL := [46]) (fr' := [(1, aD (.slice tI) a1), (6, aI v73), (9, .one (.slc 46)), (11, aD (.int .u32) v116), (32, aD (.slice (.int .u32)) a0), (33, aI (List.length a0 : Int)), (34, aI i113), (38, aD (.int .u32) v116), (39, aD (.slice tI) a1)]) (L' := [(46, .seq (.int .u32) x114)]) (obs := []) rfl (by kernel_rfl) allP0 ?_
          obtain ⟨r127, h128, h⟩ := bind_of h
          refine WO_call0 (us := [none, none]) (d := 40) (p := True) (j := 3) rfl ⟨by kernel_rfl, by kernel_rfl, by kernel_rfl⟩ trivial (ref_Weigh_ok h128) (by kernel_rfl) ?_
          refine WO_run (j := 5) (k := 2) (orcs := []) (kF := [1, 6, 9, 11, 32, 33, 34, 42]) (kL := [46]) (fr' := [(1, aD (.slice tI) a1), (6, aI v73), (9, .one (.slc 46)), (11, aD (.int .u32) v116), (32, aD (.slice (.int .u32)) a0), (33, aI (List.length a0 : Int)), (34, aI i113), (42, aB (r127 == v73))]) (L' := [(46, .seq (.int .u32) x114)]) (obs := []) rfl (by kernel_rfl) allP0 ?_
          refine WO_fin [1, 6, 9, 11, 32, 33, 34, 42] [46] (fr' := [(1, aD (.slice tI) a1), (6, aI v73), (9, .one (.slc 46)), (11, aD (.int .u32) v116), (32, aD (.slice (.int .u32)) a0), (33, aI (List.length a0 : Int)), (34, aI i113), (42, aB (r127 == v73))]) (L' := [(46, .seq (.int .u32) x114)]) (by kernel_rfl) (by kernel_rfl) ?_
          refine seqQ_norm ?_
          refine W_cond (o := .tmp 42) (b := r127 == v73) (by kernel_rfl) (by kernel_rfl) (fun h129 => ?_) (fun h129 => ?_)
          · replace h := ofT h129 h
            obtain ⟨_, h130, h⟩ := bind_of h
            replace h130 := ck_some h130
            obtain rfl := Option.some.inj h
            refine W_run 5 [] [1, 6, 9, 32, 33, 34] [46] (fr' := [(1, aD (.slice tI) a1), (6, aI v73), (9, .one (.slc 46)), (32, aD (.slice (.int .u32)) a0), (33, aI (List.length a0 : Int)), (34, aI i113)]) (L' := [(46, .seq (.int .u32) (x114 ++ [v116]))]) (obs := [SmallLen (List.length x114 + List.length [v116])]) (by kernel_rfl) (by kernel_rfl) (by kernel_rfl) (allP1 h130) ?_
            refine blockQ_norm ?_
            exact exQ_mk (by kernel_rfl) (by kernel_rfl)
          · replace h := ofF h129 h
            obtain rfl := Option.some.inj h
            refine W_skip [1, 6, 9, 32, 33, 34] [46] (fr' := [(1, aD (.slice tI) a1), (6, aI v73), (9, .one (.slc 46)), (32, aD (.slice (.int .u32)) a0), (33, aI (List.length a0 : Int)), (34, aI i113)]) (L' := [(46, .seq (.int .u32) x114)]) (by kernel_rfl) (by kernel_rfl) ?_
            refine blockQ_norm ?_
            exact exQ_mk (by kernel_rfl) (by kernel_rfl)
        · intro e fr L hJ
          obtain ⟨rfl, rfl, rfl⟩ := hJ
          refine LT_keep [1, 6, 9, 32, 33, 34] [46] (fr' := [(1, aD (.slice tI) a1), (6, aI v73), (9, .one (.slc 46)), (32, aD (.slice (.int .u32)) a0), (33, aI (List.length a0 : Int)), (34, aI i113)]) (L' := [(46, .seq (.int .u32) v131)]) (by kernel_rfl) ?_
          refine seqQ_norm ?_
          obtain rfl := Option.some.inj h
          refine W_run 2 [] [1, 6, 9, 32, 33, 34] [46] (fr' := [(1, aD (.slice tI) a1), (6, aI v73), (9, .one (.slc 46)), (32, aD (.slice (.int .u32)) a0), (33, aI (List.length a0 : Int)), (34, aI (w64 (i113 + (1 : Int))))]) (L' := [(46, .seq (.int .u32) v131)]) (obs := []) (by kernel_rfl) (by kernel_rfl) (by kernel_rfl) allP0 ?_
          exact round_next' (by kernel_rfl) (by kernel_rfl)
      · obtain rfl := stepL_false h118 h
        refine W_exit (id := 2) [6, 9] [46] (fr' := [(6, aI v73), (9, .one (.slc 46))]) (L' := [(46, .seq (.int .u32) x114)]) (by kernel_rfl) (by kernel_rfl) ?_
        refine seqQ_exit ?_
        refine round_exit ?_
        exact exQ_mk (by kernel_rfl) (by kernel_rfl)
    · intro e fr L hJ
      obtain ⟨rfl, rfl, rfl⟩ := hJ
      refine LT_keep [6, 9] [46] (fr' := [(6, aI v73), (9, .one (.slc 46))]) (L' := [(46, .seq (.int .u32) v134)]) (by kernel_rfl) ?_
      refine blockQ_hit ?_
      refine seqQ_norm ?_
      refine W_seq (by kernel_rfl) ?_
      refine W_run 4 [] [4, 5] [46] (fr' := [(4, aI v73), (5, .one (.slc 46))]) (L' := [(46, .seq (.int .u32) v134)]) (obs := []) (by kernel_rfl) (by kernel_rfl) (by kernel_rfl) allP0 ?_
      refine seqQ_norm ?_
      obtain rfl := Option.some.inj h
      refine W_frz 46 (by kernel_rfl) ?_
      refine W_ret [4, 5] [] (fr' := [(4, aI v73), (5, aD (.slice (.int .u32)) v134)]) (L' := []) (by kernel_rfl) (by kernel_rfl) ?_
      exact retQ_mk (by kernel_rfl) (by kernel_rfl) (by kernel_rfl)

def ref_Words_b1 (a1 : (List Int)) (i16 : Int) (v19 : Int) (x17 : Unit) : Option (Flow Unit (Esc Bool Unit)) :=
(idx a1 i16).bind fun v22 =>
bif v19 != v22 then
(some (.done (.ret false)))
else
(some (.next ()))
@[reducible] def ref_Words_s2 (a0 : (List Int)) (a1 : (List Int)) (v : Int × Unit) : Fr × LL := ([(0, aD (.slice (.int .u32)) a0), (1, aD (.slice (.int .u32)) a1), (5, aI v.1)], [])
@[reducible] def ref_Words_s3 (v : Bool) : Fr × LL := ([(4, aB v)], [])
@[reducible] def ref_Words_s4 (v : Unit) : Fr × LL := ([], [])
def ref_Words (a0 : (List Int)) (a1 : (List Int)) : Option Bool :=
bif (List.length a0 : Int) != (List.length a1 : Int) then
(some false)
else
((forL (ref_Words_b1 a1) (fun x17 => (.brk ())) a0 0 ()).bind fun v26 =>
match v26 with
| .ret v31 =>
(some v31)
| .brk v32 =>
(some true))
theorem ref_Words_ok {a0 : (List Int)} {a1 : (List Int)} {r : Bool} (h : ref_Words a0 a1 = some r) : FnC Try.prog 17 [aD (.slice (.int .u32)) a0, aD (.slice (.int .u32)) a1] [] (aB r) [] := by
  refine fnC_of_W (B := bodyOf Try.f17) (n := 26) Try.func17 (by kernel_rfl) (by kernel_rfl) (by kernel_rfl) (by kernel_rfl) (by kernel_rfl) ?_
  intro K
  refine W_seq (by kernel_rfl) ?_
  refine W_run 1 [] [0, 1] [] (fr' := [(0, aD (.slice (.int .u32)) a0), (1, aD (.slice (.int .u32)) a1)]) (L' := []) (obs := []) (by kernel_rfl) (by kernel_rfl) (by kernel_rfl) allP0 ?_
  refine seqQ_norm ?_
  refine W_seq (by kernel_rfl) ?_
  refine W_seq (by kernel_rfl) ?_
  refine W_run 5 [] [0, 1, 10] [] (fr' := [(0, aD (.slice (.int .u32)) a0), (1, aD (.slice (.int .u32)) a1), (10, aB ((List.length a0 : Int) != (List.length a1 : Int)))]) (L' := []) (obs := []) (by kernel_rfl) (by kernel_rfl) (by kernel_rfl) allP0 ?_
  refine seqQ_norm ?_
  refine W_cond (o := .tmp 10) (b := (List.length a0 : Int) != (List.length a1 : Int)) (by kernel_rfl) (by kernel_rfl) (fun h1 => ?_) (fun h1 => ?_)
  · replace h := ofT h1 h
    refine W_seq (by kernel_rfl) ?_
    refine W_run 1 [] [4] [] (fr' := [(4, aB false)]) (L' := []) (obs := []) (by kernel_rfl) (by kernel_rfl) (by kernel_rfl) allP0 ?_
    refine seqQ_norm ?_
    obtain rfl := Option.some.inj h
    refine W_ret [4] [] (fr' := [(4, aB false)]) (L' := []) (by kernel_rfl) (by kernel_rfl) ?_
    refine seqQ_ret ?_
    exact retQ_mk (by kernel_rfl) (by kernel_rfl) (by kernel_rfl)
  · replace h := ofF h1 h
    refine W_skip [0, 1] [] (fr' := [(0, aD (.slice (.int .u32)) a0), (1, aD (.slice (.int .u32)) a1)]) (L' := []) (by kernel_rfl) (by kernel_rfl) ?_
    refine seqQ_norm ?_
    refine W_seq (by kernel_rfl) ?_
    refine W_seq (by kernel_rfl) ?_
    refine W_run 1 [] [0, 1, 5] [] (fr' := [(0, aD (.slice (.int .u32)) a0), (1, aD (.slice (.int .u32)) a1), (5, aI (0 : Int))]) (L' := []) (obs := []) (by kernel_rfl) (by kernel_rfl) (by kernel_rfl) allP0 ?_
    refine seqQ_norm ?_
    refine W_block (id := 0) (by kernel_rfl) ?_
    obtain ⟨v26, h27, h⟩ := bind_of h
    refine W_len (t := 0) (u := (.int .u32)) (xs := a0) (by kernel_rfl) (fun h30 => ?_)
    obtain ⟨h28, h29⟩ := forL_iter h30 h27
    refine W_weaken [0, 1, 5] [] (fr' := ((ref_Words_s2 a0 a1) ((0 : Int), ())).1) (L' := ((ref_Words_s2 a0 a1) ((0 : Int), ())).2) (by kernel_rfl) ?_
    refine W_cutK (W_loop (S := (ref_Words_s2 a0 a1)) (J := (escQ (exQ .ret ref_Words_s3) (exQ (.exit 0) ref_Words_s4))) (by kernel_rfl) ?_ h28 _ v26 h29) ?_
    · rintro ⟨i16, x17⟩ s h
      refine W_seq (by kernel_rfl) ?_
      refine W_seq (by kernel_rfl) ?_
      refine W_run 4 [] [0, 1, 5, 14] [] (fr' := [(0, aD (.slice (.int .u32)) a0), (1, aD (.slice (.int .u32)) a1), (5, aI i16), (14, aB (decide (i16 < (List.length a0 : Int))))]) (L' := []) (obs := []) (by kernel_rfl) (by kernel_rfl) (by kernel_rfl) allP0 ?_
      refine seqQ_norm ?_
      refine W_cond (o := .tmp 14) (b := decide (i16 < (List.length a0 : Int))) (by kernel_rfl) (by kernel_rfl) (fun h21 => ?_) (fun h21 => ?_)
      · replace h := stepL_true h21 h
        obtain ⟨v19, _, h20, h, rfl⟩ := h
        refine W_skip [0, 1, 5] [] (fr' := [(0, aD (.slice (.int .u32)) a0), (1, aD (.slice (.int .u32)) a1), (5, aI i16)]) (L' := []) (by kernel_rfl) (by kernel_rfl) ?_
        refine seqQ_norm ?_
        refine W_seq (by kernel_rfl) ?_
        refine W_block (id := 1) (by kernel_rfl) ?_
        refine W_seq (by kernel_rfl) ?_
        obtain ⟨v22, h23, h⟩ := bind_of h
        refine W_draw2 9 [(5, .val (.dat (.int .u32) v19)), (13, .val (.dat (.int .u32) v22))] [] [0, 1, 5, 25] [] (fr' := [(0, aD (.slice (.int .u32)) a0), (1, aD (.slice (.int .u32)) a1), (5, aI i16), (25, aB (v19 != v22))]) (L' := []) (out := [(17, aD (.slice (.int .u32)) a0), (18, aI i16), (19, .one (.dptr (.int .u32) v19)), (20, aD (.int .u32) v19), (21, aD (.slice (.int .u32)) a1), (22, aI i16), (23, .one (.dptr (.int .u32) v22)), (24, aD (.int .u32) v22), (25, aB (v19 != v22))]) (obs := [Idx a0 i16 v19, Idx a1 i16 v22]) (obs2 := []) (calls := []) (by kernel_rfl) (by kernel_rfl) (by kernel_rfl) (by kernel_rfl) (allP2 (Idx.of h20) (allP1 (Idx.of h23))) allC0 (by kernel_rfl) allP0 ?_
        refine seqQ_norm ?_
        refine W_cond (o := .tmp 25) (b := v19 != v22) (by kernel_rfl) (by kernel_rfl) (fun h24 => ?_) (fun h24 => ?_)
        · replace h := ofT h24 h
          refine W_seq (by kernel_rfl) ?_
          refine W_run 1 [] [4] [] (fr' := [(4, aB false)]) (L' := []) (obs := []) (by kernel_rfl) (by kernel_rfl) (by kernel_rfl) allP0 ?_
          refine seqQ_norm ?_
          obtain rfl := Option.some.inj h
          refine W_ret [4] [] (fr' := [(4, aB false)]) (L' := []) (by kernel_rfl) (by kernel_rfl) ?_
          refine blockQ_ret ?_
          refine seqQ_ret ?_
          refine round_ret ?_
          refine escQ_ret ?_
          exact exQ_mk (by kernel_rfl) (by kernel_rfl)
        · replace h := ofF h24 h
          refine W_skip [0, 1, 5] [] (fr' := [(0, aD (.slice (.int .u32)) a0), (1, aD (.slice (.int .u32)) a1), (5, aI i16)]) (L' := []) (by kernel_rfl) (by kernel_rfl) ?_
          refine blockQ_norm ?_
          refine seqQ_norm ?_
          obtain rfl := Option.some.inj h
          refine W_run 3 [] [0, 1, 5] [] (fr' := [(0, aD (.slice (.int .u32)) a0), (1, aD (.slice (.int .u32)) a1), (5, aI (w64 (i16 + (1 : Int))))]) (L' := []) (obs := []) (by kernel_rfl) (by kernel_rfl) (by kernel_rfl) allP0 ?_
          exact round_next' (by kernel_rfl) (by kernel_rfl)
      · obtain rfl := stepL_false h21 h
        refine W_exit (id := 0) [] [] (fr' := []) (L' := []) (by kernel_rfl) (by kernel_rfl) ?_
        refine seqQ_exit ?_
        refine round_exit ?_
        refine escQ_brk ?_
        exact exQ_mk (by kernel_rfl) (by kernel_rfl)
    · intro e fr L hJ
      rcases v26 with v31 | v32
      · obtain ⟨rfl, rfl, rfl⟩ := hJ
        obtain rfl := Option.some.inj h
        refine LT_keep [4] [] (fr' := [(4, aB v31)]) (L' := []) (by kernel_rfl) ?_
        refine blockQ_ret ?_
        refine seqQ_ret ?_
        exact retQ_mk (by kernel_rfl) (by kernel_rfl) (by kernel_rfl)
      · obtain ⟨rfl, rfl, rfl⟩ := hJ
        refine LT_keep [] [] (fr' := []) (L' := []) (by kernel_rfl) ?_
        refine blockQ_hit ?_
        refine seqQ_norm ?_
        refine W_seq (by kernel_rfl) ?_
        refine W_run 1 [] [4] [] (fr' := [(4, aB true)]) (L' := []) (obs := []) (by kernel_rfl) (by kernel_rfl) (by kernel_rfl) allP0 ?_
        refine seqQ_norm ?_
        obtain rfl := Option.some.inj h
        refine W_ret [4] [] (fr' := [(4, aB true)]) (L' := []) (by kernel_rfl) (by kernel_rfl) ?_
        exact retQ_mk (by kernel_rfl) (by kernel_rfl) (by kernel_rfl)

@[reducible] def law_LoneLeasts_s13 (a1 : (List Int)) (a2 : (List Int)) (r1 : (Int × (List Int) × Int)) (i102 : Int) (x103 : Int) (v : Bool) : Fr × LL := ([(1, aD (.slice (.int .u32)) a1), (2, aD (.slice tI) a2), (7, aI r1.1), (8, aD (.slice (.int .u32)) r1.2.1), (9, aI r1.2.2), (10, aI x103), (34, aD (.slice tI) a2), (35, aI (List.length a2 : Int)), (36, aI i102), (46, aB v)], [])
def law_LoneLeasts_g14 (x103 : Int) (v105 : Int) : Option Int :=
(bif x103 == (0 : Int) then
((ref_Within (1 : Int) v105 (1000 : Int)).bind fun r139 =>
some (!r139))
else
(some false)).bind fun v141 =>
bif v141 then
(some (2 : Int))
else
(some x103)
@[reducible] def law_LoneLeasts_s15 (a1 : (List Int)) (a2 : (List Int)) (r1 : (Int × (List Int) × Int)) (i102 : Int) (v : Int) : Fr × LL := ([(1, aD (.slice (.int .u32)) a1), (2, aD (.slice tI) a2), (7, aI r1.1), (8, aD (.slice (.int .u32)) r1.2.1), (9, aI r1.2.2), (10, aI v), (34, aD (.slice tI) a2), (35, aI (List.length a2 : Int)), (36, aI i102)], [])
def law_LoneLeasts_b16 (i102 : Int) (v105 : Int) (x103 : Int) : Option (Flow Int Int) :=
(law_LoneLeasts_g14 x103 v105).bind fun v144 =>
some (.next v144)
@[reducible] def law_LoneLeasts_s17 (a1 : (List Int)) (a2 : (List Int)) (r1 : (Int × (List Int) × Int)) (v : Int × Int) : Fr × LL := ([(1, aD (.slice (.int .u32)) a1), (2, aD (.slice tI) a2), (7, aI r1.1), (8, aD (.slice (.int .u32)) r1.2.1), (9, aI r1.2.2), (10, aI v.2), (34, aD (.slice tI) a2), (35, aI (List.length a2 : Int)), (36, aI v.1)], [])
@[reducible] def law_LoneLeasts_s18 (a1 : (List Int)) (a2 : (List Int)) (r1 : (Int × (List Int) × Int)) (v : Int) : Fr × LL := ([(1, aD (.slice (.int .u32)) a1), (2, aD (.slice tI) a2), (7, aI r1.1), (8, aD (.slice (.int .u32)) r1.2.1), (9, aI r1.2.2), (10, aI v)], [])
@[reducible] def law_LoneLeasts_s19 (v : Bool) : Fr × LL := ([(6, aB v)], [])
@[reducible] def law_LoneLeasts_s20 (a1 : (List Int)) (a2 : (List Int)) (r1 : (Int × (List Int) × Int)) (v : Int) : Fr × LL := ([(1, aD (.slice (.int .u32)) a1), (2, aD (.slice tI) a2), (7, aI r1.1), (8, aD (.slice (.int .u32)) r1.2.1), (9, aI r1.2.2), (10, aI v)], [])
def law_LoneLeasts (fuel : Nat) (a0 : Int) (a1 : (List Int)) (a2 : (List Int)) : Option Bool :=
(lone_Least a0 a1 a2).bind fun r1 =>
(ref_LoneCheck fuel a0 a1).bind fun r3 =>
(bif (r3 == (0 : Int)) && ((List.length a2 : Int) != a0) then
(some (2 : Int))
else
(some r3)).bind fun v8 =>
(forL law_LoneLeasts_b16 (fun x103 => x103) a2 0 v8).bind fun v147 =>
bif v147 != (0 : Int) then
(some (((r1.2.2 == v147) && (r1.1 == (0 : Int))) && ((List.length r1.2.1 : Int) == (0 : Int))))
else
((ref_Lightest a1 a2).bind fun r153 =>
(bif (r1.2.2 == (0 : Int)) && (r1.1 == r153.1) then
((ref_Words r1.2.1 r153.2).bind fun r162 =>
some r162)
else
(some false)).bind fun v164 =>
some v164)
theorem law_LoneLeasts_ok {fuel : Nat} {a0 : Int} {a1 : (List Int)} {a2 : (List Int)} {r : Bool} (h : law_LoneLeasts fuel a0 a1 a2 = some r) : FnC Try.prog 4 [aI a0, aD (.slice (.int .u32)) a1, aD (.slice tI) a2] [] (aB r) [] := by
  refine fnC_of_W (B := bodyOf Try.f4) (n := 80) Try.func4 (by kernel_rfl) (by kernel_rfl) (by kernel_rfl) (by kernel_rfl) (by kernel_rfl) ?_
  intro K
  refine W_seq (by kernel_rfl) ?_
  refine W_run 1 [] [0, 1, 2] [] (fr' := [(0, aI a0), (1, aD (.slice (.int .u32)) a1), (2, aD (.slice tI) a2)]) (L' := []) (obs := []) (by kernel_rfl) (by kernel_rfl) (by kernel_rfl) allP0 ?_
  refine seqQ_norm ?_
  refine W_seq (by kernel_rfl) ?_
  refine W_region (by kernel_rfl) ?_
  refine WO_run (j := 3) (k := 3) (orcs := []) (kF := [0, 1, 2, 16, 17, 18]) (kL := []) (fr' := [(0, aI a0), (1, aD (.slice (.int .u32)) a1), (2, aD (.slice tI) a2), (16, aI a0), (17, aD (.slice (.int .u32)) a1), (18, aD (.slice tI) a2)]) (L' := []) (obs := []) rfl (by kernel_rfl) allP0 ?_
  obtain ⟨r1, h2, h⟩ := bind_of h
  refine WO_call0 (us := [none, none, none]) (d := 19) (p := True) (j := 4) rfl ⟨by kernel_rfl, by kernel_rfl, by kernel_rfl⟩ trivial (lone_Least_ok h2) (by kernel_rfl) ?_
  refine WO_run (j := 11) (k := 7) (orcs := []) (kF := [0, 1, 2, 7, 8, 9]) (kL := []) (fr' := [(0, aI a0), (1, aD (.slice (.int .u32)) a1), (2, aD (.slice tI) a2), (7, aI r1.1), (8, aD (.slice (.int .u32)) r1.2.1), (9, aI r1.2.2)]) (L' := []) (obs := []) rfl (by kernel_rfl) allP0 ?_
  refine WO_fin [0, 1, 2, 7, 8, 9] [] (fr' := [(0, aI a0), (1, aD (.slice (.int .u32)) a1), (2, aD (.slice tI) a2), (7, aI r1.1), (8, aD (.slice (.int .u32)) r1.2.1), (9, aI r1.2.2)]) (L' := []) (by kernel_rfl) (by kernel_rfl) ?_
  refine seqQ_norm ?_
  refine W_seq (by kernel_rfl) ?_
  refine W_region (by kernel_rfl) ?_
  refine WO_run (j := 2) (k := 2) (orcs := []) (kF := [0, 1, 2, 7, 8, 9, 23, 24]) (kL := []) (fr' := [(0, aI a0), (1, aD (.slice (.int .u32)) a1), (2, aD (.slice tI) a2), (7, aI r1.1), (8, aD (.slice (.int .u32)) r1.2.1), (9, aI r1.2.2), (23, aI a0), (24, aD (.slice (.int .u32)) a1)]) (L' := []) (obs := []) rfl (by kernel_rfl) allP0 ?_
  obtain ⟨r3, h4, h⟩ := bind_of h
  refine WO_call0 (us := [none, none]) (d := 25) (p := True) (j := 3) rfl ⟨by kernel_rfl, by kernel_rfl, by kernel_rfl⟩ trivial (ref_LoneCheck_ok h4) (by kernel_rfl) ?_
  refine WO_run (j := 4) (k := 1) (orcs := []) (kF := [0, 1, 2, 7, 8, 9, 10]) (kL := []) (fr' := [(0, aI a0), (1, aD (.slice (.int .u32)) a1), (2, aD (.slice tI) a2), (7, aI r1.1), (8, aD (.slice (.int .u32)) r1.2.1), (9, aI r1.2.2), (10, aI r3)]) (L' := []) (obs := []) rfl (by kernel_rfl) allP0 ?_
  refine WO_fin [0, 1, 2, 7, 8, 9, 10] [] (fr' := [(0, aI a0), (1, aD (.slice (.int .u32)) a1), (2, aD (.slice tI) a2), (7, aI r1.1), (8, aD (.slice (.int .u32)) r1.2.1), (9, aI r1.2.2), (10, aI r3)]) (L' := []) (by kernel_rfl) (by kernel_rfl) ?_
  refine seqQ_norm ?_
  refine W_seq (by kernel_rfl) ?_
  obtain ⟨v8, h9, h⟩ := bind_of h
  refine W_cutK (Q' := (exQ .normal (law_LoneLeasts_s20 a1 a2 r1)) v8) ?_ ?_
  · replace h := h9
    refine W_seq (by kernel_rfl) ?_
    refine W_run 8 [] [1, 2, 7, 8, 9, 10, 33] [] (fr' := [(1, aD (.slice (.int .u32)) a1), (2, aD (.slice tI) a2), (7, aI r1.1), (8, aD (.slice (.int .u32)) r1.2.1), (9, aI r1.2.2), (10, aI r3), (33, aB ((r3 == (0 : Int)) && ((List.length a2 : Int) != a0)))]) (L' := []) (obs := []) (by kernel_rfl) (by kernel_rfl) (by kernel_rfl) allP0 ?_
    refine seqQ_norm ?_
    refine W_cond (o := .tmp 33) (b := (r3 == (0 : Int)) && ((List.length a2 : Int) != a0)) (by kernel_rfl) (by kernel_rfl) (fun h7 => ?_) (fun h7 => ?_)
    · replace h := ofT h7 h
      obtain rfl := Option.some.inj h
      refine W_run 1 [] [1, 2, 7, 8, 9, 10] [] (fr' := [(1, aD (.slice (.int .u32)) a1), (2, aD (.slice tI) a2), (7, aI r1.1), (8, aD (.slice (.int .u32)) r1.2.1), (9, aI r1.2.2), (10, aI (2 : Int))]) (L' := []) (obs := []) (by kernel_rfl) (by kernel_rfl) (by kernel_rfl) allP0 ?_
      exact exQ_mk (by kernel_rfl) (by kernel_rfl)
    · replace h := ofF h7 h
      obtain rfl := Option.some.inj h
      refine W_skip [1, 2, 7, 8, 9, 10] [] (fr' := [(1, aD (.slice (.int .u32)) a1), (2, aD (.slice tI) a2), (7, aI r1.1), (8, aD (.slice (.int .u32)) r1.2.1), (9, aI r1.2.2), (10, aI r3)]) (L' := []) (by kernel_rfl) (by kernel_rfl) ?_
      exact exQ_mk (by kernel_rfl) (by kernel_rfl)
  · intro e fr L hJ
    obtain ⟨rfl, rfl, rfl⟩ := hJ
    refine LT_keep [1, 2, 7, 8, 9, 10] [] (fr' := [(1, aD (.slice (.int .u32)) a1), (2, aD (.slice tI) a2), (7, aI r1.1), (8, aD (.slice (.int .u32)) r1.2.1), (9, aI r1.2.2), (10, aI v8)]) (L' := []) (by kernel_rfl) ?_
    refine seqQ_norm ?_
    refine W_seq (by kernel_rfl) ?_
    refine W_seq (by kernel_rfl) ?_
    refine W_run 3 [] [1, 2, 7, 8, 9, 10, 34, 35, 36] [] (fr' := [(1, aD (.slice (.int .u32)) a1), (2, aD (.slice tI) a2), (7, aI r1.1), (8, aD (.slice (.int .u32)) r1.2.1), (9, aI r1.2.2), (10, aI v8), (34, aD (.slice tI) a2), (35, aI (List.length a2 : Int)), (36, aI (0 : Int))]) (L' := []) (obs := []) (by kernel_rfl) (by kernel_rfl) (by kernel_rfl) allP0 ?_
    refine seqQ_norm ?_
    refine W_block (id := 0) (by kernel_rfl) ?_
    obtain ⟨v147, h148, h⟩ := bind_of h
    refine W_len (t := 34) (u := tI) (xs := a2) (by kernel_rfl) (fun h151 => ?_)
    obtain ⟨h149, h150⟩ := forL_iter h151 h148
    refine W_weaken [1, 2, 7, 8, 9, 10, 34, 35, 36] [] (fr' := ((law_LoneLeasts_s17 a1 a2 r1) ((0 : Int), v8)).1) (L' := ((law_LoneLeasts_s17 a1 a2 r1) ((0 : Int), v8)).2) (by kernel_rfl) ?_
    refine W_cutK (W_loop (S := (law_LoneLeasts_s17 a1 a2 r1)) (J := (exQ (.exit 0) (law_LoneLeasts_s18 a1 a2 r1))) (by kernel_rfl) ?_ h149 _ v147 h150) ?_
    · rintro ⟨i102, x103⟩ s h
      refine W_seq (by kernel_rfl) ?_
      refine W_run 1 [] [1, 2, 7, 8, 9, 10, 34, 35, 36, 37] [] (fr' := [(1, aD (.slice (.int .u32)) a1), (2, aD (.slice tI) a2), (7, aI r1.1), (8, aD (.slice (.int .u32)) r1.2.1), (9, aI r1.2.2), (10, aI x103), (34, aD (.slice tI) a2), (35, aI (List.length a2 : Int)), (36, aI i102), (37, aB (decide (i102 < (List.length a2 : Int))))]) (L' := []) (obs := []) (by kernel_rfl) (by kernel_rfl) (by kernel_rfl) allP0 ?_
      refine seqQ_norm ?_
      refine W_seq (by kernel_rfl) ?_
      refine W_cond (o := .tmp 37) (b := decide (i102 < (List.length a2 : Int))) (by kernel_rfl) (by kernel_rfl) (fun h107 => ?_) (fun h107 => ?_)
      · replace h := stepL_true h107 h
        obtain ⟨v105, _, h106, h, rfl⟩ := h
        refine W_skip [1, 2, 7, 8, 9, 10, 34, 35, 36] [] (fr' := [(1, aD (.slice (.int .u32)) a1), (2, aD (.slice tI) a2), (7, aI r1.1), (8, aD (.slice (.int .u32)) r1.2.1), (9, aI r1.2.2), (10, aI x103), (34, aD (.slice tI) a2), (35, aI (List.length a2 : Int)), (36, aI i102)]) (L' := []) (by kernel_rfl) (by kernel_rfl) ?_
        refine seqQ_norm ?_
        refine W_seq (by kernel_rfl) ?_
        obtain ⟨v144, h145, h⟩ := bind_of h
        refine W_cutK (Q' := (exQ .normal (law_LoneLeasts_s15 a1 a2 r1 i102)) v144) ?_ ?_
        · replace h := h145
          refine W_block (id := 1) (by kernel_rfl) ?_
          refine W_seq (by kernel_rfl) ?_
          refine W_run 3 [(1, .val (.dat tI v105))] [1, 2, 7, 8, 9, 10, 12, 34, 35, 36] [] (fr' := [(1, aD (.slice (.int .u32)) a1), (2, aD (.slice tI) a2), (7, aI r1.1), (8, aD (.slice (.int .u32)) r1.2.1), (9, aI r1.2.2), (10, aI x103), (12, aI v105), (34, aD (.slice tI) a2), (35, aI (List.length a2 : Int)), (36, aI i102)]) (L' := []) (obs := [Idx a2 i102 v105]) (by kernel_rfl) (by kernel_rfl) (by kernel_rfl) (allP1 (Idx.of h106)) ?_
          refine seqQ_norm ?_
          refine W_seq (by kernel_rfl) ?_
          obtain ⟨v141, h142, h⟩ := bind_of h
          refine W_cutK (Q' := (exQ .normal (law_LoneLeasts_s13 a1 a2 r1 i102 x103)) v141) ?_ ?_
          · replace h := h142
            refine W_region (by kernel_rfl) ?_
            refine WO_run (j := 3) (k := 3) (orcs := []) (kF := [1, 2, 7, 8, 9, 10, 12, 34, 35, 36, 42]) (kL := []) (fr' := [(1, aD (.slice (.int .u32)) a1), (2, aD (.slice tI) a2), (7, aI r1.1), (8, aD (.slice (.int .u32)) r1.2.1), (9, aI r1.2.2), (10, aI x103), (12, aI v105), (34, aD (.slice tI) a2), (35, aI (List.length a2 : Int)), (36, aI i102), (42, aB (x103 == (0 : Int)))]) (L' := []) (obs := []) rfl (by kernel_rfl) allP0 ?_
            rcases Bool.eq_false_or_eq_true (x103 == (0 : Int)) with h138 | h138
            · replace h := ofT h138 h
              refine WO_run (j := 4) (k := 1) (orcs := [(6, .known true)]) (kF := [1, 2, 7, 8, 9, 10, 34, 35, 36, 42, 43]) (kL := []) (fr' := [(1, aD (.slice (.int .u32)) a1), (2, aD (.slice tI) a2), (7, aI r1.1), (8, aD (.slice (.int .u32)) r1.2.1), (9, aI r1.2.2), (10, aI x103), (34, aD (.slice tI) a2), (35, aI (List.length a2 : Int)), (36, aI i102), (42, aB (x103 == (0 : Int))), (43, aI v105)]) (L' := []) (obs := [((x103 == (0 : Int)) = true)]) rfl (by kernel_rfl) (allP1 h138) ?_
              obtain ⟨r139, h140, h⟩ := bind_of h
              refine WO_call0 (us := [none, none, none]) (d := 44) (p := ((x103 == (0 : Int)) = true)) (j := 5) rfl ⟨by kernel_rfl, by kernel_rfl, by kernel_rfl⟩ h138 (ref_Within_ok h140) (by kernel_rfl) ?_
              refine WO_run (j := 7) (k := 2) (orcs := [(10, .known true), (13, .val (.dat .bool true))]) (kF := [1, 2, 7, 8, 9, 10, 34, 35, 36, 46]) (kL := []) (fr' := [(1, aD (.slice (.int .u32)) a1), (2, aD (.slice tI) a2), (7, aI r1.1), (8, aD (.slice (.int .u32)) r1.2.1), (9, aI r1.2.2), (10, aI x103), (34, aD (.slice tI) a2), (35, aI (List.length a2 : Int)), (36, aI i102), (46, aB (!r139))]) (L' := []) (obs := [((x103 == (0 : Int)) = true), ((x103 == (0 : Int)) = true)]) rfl (by kernel_rfl) (allP2 h138 (allP1 h138)) ?_
              obtain rfl := Option.some.inj h
              refine WO_fin [1, 2, 7, 8, 9, 10, 34, 35, 36, 46] [] (fr' := [(1, aD (.slice (.int .u32)) a1), (2, aD (.slice tI) a2), (7, aI r1.1), (8, aD (.slice (.int .u32)) r1.2.1), (9, aI r1.2.2), (10, aI x103), (34, aD (.slice tI) a2), (35, aI (List.length a2 : Int)), (36, aI i102), (46, aB (!r139))]) (L' := []) (by kernel_rfl) (by kernel_rfl) ?_
              exact exQ_mk (by kernel_rfl) (by kernel_rfl)
            · replace h := ofF h138 h
              refine WO_run (j := 7) (k := 4) (orcs := [(6, .known false), (8, .known false), (10, .known false), (13, .val (.dat .bool false))]) (kF := [1, 2, 7, 8, 9, 10, 34, 35, 36, 46]) (kL := []) (fr' := [(1, aD (.slice (.int .u32)) a1), (2, aD (.slice tI) a2), (7, aI r1.1), (8, aD (.slice (.int .u32)) r1.2.1), (9, aI r1.2.2), (10, aI x103), (34, aD (.slice tI) a2), (35, aI (List.length a2 : Int)), (36, aI i102), (46, aB false)]) (L' := []) (obs := [((x103 == (0 : Int)) = false), ((x103 == (0 : Int)) = false), ((x103 == (0 : Int)) = false), ((x103 == (0 : Int)) = false)]) rfl (by kernel_rfl) (allP2 h138 (allP2 h138 (allP2 h138 (allP1 h138)))) ?_
              obtain rfl := Option.some.inj h
              refine WO_fin [1, 2, 7, 8, 9, 10, 34, 35, 36, 46] [] (fr' := [(1, aD (.slice (.int .u32)) a1), (2, aD (.slice tI) a2), (7, aI r1.1), (8, aD (.slice (.int .u32)) r1.2.1), (9, aI r1.2.2), (10, aI x103), (34, aD (.slice tI) a2), (35, aI (List.length a2 : Int)), (36, aI i102), (46, aB false)]) (L' := []) (by kernel_rfl) (by kernel_rfl) ?_
              exact exQ_mk (by kernel_rfl) (by kernel_rfl)
          · intro e fr L hJ
            obtain ⟨rfl, rfl, rfl⟩ := hJ
            refine LT_keep [1, 2, 7, 8, 9, 10, 34, 35, 36, 46] [] (fr' := [(1, aD (.slice (.int .u32)) a1), (2, aD (.slice tI) a2), (7, aI r1.1), (8, aD (.slice (.int .u32)) r1.2.1), (9, aI r1.2.2), (10, aI x103), (34, aD (.slice tI) a2), (35, aI (List.length a2 : Int)), (36, aI i102), (46, aB v141)]) (L' := []) (by kernel_rfl) ?_
            refine seqQ_norm ?_
            refine W_cond (o := .tmp 46) (b := v141) (by kernel_rfl) (by kernel_rfl) (fun h143 => ?_) (fun h143 => ?_)
            · replace h := ofT h143 h
              obtain rfl := Option.some.inj h
              refine W_run 1 [] [1, 2, 7, 8, 9, 10, 34, 35, 36] [] (fr' := [(1, aD (.slice (.int .u32)) a1), (2, aD (.slice tI) a2), (7, aI r1.1), (8, aD (.slice (.int .u32)) r1.2.1), (9, aI r1.2.2), (10, aI (2 : Int)), (34, aD (.slice tI) a2), (35, aI (List.length a2 : Int)), (36, aI i102)]) (L' := []) (obs := []) (by kernel_rfl) (by kernel_rfl) (by kernel_rfl) allP0 ?_
              refine blockQ_norm ?_
              exact exQ_mk (by kernel_rfl) (by kernel_rfl)
            · replace h := ofF h143 h
              obtain rfl := Option.some.inj h
              refine W_skip [1, 2, 7, 8, 9, 10, 34, 35, 36] [] (fr' := [(1, aD (.slice (.int .u32)) a1), (2, aD (.slice tI) a2), (7, aI r1.1), (8, aD (.slice (.int .u32)) r1.2.1), (9, aI r1.2.2), (10, aI x103), (34, aD (.slice tI) a2), (35, aI (List.length a2 : Int)), (36, aI i102)]) (L' := []) (by kernel_rfl) (by kernel_rfl) ?_
              refine blockQ_norm ?_
              exact exQ_mk (by kernel_rfl) (by kernel_rfl)
        · intro e fr L hJ
          obtain ⟨rfl, rfl, rfl⟩ := hJ
          refine LT_keep [1, 2, 7, 8, 9, 10, 34, 35, 36] [] (fr' := [(1, aD (.slice (.int .u32)) a1), (2, aD (.slice tI) a2), (7, aI r1.1), (8, aD (.slice (.int .u32)) r1.2.1), (9, aI r1.2.2), (10, aI v144), (34, aD (.slice tI) a2), (35, aI (List.length a2 : Int)), (36, aI i102)]) (L' := []) (by kernel_rfl) ?_
          refine seqQ_norm ?_
          obtain rfl := Option.some.inj h
          refine W_run 2 [] [1, 2, 7, 8, 9, 10, 34, 35, 36] [] (fr' := [(1, aD (.slice (.int .u32)) a1), (2, aD (.slice tI) a2), (7, aI r1.1), (8, aD (.slice (.int .u32)) r1.2.1), (9, aI r1.2.2), (10, aI v144), (34, aD (.slice tI) a2), (35, aI (List.length a2 : Int)), (36, aI (w64 (i102 + (1 : Int))))]) (L' := []) (obs := []) (by kernel_rfl) (by kernel_rfl) (by kernel_rfl) allP0 ?_
          exact round_next' (by kernel_rfl) (by kernel_rfl)
      · obtain rfl := stepL_false h107 h
        refine W_exit (id := 0) [1, 2, 7, 8, 9, 10] [] (fr' := [(1, aD (.slice (.int .u32)) a1), (2, aD (.slice tI) a2), (7, aI r1.1), (8, aD (.slice (.int .u32)) r1.2.1), (9, aI r1.2.2), (10, aI x103)]) (L' := []) (by kernel_rfl) (by kernel_rfl) ?_
        refine seqQ_exit ?_
        refine round_exit ?_
        exact exQ_mk (by kernel_rfl) (by kernel_rfl)
    · intro e fr L hJ
      obtain ⟨rfl, rfl, rfl⟩ := hJ
      refine LT_keep [1, 2, 7, 8, 9, 10] [] (fr' := [(1, aD (.slice (.int .u32)) a1), (2, aD (.slice tI) a2), (7, aI r1.1), (8, aD (.slice (.int .u32)) r1.2.1), (9, aI r1.2.2), (10, aI v147)]) (L' := []) (by kernel_rfl) ?_
      refine blockQ_hit ?_
      refine seqQ_norm ?_
      refine W_seq (by kernel_rfl) ?_
      refine W_seq (by kernel_rfl) ?_
      refine W_run 2 [] [1, 2, 7, 8, 9, 10, 49] [] (fr' := [(1, aD (.slice (.int .u32)) a1), (2, aD (.slice tI) a2), (7, aI r1.1), (8, aD (.slice (.int .u32)) r1.2.1), (9, aI r1.2.2), (10, aI v147), (49, aB (v147 != (0 : Int)))]) (L' := []) (obs := []) (by kernel_rfl) (by kernel_rfl) (by kernel_rfl) allP0 ?_
      refine seqQ_norm ?_
      refine W_cond (o := .tmp 49) (b := v147 != (0 : Int)) (by kernel_rfl) (by kernel_rfl) (fun h152 => ?_) (fun h152 => ?_)
      · replace h := ofT h152 h
        refine W_seq (by kernel_rfl) ?_
        refine W_run 13 [] [6] [] (fr' := [(6, aB (((r1.2.2 == v147) && (r1.1 == (0 : Int))) && ((List.length r1.2.1 : Int) == (0 : Int))))]) (L' := []) (obs := []) (by kernel_rfl) (by kernel_rfl) (by kernel_rfl) allP0 ?_
        refine seqQ_norm ?_
        obtain rfl := Option.some.inj h
        refine W_ret [6] [] (fr' := [(6, aB (((r1.2.2 == v147) && (r1.1 == (0 : Int))) && ((List.length r1.2.1 : Int) == (0 : Int))))]) (L' := []) (by kernel_rfl) (by kernel_rfl) ?_
        refine seqQ_ret ?_
        exact retQ_mk (by kernel_rfl) (by kernel_rfl) (by kernel_rfl)
      · replace h := ofF h152 h
        refine W_skip [1, 2, 7, 8, 9] [] (fr' := [(1, aD (.slice (.int .u32)) a1), (2, aD (.slice tI) a2), (7, aI r1.1), (8, aD (.slice (.int .u32)) r1.2.1), (9, aI r1.2.2)]) (L' := []) (by kernel_rfl) (by kernel_rfl) ?_
        refine seqQ_norm ?_
        refine W_seq (by kernel_rfl) ?_
        refine W_region (by kernel_rfl) ?_
        refine WO_run (j := 2) (k := 2) (orcs := []) (kF := [7, 8, 9, 63, 64]) (kL := []) (fr' := [(7, aI r1.1), (8, aD (.slice (.int .u32)) r1.2.1), (9, aI r1.2.2), (63, aD (.slice (.int .u32)) a1), (64, aD (.slice tI) a2)]) (L' := []) (obs := []) rfl (by kernel_rfl) allP0 ?_
        obtain ⟨r153, h154, h⟩ := bind_of h
        refine WO_call0 (us := [none, none]) (d := 65) (p := True) (j := 3) rfl ⟨by kernel_rfl, by kernel_rfl, by kernel_rfl⟩ trivial (ref_Lightest_ok h154) (by kernel_rfl) ?_
        refine WO_run (j := 8) (k := 5) (orcs := []) (kF := [7, 8, 9, 13, 14]) (kL := []) (fr' := [(7, aI r1.1), (8, aD (.slice (.int .u32)) r1.2.1), (9, aI r1.2.2), (13, aI r153.1), (14, aD (.slice (.int .u32)) r153.2)]) (L' := []) (obs := []) rfl (by kernel_rfl) allP0 ?_
        refine WO_fin [7, 8, 9, 13, 14] [] (fr' := [(7, aI r1.1), (8, aD (.slice (.int .u32)) r1.2.1), (9, aI r1.2.2), (13, aI r153.1), (14, aD (.slice (.int .u32)) r153.2)]) (L' := []) (by kernel_rfl) (by kernel_rfl) ?_
        refine seqQ_norm ?_
        refine W_seq (by kernel_rfl) ?_
        obtain ⟨v164, h165, h⟩ := bind_of h
        refine W_cutK (Q' := (exQ .normal law_LoneLeasts_s19) v164) ?_ ?_
        · replace h := h165
          refine W_region (by kernel_rfl) ?_
          refine WO_run (j := 8) (k := 8) (orcs := []) (kF := [8, 14, 75]) (kL := []) (fr' := [(8, aD (.slice (.int .u32)) r1.2.1), (14, aD (.slice (.int .u32)) r153.2), (75, aB ((r1.2.2 == (0 : Int)) && (r1.1 == r153.1)))]) (L' := []) (obs := []) rfl (by kernel_rfl) allP0 ?_
          rcases Bool.eq_false_or_eq_true ((r1.2.2 == (0 : Int)) && (r1.1 == r153.1)) with h161 | h161
          · replace h := ofT h161 h
            refine WO_run (j := 10) (k := 2) (orcs := [(16, .known true), (18, .known true)]) (kF := [75, 76, 77]) (kL := []) (fr' := [(75, aB ((r1.2.2 == (0 : Int)) && (r1.1 == r153.1))), (76, aD (.slice (.int .u32)) r1.2.1), (77, aD (.slice (.int .u32)) r153.2)]) (L' := []) (obs := [(((r1.2.2 == (0 : Int)) && (r1.1 == r153.1)) = true), (((r1.2.2 == (0 : Int)) && (r1.1 == r153.1)) = true)]) rfl (by kernel_rfl) (allP2 h161 (allP1 h161)) ?_
            obtain ⟨r162, h163, h⟩ := bind_of h
            refine WO_call0 (us := [none, none]) (d := 78) (p := (((r1.2.2 == (0 : Int)) && (r1.1 == r153.1)) = true)) (j := 11) rfl ⟨by kernel_rfl, by kernel_rfl, by kernel_rfl⟩ h161 (ref_Words_ok h163) (by kernel_rfl) ?_
            refine WO_run (j := 13) (k := 2) (orcs := [(23, .val (.dat .bool true))]) (kF := [6]) (kL := []) (fr' := [(6, aB r162)]) (L' := []) (obs := [(((r1.2.2 == (0 : Int)) && (r1.1 == r153.1)) = true)]) rfl (by kernel_rfl) (allP1 h161) ?_
            obtain rfl := Option.some.inj h
            refine WO_fin [6] [] (fr' := [(6, aB r162)]) (L' := []) (by kernel_rfl) (by kernel_rfl) ?_
            exact exQ_mk (by kernel_rfl) (by kernel_rfl)
          · replace h := ofF h161 h
            refine WO_run (j := 13) (k := 5) (orcs := [(16, .known false), (18, .known false), (20, .known false), (23, .val (.dat .bool false))]) (kF := [6]) (kL := []) (fr' := [(6, aB false)]) (L' := []) (obs := [(((r1.2.2 == (0 : Int)) && (r1.1 == r153.1)) = false), (((r1.2.2 == (0 : Int)) && (r1.1 == r153.1)) = false), (((r1.2.2 == (0 : Int)) && (r1.1 == r153.1)) = false), (((r1.2.2 == (0 : Int)) && (r1.1 == r153.1)) = false)]) rfl (by kernel_rfl) (allP2 h161 (allP2 h161 (allP2 h161 (allP1 h161)))) ?_
            obtain rfl := Option.some.inj h
            refine WO_fin [6] [] (fr' := [(6, aB false)]) (L' := []) (by kernel_rfl) (by kernel_rfl) ?_
            exact exQ_mk (by kernel_rfl) (by kernel_rfl)
        · intro e fr L hJ
          obtain ⟨rfl, rfl, rfl⟩ := hJ
          refine LT_keep [6] [] (fr' := [(6, aB v164)]) (L' := []) (by kernel_rfl) ?_
          refine seqQ_norm ?_
          obtain rfl := Option.some.inj h
          refine W_ret [6] [] (fr' := [(6, aB v164)]) (L' := []) (by kernel_rfl) (by kernel_rfl) ?_
          exact retQ_mk (by kernel_rfl) (by kernel_rfl) (by kernel_rfl)
end Go.Proofs.Ytkkmiclmbhbmjaa.loneLeasts
