/- What the functions that HardWeights calls compute, as models, and that they compute it: written by a program of mine. -/
import Derived.Test.YtcallckeeohoaaaProg
import Derived.Test.YtcallckeeohoaaaSl4
set_option linter.all false
set_option maxRecDepth 100000
namespace Go.Proofs.Ytcallckeeohoaaa.hardWeights
open Go Go.Sl
def hard_wrong_1 (a0 : Int) (c0 : Int) : Option Bool :=
some ((decide (a0 < (0 : Int))) || (decide (a0 ≥ c0)))
theorem hard_wrong_1_ok {a0 : Int} {c0 : Int} {r : Bool} (h : hard_wrong_1 a0 c0 = some r) : FnC Try.prog 73 [aI a0, .one (.ptr 1000 0)] [(1000, .cells [.dat tI c0])] (aB r) [(1000, .cells [.dat tI c0])] := by
  refine fnC_of_W (B := bodyOf Try.f73) (n := 11) Try.func73 (by kernel_rfl) (by kernel_rfl) (by kernel_rfl) (by kernel_rfl) (by kernel_rfl) ?_
  intro K
  refine W_seq (by kernel_rfl) ?_
  refine W_run 1 [] [0, 1] [1000] (fr' := [(0, aI a0), (1, .one (.ptr 1000 0))]) (L' := [(1000, .cells [.dat tI c0])]) (obs := []) (by kernel_rfl) (by kernel_rfl) (by kernel_rfl) allP0 ?_
  refine seqQ_norm ?_
  refine W_seq (by kernel_rfl) ?_
  refine W_run 8 [] [3] [1000] (fr' := [(3, aB ((decide (a0 < (0 : Int))) || (decide (a0 ≥ c0))))]) (L' := [(1000, .cells [.dat tI c0])]) (obs := []) (by kernel_rfl) (by kernel_rfl) (by kernel_rfl) allP0 ?_
  refine seqQ_norm ?_
  obtain rfl := Option.some.inj h
  refine W_ret [3] [1000] (fr' := [(3, aB ((decide (a0 < (0 : Int))) || (decide (a0 ≥ c0))))]) (L' := [(1000, .cells [.dat tI c0])]) (by kernel_rfl) (by kernel_rfl) ?_
  exact retQ_mk (by kernel_rfl) (by kernel_rfl) (by kernel_rfl)

def slices_IndexFunc_Lintint_with_hard_wrong_1_b1 (c0 : Int) (i15 : Int) (v18 : Int) (x16 : Unit) : Option (Flow Unit (Esc Int Unit)) :=
(hard_wrong_1 v18 c0).bind fun r21 =>
bif r21 then
(some (.done (.ret i15)))
else
(some (.next ()))
@[reducible] def slices_IndexFunc_Lintint_with_hard_wrong_1_s2 (a0 : (List Int)) (c0 : Int) (v : Int × Unit) : Fr × LL := ([(0, aD (.slice tI) a0), (1, .one (.fn 73 [(1000, 0)])), (7, aI (List.length a0 : Int)), (8, aI v.1)], [(1000, .cells [.dat tI c0])])
@[reducible] def slices_IndexFunc_Lintint_with_hard_wrong_1_s3 (c0 : Int) (v : Int) : Fr × LL := ([(4, aI v)], [(1000, .cells [.dat tI c0])])
@[reducible] def slices_IndexFunc_Lintint_with_hard_wrong_1_s4 (c0 : Int) (v : Unit) : Fr × LL := ([], [(1000, .cells [.dat tI c0])])
def slices_IndexFunc_Lintint_with_hard_wrong_1 (a0 : (List Int)) (c0 : Int) : Option Int :=
(forL (slices_IndexFunc_Lintint_with_hard_wrong_1_b1 c0) (fun x16 => (.brk ())) a0 0 ()).bind fun v25 =>
match v25 with
| .ret v30 =>
(some v30)
| .brk v31 =>
(some (-1 : Int))
theorem slices_IndexFunc_Lintint_with_hard_wrong_1_ok {a0 : (List Int)} {c0 : Int} {r : Int} (h : slices_IndexFunc_Lintint_with_hard_wrong_1 a0 c0 = some r) : FnC Try.prog 69 [aD (.slice tI) a0, .one (.fn 73 [(1000, 0)])] [(1000, .cells [.dat tI c0])] (aI r) [(1000, .cells [.dat tI c0])] := by
  refine fnC_of_W (B := bodyOf Try.f69) (n := 19) Try.func69 (by kernel_rfl) (by kernel_rfl) (by kernel_rfl) (by kernel_rfl) (by kernel_rfl) ?_
  intro K
  refine W_seq (by kernel_rfl) ?_
  refine W_run 1 [] [0, 1] [1000] (fr' := [(0, aD (.slice tI) a0), (1, .one (.fn 73 [(1000, 0)]))]) (L' := [(1000, .cells [.dat tI c0])]) (obs := []) (by kernel_rfl) (by kernel_rfl) (by kernel_rfl) allP0 ?_
  refine seqQ_norm ?_
  refine W_seq (by kernel_rfl) ?_
  refine W_seq (by kernel_rfl) ?_
  refine W_run 3 [] [0, 1, 7, 8] [1000] (fr' := [(0, aD (.slice tI) a0), (1, .one (.fn 73 [(1000, 0)])), (7, aI (List.length a0 : Int)), (8, aI (0 : Int))]) (L' := [(1000, .cells [.dat tI c0])]) (obs := []) (by kernel_rfl) (by kernel_rfl) (by kernel_rfl) allP0 ?_
  refine seqQ_norm ?_
  refine W_block (id := 0) (by kernel_rfl) ?_
  obtain ⟨v25, h26, h⟩ := bind_of h
  refine W_len (t := 0) (u := tI) (xs := a0) (by kernel_rfl) (fun h29 => ?_)
  obtain ⟨h27, h28⟩ := forL_iter h29 h26
  refine W_weaken [0, 1, 7, 8] [1000] (fr' := ((slices_IndexFunc_Lintint_with_hard_wrong_1_s2 a0 c0) ((0 : Int), ())).1) (L' := ((slices_IndexFunc_Lintint_with_hard_wrong_1_s2 a0 c0) ((0 : Int), ())).2) (by kernel_rfl) ?_
  refine W_cutK (W_loop (S := (slices_IndexFunc_Lintint_with_hard_wrong_1_s2 a0 c0)) (J := (escQ (exQ .ret (slices_IndexFunc_Lintint_with_hard_wrong_1_s3 c0)) (exQ (.exit 0) (slices_IndexFunc_Lintint_with_hard_wrong_1_s4 c0)))) (by kernel_rfl) ?_ h27 _ v25 h28) ?_
  · rintro ⟨i15, x16⟩ s h
    refine W_seq (by kernel_rfl) ?_
    refine W_run 1 [] [0, 1, 7, 8, 9] [1000] (fr' := [(0, aD (.slice tI) a0), (1, .one (.fn 73 [(1000, 0)])), (7, aI (List.length a0 : Int)), (8, aI i15), (9, aB (decide (i15 < (List.length a0 : Int))))]) (L' := [(1000, .cells [.dat tI c0])]) (obs := []) (by kernel_rfl) (by kernel_rfl) (by kernel_rfl) allP0 ?_
    refine seqQ_norm ?_
    refine W_seq (by kernel_rfl) ?_
    refine W_cond (o := .tmp 9) (b := decide (i15 < (List.length a0 : Int))) (by kernel_rfl) (by kernel_rfl) (fun h20 => ?_) (fun h20 => ?_)
    · replace h := stepL_true h20 h
      obtain ⟨v18, _, h19, h, rfl⟩ := h
      refine W_skip [0, 1, 7, 8] [1000] (fr' := [(0, aD (.slice tI) a0), (1, .one (.fn 73 [(1000, 0)])), (7, aI (List.length a0 : Int)), (8, aI i15)]) (L' := [(1000, .cells [.dat tI c0])]) (by kernel_rfl) (by kernel_rfl) ?_
      refine seqQ_norm ?_
      refine W_seq (by kernel_rfl) ?_
      refine W_block (id := 1) (by kernel_rfl) ?_
      refine W_seq (by kernel_rfl) ?_
      refine W_run 2 [] [0, 1, 5, 7, 8] [1000] (fr' := [(0, aD (.slice tI) a0), (1, .one (.fn 73 [(1000, 0)])), (5, aI i15), (7, aI (List.length a0 : Int)), (8, aI i15)]) (L' := [(1000, .cells [.dat tI c0])]) (obs := []) (by kernel_rfl) (by kernel_rfl) (by kernel_rfl) allP0 ?_
      refine seqQ_norm ?_
      refine W_seq (by kernel_rfl) ?_
      refine W_region (by kernel_rfl) ?_
      refine WO_run (j := 5) (k := 5) (orcs := [(7, .val (.dat tI v18))]) (kF := [0, 1, 5, 7, 8, 11, 15]) (kL := [1000]) (fr' := [(0, aD (.slice tI) a0), (1, .one (.fn 73 [(1000, 0)])), (5, aI i15), (7, aI (List.length a0 : Int)), (8, aI i15), (11, .one (.fn 73 [(1000, 0)])), (15, aI v18)]) (L' := [(1000, .cells [.dat tI c0])]) (obs := [Idx a0 i15 v18]) rfl (by kernel_rfl) (allP1 (Idx.of h19)) ?_
      obtain ⟨r21, h22, h⟩ := bind_of h
      refine WO_lend [(1000, 1000)] (us := [none, none]) (d := 16) (p := True) (j := 6) rfl ⟨by kernel_rfl, by kernel_rfl, by kernel_rfl⟩ trivial (hard_wrong_1_ok h22) (by kernel_rfl) (by kernel_rfl) ?_
      refine WO_fin [0, 1, 5, 7, 8, 16] [1000] (fr' := [(0, aD (.slice tI) a0), (1, .one (.fn 73 [(1000, 0)])), (5, aI i15), (7, aI (List.length a0 : Int)), (8, aI i15), (16, aB r21)]) (L' := [(1000, .cells [.dat tI c0])]) (by kernel_rfl) (by kernel_rfl) ?_
      refine seqQ_norm ?_
      refine W_cond (o := .tmp 16) (b := r21) (by kernel_rfl) (by kernel_rfl) (fun h23 => ?_) (fun h23 => ?_)
      · replace h := ofT h23 h
        refine W_seq (by kernel_rfl) ?_
        refine W_run 2 [] [4] [1000] (fr' := [(4, aI i15)]) (L' := [(1000, .cells [.dat tI c0])]) (obs := []) (by kernel_rfl) (by kernel_rfl) (by kernel_rfl) allP0 ?_
        refine seqQ_norm ?_
        obtain rfl := Option.some.inj h
        refine W_ret [4] [1000] (fr' := [(4, aI i15)]) (L' := [(1000, .cells [.dat tI c0])]) (by kernel_rfl) (by kernel_rfl) ?_
        refine blockQ_ret ?_
        refine seqQ_ret ?_
        refine round_ret ?_
        refine escQ_ret ?_
        exact exQ_mk (by kernel_rfl) (by kernel_rfl)
      · replace h := ofF h23 h
        refine W_skip [0, 1, 7, 8] [1000] (fr' := [(0, aD (.slice tI) a0), (1, .one (.fn 73 [(1000, 0)])), (7, aI (List.length a0 : Int)), (8, aI i15)]) (L' := [(1000, .cells [.dat tI c0])]) (by kernel_rfl) (by kernel_rfl) ?_
        refine blockQ_norm ?_
        refine seqQ_norm ?_
        obtain rfl := Option.some.inj h
        refine W_run 2 [] [0, 1, 7, 8] [1000] (fr' := [(0, aD (.slice tI) a0), (1, .one (.fn 73 [(1000, 0)])), (7, aI (List.length a0 : Int)), (8, aI (w64 (i15 + (1 : Int))))]) (L' := [(1000, .cells [.dat tI c0])]) (obs := []) (by kernel_rfl) (by kernel_rfl) (by kernel_rfl) allP0 ?_
        exact round_next' (by kernel_rfl) (by kernel_rfl)
    · obtain rfl := stepL_false h20 h
      refine W_exit (id := 0) [] [1000] (fr' := []) (L' := [(1000, .cells [.dat tI c0])]) (by kernel_rfl) (by kernel_rfl) ?_
      refine seqQ_exit ?_
      refine round_exit ?_
      refine escQ_brk ?_
      exact exQ_mk (by kernel_rfl) (by kernel_rfl)
  · intro e fr L hJ
    rcases v25 with v30 | v31
    · obtain ⟨rfl, rfl, rfl⟩ := hJ
      obtain rfl := Option.some.inj h
      refine LT_keep [4] [1000] (fr' := [(4, aI v30)]) (L' := [(1000, .cells [.dat tI c0])]) (by kernel_rfl) ?_
      refine blockQ_ret ?_
      refine seqQ_ret ?_
      exact retQ_mk (by kernel_rfl) (by kernel_rfl) (by kernel_rfl)
    · obtain ⟨rfl, rfl, rfl⟩ := hJ
      refine LT_keep [] [1000] (fr' := []) (L' := [(1000, .cells [.dat tI c0])]) (by kernel_rfl) ?_
      refine blockQ_hit ?_
      refine seqQ_norm ?_
      refine W_seq (by kernel_rfl) ?_
      refine W_run 1 [] [4] [1000] (fr' := [(4, aI (-1 : Int))]) (L' := [(1000, .cells [.dat tI c0])]) (obs := []) (by kernel_rfl) (by kernel_rfl) (by kernel_rfl) allP0 ?_
      refine seqQ_norm ?_
      obtain rfl := Option.some.inj h
      refine W_ret [4] [1000] (fr' := [(4, aI (-1 : Int))]) (L' := [(1000, .cells [.dat tI c0])]) (by kernel_rfl) (by kernel_rfl) ?_
      exact retQ_mk (by kernel_rfl) (by kernel_rfl) (by kernel_rfl)

def slices_ContainsFunc_Lintint_with_hard_wrong_1 (a0 : (List Int)) (c0 : Int) : Option Bool :=
(slices_IndexFunc_Lintint_with_hard_wrong_1 a0 c0).bind fun r1 =>
some (decide (r1 ≥ (0 : Int)))
theorem slices_ContainsFunc_Lintint_with_hard_wrong_1_ok {a0 : (List Int)} {c0 : Int} {r : Bool} (h : slices_ContainsFunc_Lintint_with_hard_wrong_1 a0 c0 = some r) : FnC Try.prog 51 [aD (.slice tI) a0, .one (.fn 73 [(1000, 0)])] [(1000, .cells [.dat tI c0])] (aB r) [(1000, .cells [.dat tI c0])] := by
  refine fnC_of_W (B := bodyOf Try.f51) (n := 9) Try.func51 (by kernel_rfl) (by kernel_rfl) (by kernel_rfl) (by kernel_rfl) (by kernel_rfl) ?_
  intro K
  refine W_seq (by kernel_rfl) ?_
  refine W_run 1 [] [0, 1] [1000] (fr' := [(0, aD (.slice tI) a0), (1, .one (.fn 73 [(1000, 0)]))]) (L' := [(1000, .cells [.dat tI c0])]) (obs := []) (by kernel_rfl) (by kernel_rfl) (by kernel_rfl) allP0 ?_
  refine seqQ_norm ?_
  refine W_seq (by kernel_rfl) ?_
  refine W_region (by kernel_rfl) ?_
  refine WO_run (j := 2) (k := 2) (orcs := []) (kF := [5, 6]) (kL := [1000]) (fr' := [(5, aD (.slice tI) a0), (6, .one (.fn 73 [(1000, 0)]))]) (L' := [(1000, .cells [.dat tI c0])]) (obs := []) rfl (by kernel_rfl) allP0 ?_
  obtain ⟨r1, h2, h⟩ := bind_of h
  refine WO_lend [(1000, 1000)] (us := [none, none]) (d := 7) (p := True) (j := 3) rfl ⟨by kernel_rfl, by kernel_rfl, by kernel_rfl⟩ trivial (slices_IndexFunc_Lintint_with_hard_wrong_1_ok h2) (by kernel_rfl) (by kernel_rfl) ?_
  refine WO_run (j := 5) (k := 2) (orcs := []) (kF := [4]) (kL := [1000]) (fr' := [(4, aB (decide (r1 ≥ (0 : Int))))]) (L' := [(1000, .cells [.dat tI c0])]) (obs := []) rfl (by kernel_rfl) allP0 ?_
  refine WO_fin [4] [1000] (fr' := [(4, aB (decide (r1 ≥ (0 : Int))))]) (L' := [(1000, .cells [.dat tI c0])]) (by kernel_rfl) (by kernel_rfl) ?_
  refine seqQ_norm ?_
  obtain rfl := Option.some.inj h
  refine W_ret [4] [1000] (fr' := [(4, aB (decide (r1 ≥ (0 : Int))))]) (L' := [(1000, .cells [.dat tI c0])]) (by kernel_rfl) (by kernel_rfl) ?_
  exact retQ_mk (by kernel_rfl) (by kernel_rfl) (by kernel_rfl)

def hard_wrong_g5 (v31 : ((List Int) × (List Int))) : Option Bool :=
bif decide ((List.length v31.1 : Int) > (3 : Int)) then
(some true)
else
(bif decide ((List.length v31.2 : Int) > (3 : Int)) then
(some true)
else
(some (decide ((w64 ((List.length v31.1 : Int) + (List.length v31.2 : Int))) > (3 : Int)))))
@[reducible] def hard_wrong_s6 (a0 : Int) (a1 : (List ((List Int) × (List Int)))) (i28 : Int) (v : Bool) : Fr × LL := ([(1, aD (.slice (.pair (.slice tI) (.slice tI))) a1), (5, .one (.fn 73 [(2, 0)])), (22, aD (.slice (.pair (.slice tI) (.slice tI))) a1), (23, aI (List.length a1 : Int)), (24, aI i28), (47, aB v)], [(2, .cells [.dat tI a0])])
def hard_wrong_b7 (i28 : Int) (v31 : ((List Int) × (List Int))) (x29 : Unit) : Option (Flow Unit (Esc Int Unit)) :=
(hard_wrong_g5 v31).bind fun v40 =>
bif v40 then
(some (.done (.ret (1 : Int))))
else
(some (.next ()))
@[reducible] def hard_wrong_s8 (a0 : Int) (a1 : (List ((List Int) × (List Int)))) (v : Int × Unit) : Fr × LL := ([(1, aD (.slice (.pair (.slice tI) (.slice tI))) a1), (5, .one (.fn 73 [(2, 0)])), (22, aD (.slice (.pair (.slice tI) (.slice tI))) a1), (23, aI (List.length a1 : Int)), (24, aI v.1)], [(2, .cells [.dat tI a0])])
@[reducible] def hard_wrong_s9 (v : Int) : Fr × LL := ([(4, aI v)], [])
@[reducible] def hard_wrong_s10 (a0 : Int) (a1 : (List ((List Int) × (List Int)))) (v : Unit) : Fr × LL := ([(1, aD (.slice (.pair (.slice tI) (.slice tI))) a1), (5, .one (.fn 73 [(2, 0)]))], [(2, .cells [.dat tI a0])])
def hard_wrong_g15 (a0 : Int) (v98 : ((List Int) × (List Int))) : Option Bool :=
(slices_ContainsFunc_Lintint_with_hard_wrong_1 v98.1 a0).bind fun r111 =>
bif r111 then
(some true)
else
((slices_ContainsFunc_Lintint_with_hard_wrong_1 v98.2 a0).bind fun r114 =>
some r114)
@[reducible] def hard_wrong_s16 (a0 : Int) (a1 : (List ((List Int) × (List Int)))) (i95 : Int) (v : Bool) : Fr × LL := ([(5, .one (.fn 73 [(2, 0)])), (49, aD (.slice (.pair (.slice tI) (.slice tI))) a1), (50, aI (List.length a1 : Int)), (51, aI i95), (64, aB v)], [(2, .cells [.dat tI a0])])
def hard_wrong_b17 (a0 : Int) (i95 : Int) (v98 : ((List Int) × (List Int))) (x96 : Unit) : Option (Flow Unit (Esc Int Unit)) :=
(hard_wrong_g15 a0 v98).bind fun v116 =>
bif v116 then
(some (.done (.ret (2 : Int))))
else
(some (.next ()))
@[reducible] def hard_wrong_s18 (a0 : Int) (a1 : (List ((List Int) × (List Int)))) (v : Int × Unit) : Fr × LL := ([(5, .one (.fn 73 [(2, 0)])), (49, aD (.slice (.pair (.slice tI) (.slice tI))) a1), (50, aI (List.length a1 : Int)), (51, aI v.1)], [(2, .cells [.dat tI a0])])
@[reducible] def hard_wrong_s19 (v : Int) : Fr × LL := ([(4, aI v)], [])
@[reducible] def hard_wrong_s20 (v : Unit) : Fr × LL := ([], [])
def hard_wrong (a0 : Int) (a1 : (List ((List Int) × (List Int)))) : Option Int :=
bif ((decide (a0 < (0 : Int))) || (decide (a0 > (8 : Int)))) || (decide ((List.length a1 : Int) > (12 : Int))) then
(some (1 : Int))
else
((forL hard_wrong_b7 (fun x29 => (.brk ())) a1 0 ()).bind fun v44 =>
match v44 with
| .ret v49 =>
(some v49)
| .brk v50 =>
((forL (hard_wrong_b17 a0) (fun x96 => (.brk ())) a1 0 ()).bind fun v120 =>
match v120 with
| .ret v125 =>
(some v125)
| .brk v126 =>
(some (0 : Int))))
theorem hard_wrong_ok {a0 : Int} {a1 : (List ((List Int) × (List Int)))} {r : Int} (h : hard_wrong a0 a1 = some r) : FnC Try.prog 64 [aI a0, aD (.slice (.pair (.slice tI) (.slice tI))) a1] [] (aI r) [] := by
  refine fnC_of_W (B := bodyOf Try.f64) (n := 66) Try.func64 (by kernel_rfl) (by kernel_rfl) (by kernel_rfl) (by kernel_rfl) (by kernel_rfl) ?_
  intro K
  refine W_seq (by kernel_rfl) ?_
  refine W_run 2 [] [1, 2] [2] (fr' := [(1, aD (.slice (.pair (.slice tI) (.slice tI))) a1), (2, .one (.ptr 2 0))]) (L' := [(2, .cells [.dat tI a0])]) (obs := []) (by kernel_rfl) (by kernel_rfl) (by kernel_rfl) allP0 ?_
  refine seqQ_norm ?_
  refine W_seq (by kernel_rfl) ?_
  refine W_seq (by kernel_rfl) ?_
  refine W_run 11 [] [1, 2, 20] [2] (fr' := [(1, aD (.slice (.pair (.slice tI) (.slice tI))) a1), (2, .one (.ptr 2 0)), (20, aB (((decide (a0 < (0 : Int))) || (decide (a0 > (8 : Int)))) || (decide ((List.length a1 : Int) > (12 : Int)))))]) (L' := [(2, .cells [.dat tI a0])]) (obs := []) (by kernel_rfl) (by kernel_rfl) (by kernel_rfl) allP0 ?_
  refine seqQ_norm ?_
  refine W_cond (o := .tmp 20) (b := ((decide (a0 < (0 : Int))) || (decide (a0 > (8 : Int)))) || (decide ((List.length a1 : Int) > (12 : Int)))) (by kernel_rfl) (by kernel_rfl) (fun h1 => ?_) (fun h1 => ?_)
  · replace h := ofT h1 h
    refine W_seq (by kernel_rfl) ?_
    refine W_run 1 [] [4] [] (fr' := [(4, aI (1 : Int))]) (L' := []) (obs := []) (by kernel_rfl) (by kernel_rfl) (by kernel_rfl) allP0 ?_
    refine seqQ_norm ?_
    obtain rfl := Option.some.inj h
    refine W_ret [4] [] (fr' := [(4, aI (1 : Int))]) (L' := []) (by kernel_rfl) (by kernel_rfl) ?_
    refine seqQ_ret ?_
    exact retQ_mk (by kernel_rfl) (by kernel_rfl) (by kernel_rfl)
  · replace h := ofF h1 h
    refine W_skip [1, 2] [2] (fr' := [(1, aD (.slice (.pair (.slice tI) (.slice tI))) a1), (2, .one (.ptr 2 0))]) (L' := [(2, .cells [.dat tI a0])]) (by kernel_rfl) (by kernel_rfl) ?_
    refine seqQ_norm ?_
    refine W_seq (by kernel_rfl) ?_
    refine W_run 2 [] [1, 5] [2] (fr' := [(1, aD (.slice (.pair (.slice tI) (.slice tI))) a1), (5, .one (.fn 73 [(2, 0)]))]) (L' := [(2, .cells [.dat tI a0])]) (obs := []) (by kernel_rfl) (by kernel_rfl) (by kernel_rfl) allP0 ?_
    refine seqQ_norm ?_
    refine W_seq (by kernel_rfl) ?_
    refine W_seq (by kernel_rfl) ?_
    refine W_run 3 [] [1, 5, 22, 23, 24] [2] (fr' := [(1, aD (.slice (.pair (.slice tI) (.slice tI))) a1), (5, .one (.fn 73 [(2, 0)])), (22, aD (.slice (.pair (.slice tI) (.slice tI))) a1), (23, aI (List.length a1 : Int)), (24, aI (0 : Int))]) (L' := [(2, .cells [.dat tI a0])]) (obs := []) (by kernel_rfl) (by kernel_rfl) (by kernel_rfl) allP0 ?_
    refine seqQ_norm ?_
    refine W_block (id := 0) (by kernel_rfl) ?_
    obtain ⟨v44, h45, h⟩ := bind_of h
    refine W_len (t := 22) (u := (.pair (.slice tI) (.slice tI))) (xs := a1) (by kernel_rfl) (fun h48 => ?_)
    obtain ⟨h46, h47⟩ := forL_iter h48 h45
    refine W_weaken [1, 5, 22, 23, 24] [2] (fr' := ((hard_wrong_s8 a0 a1) ((0 : Int), ())).1) (L' := ((hard_wrong_s8 a0 a1) ((0 : Int), ())).2) (by kernel_rfl) ?_
    refine W_cutK (W_loop (S := (hard_wrong_s8 a0 a1)) (J := (escQ (exQ .ret hard_wrong_s9) (exQ (.exit 0) (hard_wrong_s10 a0 a1)))) (by kernel_rfl) ?_ h46 _ v44 h47) ?_
    · rintro ⟨i28, x29⟩ s h
      refine W_seq (by kernel_rfl) ?_
      refine W_run 1 [] [1, 5, 22, 23, 24, 25] [2] (fr' := [(1, aD (.slice (.pair (.slice tI) (.slice tI))) a1), (5, .one (.fn 73 [(2, 0)])), (22, aD (.slice (.pair (.slice tI) (.slice tI))) a1), (23, aI (List.length a1 : Int)), (24, aI i28), (25, aB (decide (i28 < (List.length a1 : Int))))]) (L' := [(2, .cells [.dat tI a0])]) (obs := []) (by kernel_rfl) (by kernel_rfl) (by kernel_rfl) allP0 ?_
      refine seqQ_norm ?_
      refine W_seq (by kernel_rfl) ?_
      refine W_cond (o := .tmp 25) (b := decide (i28 < (List.length a1 : Int))) (by kernel_rfl) (by kernel_rfl) (fun h33 => ?_) (fun h33 => ?_)
      · replace h := stepL_true h33 h
        obtain ⟨v31, _, h32, h, rfl⟩ := h
        refine W_skip [1, 5, 22, 23, 24] [2] (fr' := [(1, aD (.slice (.pair (.slice tI) (.slice tI))) a1), (5, .one (.fn 73 [(2, 0)])), (22, aD (.slice (.pair (.slice tI) (.slice tI))) a1), (23, aI (List.length a1 : Int)), (24, aI i28)]) (L' := [(2, .cells [.dat tI a0])]) (by kernel_rfl) (by kernel_rfl) ?_
        refine seqQ_norm ?_
        refine W_seq (by kernel_rfl) ?_
        refine W_block (id := 1) (by kernel_rfl) ?_
        refine W_seq (by kernel_rfl) ?_
        refine W_run 4 [(1, .val (.dat (.pair (.slice tI) (.slice tI)) v31)), (5, .typed)] [1, 5, 7, 22, 23, 24] [2, 7] (fr' := [(1, aD (.slice (.pair (.slice tI) (.slice tI))) a1), (5, .one (.fn 73 [(2, 0)])), (7, .one (.ptr 7 0)), (22, aD (.slice (.pair (.slice tI) (.slice tI))) a1), (23, aI (List.length a1 : Int)), (24, aI i28)]) (L' := [(2, .cells [.dat tI a0]), (7, .one (.pair (.slice tI) (.slice tI)) v31)]) (obs := [Idx a1 i28 v31, True]) (by kernel_rfl) (by kernel_rfl) (by kernel_rfl) (allP2 (Idx.of h32) (allP1 trivial)) ?_
        refine seqQ_norm ?_
        refine W_seq (by kernel_rfl) ?_
        obtain ⟨v40, h41, h⟩ := bind_of h
        refine W_cutK (Q' := (exQ .normal (hard_wrong_s6 a0 a1 i28)) v40) ?_ ?_
        · replace h := h41
          refine W_region (by kernel_rfl) ?_
          refine WO_run (j := 5) (k := 5) (orcs := []) (kF := [1, 5, 7, 22, 23, 24, 32]) (kL := [2, 7]) (fr' := [(1, aD (.slice (.pair (.slice tI) (.slice tI))) a1), (5, .one (.fn 73 [(2, 0)])), (7, .one (.ptr 7 0)), (22, aD (.slice (.pair (.slice tI) (.slice tI))) a1), (23, aI (List.length a1 : Int)), (24, aI i28), (32, aB (decide ((List.length v31.1 : Int) > (3 : Int))))]) (L' := [(2, .cells [.dat tI a0]), (7, .one (.pair (.slice tI) (.slice tI)) v31)]) (obs := []) rfl (by kernel_rfl) allP0 ?_
          rcases Bool.eq_false_or_eq_true (decide ((List.length v31.1 : Int) > (3 : Int))) with h38 | h38
          · replace h := ofT h38 h
            refine WO_run (j := 20) (k := 15) (orcs := [(10, .known true), (12, .known true), (14, .known true), (16, .known true), (19, .val (.dat .bool true)), (22, .known true), (24, .known true), (26, .known true), (28, .known true), (30, .known true), (32, .known true), (34, .known true), (36, .known true), (39, .val (.dat .bool true))]) (kF := [1, 5, 22, 23, 24, 47]) (kL := [2, 7]) (fr' := [(1, aD (.slice (.pair (.slice tI) (.slice tI))) a1), (5, .one (.fn 73 [(2, 0)])), (22, aD (.slice (.pair (.slice tI) (.slice tI))) a1), (23, aI (List.length a1 : Int)), (24, aI i28), (47, aB true)]) (L' := [(2, .cells [.dat tI a0]), (7, .one (.pair (.slice tI) (.slice tI)) v31)]) (obs := [((decide ((List.length v31.1 : Int) > (3 : Int))) = true), ((decide ((List.length v31.1 : Int) > (3 : Int))) = true), ((decide ((List.length v31.1 : Int) > (3 : Int))) = true), ((decide ((List.length v31.1 : Int) > (3 : Int))) = true), ((decide ((List.length v31.1 : Int) > (3 : Int))) = true), (true = true), (true = true), (true = true), (true = true), (true = true), (true = true), (true = true), (true = true), (true = true)]) rfl (by kernel_rfl) (allP2 h38 (allP2 h38 (allP2 h38 (allP2 h38 (allP2 h38 (allP2 rfl (allP2 rfl (allP2 rfl (allP2 rfl (allP2 rfl (allP2 rfl (allP2 rfl (allP2 rfl (allP1 rfl)))))))))))))) ?_
            obtain rfl := Option.some.inj h
            refine WO_fin [1, 5, 22, 23, 24, 47] [2] (fr' := [(1, aD (.slice (.pair (.slice tI) (.slice tI))) a1), (5, .one (.fn 73 [(2, 0)])), (22, aD (.slice (.pair (.slice tI) (.slice tI))) a1), (23, aI (List.length a1 : Int)), (24, aI i28), (47, aB true)]) (L' := [(2, .cells [.dat tI a0])]) (by kernel_rfl) (by kernel_rfl) ?_
            exact exQ_mk (by kernel_rfl) (by kernel_rfl)
          · replace h := ofF h38 h
            refine WO_run (j := 11) (k := 6) (orcs := [(10, .known false), (12, .known false), (14, .known false), (16, .known false), (19, .val (.dat .bool false))]) (kF := [1, 5, 7, 22, 23, 24, 38]) (kL := [2, 7]) (fr' := [(1, aD (.slice (.pair (.slice tI) (.slice tI))) a1), (5, .one (.fn 73 [(2, 0)])), (7, .one (.ptr 7 0)), (22, aD (.slice (.pair (.slice tI) (.slice tI))) a1), (23, aI (List.length a1 : Int)), (24, aI i28), (38, aB (decide ((List.length v31.2 : Int) > (3 : Int))))]) (L' := [(2, .cells [.dat tI a0]), (7, .one (.pair (.slice tI) (.slice tI)) v31)]) (obs := [((decide ((List.length v31.1 : Int) > (3 : Int))) = false), ((decide ((List.length v31.1 : Int) > (3 : Int))) = false), ((decide ((List.length v31.1 : Int) > (3 : Int))) = false), ((decide ((List.length v31.1 : Int) > (3 : Int))) = false), ((decide ((List.length v31.1 : Int) > (3 : Int))) = false)]) rfl (by kernel_rfl) (allP2 h38 (allP2 h38 (allP2 h38 (allP2 h38 (allP1 h38))))) ?_
            rcases Bool.eq_false_or_eq_true (decide ((List.length v31.2 : Int) > (3 : Int))) with h39 | h39
            · replace h := ofT h39 h
              refine WO_run (j := 20) (k := 9) (orcs := [(22, .known true), (24, .known true), (26, .known true), (28, .known true), (30, .known true), (32, .known true), (34, .known true), (36, .known true), (39, .val (.dat .bool true))]) (kF := [1, 5, 22, 23, 24, 47]) (kL := [2, 7]) (fr' := [(1, aD (.slice (.pair (.slice tI) (.slice tI))) a1), (5, .one (.fn 73 [(2, 0)])), (22, aD (.slice (.pair (.slice tI) (.slice tI))) a1), (23, aI (List.length a1 : Int)), (24, aI i28), (47, aB true)]) (L' := [(2, .cells [.dat tI a0]), (7, .one (.pair (.slice tI) (.slice tI)) v31)]) (obs := [((decide ((List.length v31.2 : Int) > (3 : Int))) = true), ((decide ((List.length v31.2 : Int) > (3 : Int))) = true), ((decide ((List.length v31.2 : Int) > (3 : Int))) = true), ((decide ((List.length v31.2 : Int) > (3 : Int))) = true), ((decide ((List.length v31.2 : Int) > (3 : Int))) = true), ((decide ((List.length v31.2 : Int) > (3 : Int))) = true), ((decide ((List.length v31.2 : Int) > (3 : Int))) = true), ((decide ((List.length v31.2 : Int) > (3 : Int))) = true), ((decide ((List.length v31.2 : Int) > (3 : Int))) = true)]) rfl (by kernel_rfl) (allP2 h39 (allP2 h39 (allP2 h39 (allP2 h39 (allP2 h39 (allP2 h39 (allP2 h39 (allP2 h39 (allP1 h39))))))))) ?_
              obtain rfl := Option.some.inj h
              refine WO_fin [1, 5, 22, 23, 24, 47] [2] (fr' := [(1, aD (.slice (.pair (.slice tI) (.slice tI))) a1), (5, .one (.fn 73 [(2, 0)])), (22, aD (.slice (.pair (.slice tI) (.slice tI))) a1), (23, aI (List.length a1 : Int)), (24, aI i28), (47, aB true)]) (L' := [(2, .cells [.dat tI a0])]) (by kernel_rfl) (by kernel_rfl) ?_
              exact exQ_mk (by kernel_rfl) (by kernel_rfl)
            · replace h := ofF h39 h
              refine WO_run (j := 20) (k := 9) (orcs := [(22, .known false), (24, .known false), (26, .known false), (28, .known false), (30, .known false), (32, .known false), (34, .known false), (36, .known false), (39, .val (.dat .bool false))]) (kF := [1, 5, 22, 23, 24, 47]) (kL := [2, 7]) (fr' := [(1, aD (.slice (.pair (.slice tI) (.slice tI))) a1), (5, .one (.fn 73 [(2, 0)])), (22, aD (.slice (.pair (.slice tI) (.slice tI))) a1), (23, aI (List.length a1 : Int)), (24, aI i28), (47, aB (decide ((w64 ((List.length v31.1 : Int) + (List.length v31.2 : Int))) > (3 : Int))))]) (L' := [(2, .cells [.dat tI a0]), (7, .one (.pair (.slice tI) (.slice tI)) v31)]) (obs := [((decide ((List.length v31.2 : Int) > (3 : Int))) = false), ((decide ((List.length v31.2 : Int) > (3 : Int))) = false), ((decide ((List.length v31.2 : Int) > (3 : Int))) = false), ((decide ((List.length v31.2 : Int) > (3 : Int))) = false), ((decide ((List.length v31.2 : Int) > (3 : Int))) = false), ((decide ((List.length v31.2 : Int) > (3 : Int))) = false), ((decide ((List.length v31.2 : Int) > (3 : Int))) = false), ((decide ((List.length v31.2 : Int) > (3 : Int))) = false), ((decide ((List.length v31.2 : Int) > (3 : Int))) = false)]) rfl (by kernel_rfl) (allP2 h39 (allP2 h39 (allP2 h39 (allP2 h39 (allP2 h39 (allP2 h39 (allP2 h39 (allP2 h39 (allP1 h39))))))))) ?_
              obtain rfl := Option.some.inj h
              refine WO_fin [1, 5, 22, 23, 24, 47] [2] (fr' := [(1, aD (.slice (.pair (.slice tI) (.slice tI))) a1), (5, .one (.fn 73 [(2, 0)])), (22, aD (.slice (.pair (.slice tI) (.slice tI))) a1), (23, aI (List.length a1 : Int)), (24, aI i28), (47, aB (decide ((w64 ((List.length v31.1 : Int) + (List.length v31.2 : Int))) > (3 : Int))))]) (L' := [(2, .cells [.dat tI a0])]) (by kernel_rfl) (by kernel_rfl) ?_
              exact exQ_mk (by kernel_rfl) (by kernel_rfl)
        · intro e fr L hJ
          obtain ⟨rfl, rfl, rfl⟩ := hJ
          refine LT_keep [1, 5, 22, 23, 24, 47] [2] (fr' := [(1, aD (.slice (.pair (.slice tI) (.slice tI))) a1), (5, .one (.fn 73 [(2, 0)])), (22, aD (.slice (.pair (.slice tI) (.slice tI))) a1), (23, aI (List.length a1 : Int)), (24, aI i28), (47, aB v40)]) (L' := [(2, .cells [.dat tI a0])]) (by kernel_rfl) ?_
          refine seqQ_norm ?_
          refine W_cond (o := .tmp 47) (b := v40) (by kernel_rfl) (by kernel_rfl) (fun h42 => ?_) (fun h42 => ?_)
          · replace h := ofT h42 h
            refine W_seq (by kernel_rfl) ?_
            refine W_run 1 [] [4] [] (fr' := [(4, aI (1 : Int))]) (L' := []) (obs := []) (by kernel_rfl) (by kernel_rfl) (by kernel_rfl) allP0 ?_
            refine seqQ_norm ?_
            obtain rfl := Option.some.inj h
            refine W_ret [4] [] (fr' := [(4, aI (1 : Int))]) (L' := []) (by kernel_rfl) (by kernel_rfl) ?_
            refine blockQ_ret ?_
            refine seqQ_ret ?_
            refine round_ret ?_
            refine escQ_ret ?_
            exact exQ_mk (by kernel_rfl) (by kernel_rfl)
          · replace h := ofF h42 h
            refine W_skip [1, 5, 22, 23, 24] [2] (fr' := [(1, aD (.slice (.pair (.slice tI) (.slice tI))) a1), (5, .one (.fn 73 [(2, 0)])), (22, aD (.slice (.pair (.slice tI) (.slice tI))) a1), (23, aI (List.length a1 : Int)), (24, aI i28)]) (L' := [(2, .cells [.dat tI a0])]) (by kernel_rfl) (by kernel_rfl) ?_
            refine blockQ_norm ?_
            refine seqQ_norm ?_
            obtain rfl := Option.some.inj h
            refine W_run 2 [] [1, 5, 22, 23, 24] [2] (fr' := [(1, aD (.slice (.pair (.slice tI) (.slice tI))) a1), (5, .one (.fn 73 [(2, 0)])), (22, aD (.slice (.pair (.slice tI) (.slice tI))) a1), (23, aI (List.length a1 : Int)), (24, aI (w64 (i28 + (1 : Int))))]) (L' := [(2, .cells [.dat tI a0])]) (obs := []) (by kernel_rfl) (by kernel_rfl) (by kernel_rfl) allP0 ?_
            exact round_next' (by kernel_rfl) (by kernel_rfl)
      · obtain rfl := stepL_false h33 h
        refine W_exit (id := 0) [1, 5] [2] (fr' := [(1, aD (.slice (.pair (.slice tI) (.slice tI))) a1), (5, .one (.fn 73 [(2, 0)]))]) (L' := [(2, .cells [.dat tI a0])]) (by kernel_rfl) (by kernel_rfl) ?_
        refine seqQ_exit ?_
        refine round_exit ?_
        refine escQ_brk ?_
        exact exQ_mk (by kernel_rfl) (by kernel_rfl)
    · intro e fr L hJ
      rcases v44 with v49 | v50
      · obtain ⟨rfl, rfl, rfl⟩ := hJ
        obtain rfl := Option.some.inj h
        refine LT_keep [4] [] (fr' := [(4, aI v49)]) (L' := []) (by kernel_rfl) ?_
        refine blockQ_ret ?_
        refine seqQ_ret ?_
        exact retQ_mk (by kernel_rfl) (by kernel_rfl) (by kernel_rfl)
      · obtain ⟨rfl, rfl, rfl⟩ := hJ
        refine LT_keep [1, 5] [2] (fr' := [(1, aD (.slice (.pair (.slice tI) (.slice tI))) a1), (5, .one (.fn 73 [(2, 0)]))]) (L' := [(2, .cells [.dat tI a0])]) (by kernel_rfl) ?_
        refine blockQ_hit ?_
        refine seqQ_norm ?_
        refine W_seq (by kernel_rfl) ?_
        refine W_seq (by kernel_rfl) ?_
        refine W_run 3 [] [5, 49, 50, 51] [2] (fr' := [(5, .one (.fn 73 [(2, 0)])), (49, aD (.slice (.pair (.slice tI) (.slice tI))) a1), (50, aI (List.length a1 : Int)), (51, aI (0 : Int))]) (L' := [(2, .cells [.dat tI a0])]) (obs := []) (by kernel_rfl) (by kernel_rfl) (by kernel_rfl) allP0 ?_
        refine seqQ_norm ?_
        refine W_block (id := 2) (by kernel_rfl) ?_
        obtain ⟨v120, h121, h⟩ := bind_of h
        refine W_len (t := 49) (u := (.pair (.slice tI) (.slice tI))) (xs := a1) (by kernel_rfl) (fun h124 => ?_)
        obtain ⟨h122, h123⟩ := forL_iter h124 h121
        refine W_weaken [5, 49, 50, 51] [2] (fr' := ((hard_wrong_s18 a0 a1) ((0 : Int), ())).1) (L' := ((hard_wrong_s18 a0 a1) ((0 : Int), ())).2) (by kernel_rfl) ?_
        refine W_cutK (W_loop (S := (hard_wrong_s18 a0 a1)) (J := (escQ (exQ .ret hard_wrong_s19) (exQ (.exit 2) hard_wrong_s20))) (by kernel_rfl) ?_ h122 _ v120 h123) ?_
        · rintro ⟨i95, x96⟩ s h
          refine W_seq (by kernel_rfl) ?_
          refine W_run 1 [] [5, 49, 50, 51, 52] [2] (fr' := [(5, .one (.fn 73 [(2, 0)])), (49, aD (.slice (.pair (.slice tI) (.slice tI))) a1), (50, aI (List.length a1 : Int)), (51, aI i95), (52, aB (decide (i95 < (List.length a1 : Int))))]) (L' := [(2, .cells [.dat tI a0])]) (obs := []) (by kernel_rfl) (by kernel_rfl) (by kernel_rfl) allP0 ?_
          refine seqQ_norm ?_
          refine W_seq (by kernel_rfl) ?_
          refine W_cond (o := .tmp 52) (b := decide (i95 < (List.length a1 : Int))) (by kernel_rfl) (by kernel_rfl) (fun h100 => ?_) (fun h100 => ?_)
          · replace h := stepL_true h100 h
            obtain ⟨v98, _, h99, h, rfl⟩ := h
            refine W_skip [5, 49, 50, 51] [2] (fr' := [(5, .one (.fn 73 [(2, 0)])), (49, aD (.slice (.pair (.slice tI) (.slice tI))) a1), (50, aI (List.length a1 : Int)), (51, aI i95)]) (L' := [(2, .cells [.dat tI a0])]) (by kernel_rfl) (by kernel_rfl) ?_
            refine seqQ_norm ?_
            refine W_seq (by kernel_rfl) ?_
            refine W_block (id := 3) (by kernel_rfl) ?_
            refine W_seq (by kernel_rfl) ?_
            refine W_run 4 [(1, .val (.dat (.pair (.slice tI) (.slice tI)) v98)), (5, .typed)] [5, 9, 49, 50, 51] [2, 9] (fr' := [(5, .one (.fn 73 [(2, 0)])), (9, .one (.ptr 9 0)), (49, aD (.slice (.pair (.slice tI) (.slice tI))) a1), (50, aI (List.length a1 : Int)), (51, aI i95)]) (L' := [(2, .cells [.dat tI a0]), (9, .one (.pair (.slice tI) (.slice tI)) v98)]) (obs := [Idx a1 i95 v98, True]) (by kernel_rfl) (by kernel_rfl) (by kernel_rfl) (allP2 (Idx.of h99) (allP1 trivial)) ?_
            refine seqQ_norm ?_
            refine W_seq (by kernel_rfl) ?_
            obtain ⟨v116, h117, h⟩ := bind_of h
            refine W_cutK (Q' := (exQ .normal (hard_wrong_s16 a0 a1 i95)) v116) ?_ ?_
            · replace h := h117
              refine W_region (by kernel_rfl) ?_
              refine WO_run (j := 3) (k := 3) (orcs := []) (kF := [5, 9, 49, 50, 51, 56, 57]) (kL := [2, 9]) (fr' := [(5, .one (.fn 73 [(2, 0)])), (9, .one (.ptr 9 0)), (49, aD (.slice (.pair (.slice tI) (.slice tI))) a1), (50, aI (List.length a1 : Int)), (51, aI i95), (56, aD (.slice tI) v98.1), (57, .one (.fn 73 [(2, 0)]))]) (L' := [(2, .cells [.dat tI a0]), (9, .one (.pair (.slice tI) (.slice tI)) v98)]) (obs := []) rfl (by kernel_rfl) allP0 ?_
              obtain ⟨r111, h112, h⟩ := bind_of h
              refine WO_lend [(1000, 2)] (us := [none, none]) (d := 58) (p := True) (j := 4) rfl ⟨by kernel_rfl, by kernel_rfl, by kernel_rfl⟩ trivial (slices_ContainsFunc_Lintint_with_hard_wrong_1_ok h112) (by kernel_rfl) (by kernel_rfl) ?_
              refine WO_run (j := 5) (k := 1) (orcs := []) (kF := [5, 9, 49, 50, 51, 59]) (kL := [2, 9]) (fr' := [(5, .one (.fn 73 [(2, 0)])), (9, .one (.ptr 9 0)), (49, aD (.slice (.pair (.slice tI) (.slice tI))) a1), (50, aI (List.length a1 : Int)), (51, aI i95), (59, aB r111)]) (L' := [(2, .cells [.dat tI a0]), (9, .one (.pair (.slice tI) (.slice tI)) v98)]) (obs := []) rfl (by kernel_rfl) allP0 ?_
              rcases Bool.eq_false_or_eq_true (r111) with h113 | h113
              · replace h := ofT h113 h
                refine WO_run (j := 10) (k := 5) (orcs := [(10, .known true), (12, .known true), (14, .known true), (16, .known true), (19, .val (.dat .bool true))]) (kF := [5, 49, 50, 51, 64]) (kL := [2, 9]) (fr' := [(5, .one (.fn 73 [(2, 0)])), (49, aD (.slice (.pair (.slice tI) (.slice tI))) a1), (50, aI (List.length a1 : Int)), (51, aI i95), (64, aB true)]) (L' := [(2, .cells [.dat tI a0]), (9, .one (.pair (.slice tI) (.slice tI)) v98)]) (obs := [(r111 = true), (r111 = true), (r111 = true), (r111 = true), (r111 = true)]) rfl (by kernel_rfl) (allP2 h113 (allP2 h113 (allP2 h113 (allP2 h113 (allP1 h113))))) ?_
                obtain rfl := Option.some.inj h
                refine WO_fin [5, 49, 50, 51, 64] [2] (fr' := [(5, .one (.fn 73 [(2, 0)])), (49, aD (.slice (.pair (.slice tI) (.slice tI))) a1), (50, aI (List.length a1 : Int)), (51, aI i95), (64, aB true)]) (L' := [(2, .cells [.dat tI a0])]) (by kernel_rfl) (by kernel_rfl) ?_
                exact exQ_mk (by kernel_rfl) (by kernel_rfl)
              · replace h := ofF h113 h
                refine WO_run (j := 8) (k := 3) (orcs := [(10, .known false), (12, .known false), (14, .known false)]) (kF := [5, 49, 50, 51, 59, 61, 62]) (kL := [2, 9]) (fr' := [(5, .one (.fn 73 [(2, 0)])), (49, aD (.slice (.pair (.slice tI) (.slice tI))) a1), (50, aI (List.length a1 : Int)), (51, aI i95), (59, aB r111), (61, aD (.slice tI) v98.2), (62, .one (.fn 73 [(2, 0)]))]) (L' := [(2, .cells [.dat tI a0]), (9, .one (.pair (.slice tI) (.slice tI)) v98)]) (obs := [(r111 = false), (r111 = false), (r111 = false)]) rfl (by kernel_rfl) (allP2 h113 (allP2 h113 (allP1 h113))) ?_
                obtain ⟨r114, h115, h⟩ := bind_of h
                refine WO_lend [(1000, 2)] (us := [none, none]) (d := 63) (p := (r111 = false)) (j := 9) rfl ⟨by kernel_rfl, by kernel_rfl, by kernel_rfl⟩ h113 (slices_ContainsFunc_Lintint_with_hard_wrong_1_ok h115) (by kernel_rfl) (by kernel_rfl) ?_
                refine WO_run (j := 10) (k := 1) (orcs := [(19, .val (.dat .bool false))]) (kF := [5, 49, 50, 51, 64]) (kL := [2, 9]) (fr' := [(5, .one (.fn 73 [(2, 0)])), (49, aD (.slice (.pair (.slice tI) (.slice tI))) a1), (50, aI (List.length a1 : Int)), (51, aI i95), (64, aB r114)]) (L' := [(2, .cells [.dat tI a0]), (9, .one (.pair (.slice tI) (.slice tI)) v98)]) (obs := [(r111 = false)]) rfl (by kernel_rfl) (allP1 h113) ?_
                obtain rfl := Option.some.inj h
                refine WO_fin [5, 49, 50, 51, 64] [2] (fr' := [(5, .one (.fn 73 [(2, 0)])), (49, aD (.slice (.pair (.slice tI) (.slice tI))) a1), (50, aI (List.length a1 : Int)), (51, aI i95), (64, aB r114)]) (L' := [(2, .cells [.dat tI a0])]) (by kernel_rfl) (by kernel_rfl) ?_
                exact exQ_mk (by kernel_rfl) (by kernel_rfl)
            · intro e fr L hJ
              obtain ⟨rfl, rfl, rfl⟩ := hJ
              refine LT_keep [5, 49, 50, 51, 64] [2] (fr' := [(5, .one (.fn 73 [(2, 0)])), (49, aD (.slice (.pair (.slice tI) (.slice tI))) a1), (50, aI (List.length a1 : Int)), (51, aI i95), (64, aB v116)]) (L' := [(2, .cells [.dat tI a0])]) (by kernel_rfl) ?_
              refine seqQ_norm ?_
              refine W_cond (o := .tmp 64) (b := v116) (by kernel_rfl) (by kernel_rfl) (fun h118 => ?_) (fun h118 => ?_)
              · replace h := ofT h118 h
                refine W_seq (by kernel_rfl) ?_
                refine W_run 1 [] [4] [] (fr' := [(4, aI (2 : Int))]) (L' := []) (obs := []) (by kernel_rfl) (by kernel_rfl) (by kernel_rfl) allP0 ?_
                refine seqQ_norm ?_
                obtain rfl := Option.some.inj h
                refine W_ret [4] [] (fr' := [(4, aI (2 : Int))]) (L' := []) (by kernel_rfl) (by kernel_rfl) ?_
                refine blockQ_ret ?_
                refine seqQ_ret ?_
                refine round_ret ?_
                refine escQ_ret ?_
                exact exQ_mk (by kernel_rfl) (by kernel_rfl)
              · replace h := ofF h118 h
                refine W_skip [5, 49, 50, 51] [2] (fr' := [(5, .one (.fn 73 [(2, 0)])), (49, aD (.slice (.pair (.slice tI) (.slice tI))) a1), (50, aI (List.length a1 : Int)), (51, aI i95)]) (L' := [(2, .cells [.dat tI a0])]) (by kernel_rfl) (by kernel_rfl) ?_
                refine blockQ_norm ?_
                refine seqQ_norm ?_
                obtain rfl := Option.some.inj h
                refine W_run 2 [] [5, 49, 50, 51] [2] (fr' := [(5, .one (.fn 73 [(2, 0)])), (49, aD (.slice (.pair (.slice tI) (.slice tI))) a1), (50, aI (List.length a1 : Int)), (51, aI (w64 (i95 + (1 : Int))))]) (L' := [(2, .cells [.dat tI a0])]) (obs := []) (by kernel_rfl) (by kernel_rfl) (by kernel_rfl) allP0 ?_
                exact round_next' (by kernel_rfl) (by kernel_rfl)
          · obtain rfl := stepL_false h100 h
            refine W_exit (id := 2) [] [] (fr' := []) (L' := []) (by kernel_rfl) (by kernel_rfl) ?_
            refine seqQ_exit ?_
            refine round_exit ?_
            refine escQ_brk ?_
            exact exQ_mk (by kernel_rfl) (by kernel_rfl)
        · intro e fr L hJ
          rcases v120 with v125 | v126
          · obtain ⟨rfl, rfl, rfl⟩ := hJ
            obtain rfl := Option.some.inj h
            refine LT_keep [4] [] (fr' := [(4, aI v125)]) (L' := []) (by kernel_rfl) ?_
            refine blockQ_ret ?_
            refine seqQ_ret ?_
            exact retQ_mk (by kernel_rfl) (by kernel_rfl) (by kernel_rfl)
          · obtain ⟨rfl, rfl, rfl⟩ := hJ
            refine LT_keep [] [] (fr' := []) (L' := []) (by kernel_rfl) ?_
            refine blockQ_hit ?_
            refine seqQ_norm ?_
            refine W_seq (by kernel_rfl) ?_
            refine W_run 1 [] [4] [] (fr' := [(4, aI (0 : Int))]) (L' := []) (obs := []) (by kernel_rfl) (by kernel_rfl) (by kernel_rfl) allP0 ?_
            refine seqQ_norm ?_
            obtain rfl := Option.some.inj h
            refine W_ret [4] [] (fr' := [(4, aI (0 : Int))]) (L' := []) (by kernel_rfl) (by kernel_rfl) ?_
            exact retQ_mk (by kernel_rfl) (by kernel_rfl) (by kernel_rfl)

def hard_Weights_1_b1 (i5 : Int) (x6 : Int) : Option (Flow Int Int) :=
some (.next (w64 (x6 * (10 : Int))))
@[reducible] def hard_Weights_1_s2 (a0 : Int) (v : Int × Int) : Fr × LL := ([(3, aI v.2), (4, aI a0), (5, aI v.1)], [])
@[reducible] def hard_Weights_1_s3 (v : Int) : Fr × LL := ([(3, aI v)], [])
def hard_Weights_1 (a0 : Int) : Option Int :=
(forI (0 : Int) a0 hard_Weights_1_b1 (fun x6 => x6) (1 : Int)).bind fun v10 =>
some v10
theorem hard_Weights_1_ok {a0 : Int} {r : Int} (h : hard_Weights_1 a0 = some r) : FnC Try.prog 65 [aI a0] [] (aI r) [] := by
  refine fnC_of_W (B := bodyOf Try.f65) (n := 11) Try.func65 (by kernel_rfl) (by kernel_rfl) (by kernel_rfl) (by kernel_rfl) (by kernel_rfl) ?_
  intro K
  refine W_seq (by kernel_rfl) ?_
  refine W_run 1 [] [0] [] (fr' := [(0, aI a0)]) (L' := []) (obs := []) (by kernel_rfl) (by kernel_rfl) (by kernel_rfl) allP0 ?_
  refine seqQ_norm ?_
  refine W_seq (by kernel_rfl) ?_
  refine W_run 1 [] [0, 3] [] (fr' := [(0, aI a0), (3, aI (1 : Int))]) (L' := []) (obs := []) (by kernel_rfl) (by kernel_rfl) (by kernel_rfl) allP0 ?_
  refine seqQ_norm ?_
  refine W_seq (by kernel_rfl) ?_
  refine W_seq (by kernel_rfl) ?_
  refine W_run 2 [] [3, 4, 5] [] (fr' := [(3, aI (1 : Int)), (4, aI a0), (5, aI (0 : Int))]) (L' := []) (obs := []) (by kernel_rfl) (by kernel_rfl) (by kernel_rfl) allP0 ?_
  refine seqQ_norm ?_
  refine W_block (id := 0) (by kernel_rfl) ?_
  obtain ⟨v10, h11, h⟩ := bind_of h
  obtain ⟨h12, h13⟩ := forI_iter h11
  refine W_weaken [3, 4, 5] [] (fr' := ((hard_Weights_1_s2 a0) ((0 : Int), (1 : Int))).1) (L' := ((hard_Weights_1_s2 a0) ((0 : Int), (1 : Int))).2) (by kernel_rfl) ?_
  refine W_cutK (W_loop (S := (hard_Weights_1_s2 a0)) (J := (exQ (.exit 0) hard_Weights_1_s3)) (by kernel_rfl) ?_ h12 _ v10 h13) ?_
  · rintro ⟨i5, x6⟩ s h
    refine W_seq (by kernel_rfl) ?_
    refine W_run 1 [] [3, 4, 5, 6] [] (fr' := [(3, aI x6), (4, aI a0), (5, aI i5), (6, aB (decide (i5 < a0)))]) (L' := []) (obs := []) (by kernel_rfl) (by kernel_rfl) (by kernel_rfl) allP0 ?_
    refine seqQ_norm ?_
    refine W_seq (by kernel_rfl) ?_
    refine W_cond (o := .tmp 6) (b := decide (i5 < a0)) (by kernel_rfl) (by kernel_rfl) (fun h8 => ?_) (fun h8 => ?_)
    · replace h := stepI_true h8 h
      obtain ⟨_, h, rfl⟩ := h
      refine W_skip [3, 4, 5] [] (fr' := [(3, aI x6), (4, aI a0), (5, aI i5)]) (L' := []) (by kernel_rfl) (by kernel_rfl) ?_
      refine seqQ_norm ?_
      refine W_seq (by kernel_rfl) ?_
      refine W_block (id := 1) (by kernel_rfl) ?_
      refine W_run 3 [] [3, 4, 5] [] (fr' := [(3, aI (w64 (x6 * (10 : Int)))), (4, aI a0), (5, aI i5)]) (L' := []) (obs := []) (by kernel_rfl) (by kernel_rfl) (by kernel_rfl) allP0 ?_
      refine blockQ_norm ?_
      refine seqQ_norm ?_
      obtain rfl := Option.some.inj h
      refine W_run 2 [] [3, 4, 5] [] (fr' := [(3, aI (w64 (x6 * (10 : Int)))), (4, aI a0), (5, aI (w64 (i5 + (1 : Int))))]) (L' := []) (obs := []) (by kernel_rfl) (by kernel_rfl) (by kernel_rfl) allP0 ?_
      exact round_next' (by kernel_rfl) (by kernel_rfl)
    · obtain rfl := stepI_false h8 h
      refine W_exit (id := 0) [3] [] (fr' := [(3, aI x6)]) (L' := []) (by kernel_rfl) (by kernel_rfl) ?_
      refine seqQ_exit ?_
      refine round_exit ?_
      exact exQ_mk (by kernel_rfl) (by kernel_rfl)
  · intro e fr L hJ
    obtain ⟨rfl, rfl, rfl⟩ := hJ
    refine LT_keep [3] [] (fr' := [(3, aI v10)]) (L' := []) (by kernel_rfl) ?_
    refine blockQ_hit ?_
    refine seqQ_norm ?_
    refine W_seq (by kernel_rfl) ?_
    refine W_run 2 [] [2] [] (fr' := [(2, aI v10)]) (L' := []) (obs := []) (by kernel_rfl) (by kernel_rfl) (by kernel_rfl) allP0 ?_
    refine seqQ_norm ?_
    obtain rfl := Option.some.inj h
    refine W_ret [2] [] (fr' := [(2, aI v10)]) (L' := []) (by kernel_rfl) (by kernel_rfl) ?_
    exact retQ_mk (by kernel_rfl) (by kernel_rfl) (by kernel_rfl)

def hard_Weights_b55 (a0 : Int) (i410 : Int) (i542 : Int) (x543 : (Int × Int)) (i562 : Int) (v565 : Int) (x563 : Unit) : Option (Flow Unit Int) :=
bif v565 == i410 then
((hard_Weights_1 (w64 (a0 + i542))).bind fun r569 =>
some (.done (w64 (x543.1 + r569))))
else
(some (.next ()))
@[reducible] def hard_Weights_s56 (a0 : Int) (a1 : (List ((List Int) × (List Int)))) (i410 : Int) (x411 : (Int × (List Int))) (i542 : Int) (x543 : (Int × Int)) (v545 : ((List Int) × (List Int))) (v : Int × Unit) : Fr × LL := ([(0, aI a0), (1, aD (.slice (.pair (.slice tI) (.slice tI))) a1), (8, .one (.fn 65 [])), (9, .one (.slc 90)), (10, aI x411.1), (11, aI i410), (12, aI x543.1), (13, aI x543.2), (14, aI i542), (15, .one (.ptr 15 0)), (32, aI a0), (33, aI i410), (42, aD (.slice (.pair (.slice tI) (.slice tI))) a1), (43, aI (List.length a1 : Int)), (44, aI i542), (50, aD (.slice tI) v545.1), (51, aI (List.length v545.1 : Int)), (52, aI v.1)], [(90, .seq tI x411.2), (15, .one (.pair (.slice tI) (.slice tI)) v545)])
@[reducible] def hard_Weights_s57 (a0 : Int) (a1 : (List ((List Int) × (List Int)))) (i410 : Int) (x411 : (Int × (List Int))) (i542 : Int) (x543 : (Int × Int)) (v545 : ((List Int) × (List Int))) (v : Int) : Fr × LL := ([(0, aI a0), (1, aD (.slice (.pair (.slice tI) (.slice tI))) a1), (8, .one (.fn 65 [])), (9, .one (.slc 90)), (10, aI x411.1), (11, aI i410), (12, aI v), (13, aI x543.2), (14, aI i542), (15, .one (.ptr 15 0)), (32, aI a0), (33, aI i410), (42, aD (.slice (.pair (.slice tI) (.slice tI))) a1), (43, aI (List.length a1 : Int)), (44, aI i542)], [(90, .seq tI x411.2), (15, .one (.pair (.slice tI) (.slice tI)) v545)])
def hard_Weights_b58 (a0 : Int) (i410 : Int) (i542 : Int) (x543 : (Int × Int)) (i591 : Int) (v594 : Int) (x592 : Unit) : Option (Flow Unit Int) :=
bif v594 == i410 then
((hard_Weights_1 (w64 (a0 + i542))).bind fun r598 =>
some (.done (w64 (x543.2 + r598))))
else
(some (.next ()))
@[reducible] def hard_Weights_s59 (a0 : Int) (a1 : (List ((List Int) × (List Int)))) (i410 : Int) (x411 : (Int × (List Int))) (i542 : Int) (x543 : (Int × Int)) (v545 : ((List Int) × (List Int))) (v572 : Int) (v : Int × Unit) : Fr × LL := ([(0, aI a0), (1, aD (.slice (.pair (.slice tI) (.slice tI))) a1), (8, .one (.fn 65 [])), (9, .one (.slc 90)), (10, aI x411.1), (11, aI i410), (12, aI v572), (13, aI x543.2), (14, aI i542), (32, aI a0), (33, aI i410), (42, aD (.slice (.pair (.slice tI) (.slice tI))) a1), (43, aI (List.length a1 : Int)), (44, aI i542), (68, aD (.slice tI) v545.2), (69, aI (List.length v545.2 : Int)), (70, aI v.1)], [(90, .seq tI x411.2)])
@[reducible] def hard_Weights_s60 (a0 : Int) (a1 : (List ((List Int) × (List Int)))) (i410 : Int) (x411 : (Int × (List Int))) (i542 : Int) (v572 : Int) (v : Int) : Fr × LL := ([(0, aI a0), (1, aD (.slice (.pair (.slice tI) (.slice tI))) a1), (8, .one (.fn 65 [])), (9, .one (.slc 90)), (10, aI x411.1), (11, aI i410), (12, aI v572), (13, aI v), (32, aI a0), (33, aI i410), (42, aD (.slice (.pair (.slice tI) (.slice tI))) a1), (43, aI (List.length a1 : Int)), (44, aI i542)], [(90, .seq tI x411.2)])
def hard_Weights_b61 (a0 : Int) (i410 : Int) (i542 : Int) (v545 : ((List Int) × (List Int))) (x543 : (Int × Int)) : Option (Flow (Int × Int) (Int × Int)) :=
(forL (hard_Weights_b55 a0 i410 i542 x543) (fun x563 => x543.1) v545.1 0 ()).bind fun v572 =>
(forL (hard_Weights_b58 a0 i410 i542 x543) (fun x592 => x543.2) v545.2 0 ()).bind fun v601 =>
some (.next (v572, v601))
@[reducible] def hard_Weights_s62 (a0 : Int) (a1 : (List ((List Int) × (List Int)))) (i410 : Int) (x411 : (Int × (List Int))) (v : Int × (Int × Int)) : Fr × LL := ([(0, aI a0), (1, aD (.slice (.pair (.slice tI) (.slice tI))) a1), (8, .one (.fn 65 [])), (9, .one (.slc 90)), (10, aI x411.1), (11, aI i410), (12, aI v.2.1), (13, aI v.2.2), (32, aI a0), (33, aI i410), (42, aD (.slice (.pair (.slice tI) (.slice tI))) a1), (43, aI (List.length a1 : Int)), (44, aI v.1)], [(90, .seq tI x411.2)])
@[reducible] def hard_Weights_s63 (a0 : Int) (a1 : (List ((List Int) × (List Int)))) (i410 : Int) (x411 : (Int × (List Int))) (v : (Int × Int)) : Fr × LL := ([(0, aI a0), (1, aD (.slice (.pair (.slice tI) (.slice tI))) a1), (8, .one (.fn 65 [])), (9, .one (.slc 90)), (10, aI x411.1), (11, aI i410), (12, aI v.1), (13, aI v.2), (32, aI a0), (33, aI i410)], [(90, .seq tI x411.2)])
def hard_Weights_b64 (a0 : Int) (a1 : (List ((List Int) × (List Int)))) (i410 : Int) (x411 : (Int × (List Int))) : Option (Flow (Int × (List Int)) (Int × (List Int))) :=
(hard_Weights_1 i410).bind fun r414 =>
(hard_Weights_1 i410).bind fun r416 =>
(forL (hard_Weights_b61 a0 i410) (fun x543 => (x543.1, x543.2)) a1 0 (r414, r416)).bind fun v607 =>
(ck ((List.length x411.2 : Int) + 2 ≤ 4294967296)).bind fun _ =>
(hard_Weights_1 i410).bind fun r613 =>
some (.next (w64 (x411.1 + r613), x411.2 ++ [v607.1, v607.2]))
@[reducible] def hard_Weights_s65 (a0 : Int) (a1 : (List ((List Int) × (List Int)))) (v : Int × (Int × (List Int))) : Fr × LL := ([(0, aI a0), (1, aD (.slice (.pair (.slice tI) (.slice tI))) a1), (8, .one (.fn 65 [])), (9, .one (.slc 90)), (10, aI v.2.1), (32, aI a0), (33, aI v.1)], [(90, .seq tI v.2.2)])
@[reducible] def hard_Weights_s66 (a0 : Int) (a1 : (List ((List Int) × (List Int)))) (v : (Int × (List Int))) : Fr × LL := ([(0, aI a0), (1, aD (.slice (.pair (.slice tI) (.slice tI))) a1), (8, .one (.fn 65 [])), (9, .one (.slc 90)), (10, aI v.1)], [(90, .seq tI v.2)])
def hard_Weights_b67 (a0 : Int) (i638 : Int) (x639 : (Int × (List Int))) : Option (Flow (Int × (List Int)) (Int × (List Int))) :=
(hard_Weights_1 (w64 (a0 + i638))).bind fun r642 =>
(hard_Weights_1 (w64 (a0 + i638))).bind fun r644 =>
(ck ((List.length x639.2 : Int) + 2 ≤ 4294967296)).bind fun _ =>
(hard_Weights_1 (w64 (a0 + i638))).bind fun r647 =>
some (.next (w64 (x639.1 + (w64 ((3 : Int) * r647))), x639.2 ++ [r642, r644]))
@[reducible] def hard_Weights_s68 (a0 : Int) (a1 : (List ((List Int) × (List Int)))) (v : Int × (Int × (List Int))) : Fr × LL := ([(0, aI a0), (8, .one (.fn 65 [])), (9, .one (.slc 90)), (10, aI v.2.1), (98, aI (List.length a1 : Int)), (99, aI v.1)], [(90, .seq tI v.2.2)])
@[reducible] def hard_Weights_s69 (v : (Int × (List Int))) : Fr × LL := ([(9, .one (.slc 90)), (10, aI v.1)], [(90, .seq tI v.2)])
def hard_Weights (a0 : Int) (a1 : (List ((List Int) × (List Int)))) : Option ((List Int) × Int × Int) :=
(hard_wrong a0 a1).bind fun r1 =>
bif r1 != (0 : Int) then
(some ([], (0 : Int), r1))
else
(bif decide ((w64 (a0 + (List.length a1 : Int))) > (5 : Int)) then
(some ([], (0 : Int), (1 : Int)))
else
((forI (0 : Int) a0 (hard_Weights_b64 a0 a1) (fun x411 => (x411.1, x411.2)) ((0 : Int), [])).bind fun v616 =>
(forI (0 : Int) (List.length a1 : Int) (hard_Weights_b67 a0) (fun x639 => (x639.1, x639.2)) (v616.1, v616.2)).bind fun v650 =>
some (v650.2, v650.1, (0 : Int))))
theorem hard_Weights_ok {a0 : Int} {a1 : (List ((List Int) × (List Int)))} {r : ((List Int) × Int × Int)} (h : hard_Weights a0 a1 = some r) : FnC Try.prog 37 [aI a0, aD (.slice (.pair (.slice tI) (.slice tI))) a1] [] (.tup [.dat (.slice tI) r.1, .dat tI r.2.1, .dat tI r.2.2]) [] := by
  refine fnC_of_W (B := bodyOf Try.f37) (n := 126) Try.func37 (by kernel_rfl) (by kernel_rfl) (by kernel_rfl) (by kernel_rfl) (by kernel_rfl) ?_
  intro K
  refine W_seq (by kernel_rfl) ?_
  refine W_run 3 [] [0, 1] [] (fr' := [(0, aI a0), (1, aD (.slice (.pair (.slice tI) (.slice tI))) a1)]) (L' := []) (obs := []) (by kernel_rfl) (by kernel_rfl) (by kernel_rfl) allP0 ?_
  refine seqQ_norm ?_
  refine W_seq (by kernel_rfl) ?_
  refine W_seq (by kernel_rfl) ?_
  refine W_region (by kernel_rfl) ?_
  refine WO_run (j := 2) (k := 2) (orcs := []) (kF := [0, 1, 21, 22]) (kL := []) (fr' := [(0, aI a0), (1, aD (.slice (.pair (.slice tI) (.slice tI))) a1), (21, aI a0), (22, aD (.slice (.pair (.slice tI) (.slice tI))) a1)]) (L' := []) (obs := []) rfl (by kernel_rfl) allP0 ?_
  obtain ⟨r1, h2, h⟩ := bind_of h
  refine WO_call0 (us := [none, none]) (d := 23) (p := True) (j := 3) rfl ⟨by kernel_rfl, by kernel_rfl, by kernel_rfl⟩ trivial (hard_wrong_ok h2) (by kernel_rfl) ?_
  refine WO_run (j := 4) (k := 1) (orcs := []) (kF := [0, 1, 7]) (kL := []) (fr' := [(0, aI a0), (1, aD (.slice (.pair (.slice tI) (.slice tI))) a1), (7, aI r1)]) (L' := []) (obs := []) rfl (by kernel_rfl) allP0 ?_
  refine WO_fin [0, 1, 7] [] (fr' := [(0, aI a0), (1, aD (.slice (.pair (.slice tI) (.slice tI))) a1), (7, aI r1)]) (L' := []) (by kernel_rfl) (by kernel_rfl) ?_
  refine seqQ_norm ?_
  refine W_seq (by kernel_rfl) ?_
  refine W_run 2 [] [0, 1, 7, 25] [] (fr' := [(0, aI a0), (1, aD (.slice (.pair (.slice tI) (.slice tI))) a1), (7, aI r1), (25, aB (r1 != (0 : Int)))]) (L' := []) (obs := []) (by kernel_rfl) (by kernel_rfl) (by kernel_rfl) allP0 ?_
  refine seqQ_norm ?_
  refine W_cond (o := .tmp 25) (b := r1 != (0 : Int)) (by kernel_rfl) (by kernel_rfl) (fun h3 => ?_) (fun h3 => ?_)
  · replace h := ofT h3 h
    refine W_seq (by kernel_rfl) ?_
    refine W_run 4 [] [4, 5, 6] [] (fr' := [(4, .one (.nilS)), (5, aI (0 : Int)), (6, aI r1)]) (L' := []) (obs := []) (by kernel_rfl) (by kernel_rfl) (by kernel_rfl) allP0 ?_
    refine seqQ_norm ?_
    obtain rfl := Option.some.inj h
    refine W_cnv 4 (.slice tI) (by kernel_rfl) ?_
    refine W_ret [4, 5, 6] [] (fr' := [(4, aD (.slice tI) []), (5, aI (0 : Int)), (6, aI r1)]) (L' := []) (by kernel_rfl) (by kernel_rfl) ?_
    refine seqQ_ret ?_
    exact retQ_mk (by kernel_rfl) (by kernel_rfl) (by kernel_rfl)
  · replace h := ofF h3 h
    refine W_skip [0, 1] [] (fr' := [(0, aI a0), (1, aD (.slice (.pair (.slice tI) (.slice tI))) a1)]) (L' := []) (by kernel_rfl) (by kernel_rfl) ?_
    refine seqQ_norm ?_
    refine W_seq (by kernel_rfl) ?_
    refine W_seq (by kernel_rfl) ?_
    refine W_run 5 [] [0, 1, 31] [] (fr' := [(0, aI a0), (1, aD (.slice (.pair (.slice tI) (.slice tI))) a1), (31, aB (decide ((w64 (a0 + (List.length a1 : Int))) > (5 : Int))))]) (L' := []) (obs := []) (by kernel_rfl) (by kernel_rfl) (by kernel_rfl) allP0 ?_
    refine seqQ_norm ?_
    refine W_cond (o := .tmp 31) (b := decide ((w64 (a0 + (List.length a1 : Int))) > (5 : Int))) (by kernel_rfl) (by kernel_rfl) (fun h4 => ?_) (fun h4 => ?_)
    · replace h := ofT h4 h
      refine W_seq (by kernel_rfl) ?_
      refine W_run 3 [] [4, 5, 6] [] (fr' := [(4, .one (.nilS)), (5, aI (0 : Int)), (6, aI (1 : Int))]) (L' := []) (obs := []) (by kernel_rfl) (by kernel_rfl) (by kernel_rfl) allP0 ?_
      refine seqQ_norm ?_
      obtain rfl := Option.some.inj h
      refine W_cnv 4 (.slice tI) (by kernel_rfl) ?_
      refine W_ret [4, 5, 6] [] (fr' := [(4, aD (.slice tI) []), (5, aI (0 : Int)), (6, aI (1 : Int))]) (L' := []) (by kernel_rfl) (by kernel_rfl) ?_
      refine seqQ_ret ?_
      exact retQ_mk (by kernel_rfl) (by kernel_rfl) (by kernel_rfl)
    · replace h := ofF h4 h
      refine W_skip [0, 1] [] (fr' := [(0, aI a0), (1, aD (.slice (.pair (.slice tI) (.slice tI))) a1)]) (L' := []) (by kernel_rfl) (by kernel_rfl) ?_
      refine seqQ_norm ?_
      refine W_seq (by kernel_rfl) ?_
      refine W_run 1 [] [0, 1, 8] [] (fr' := [(0, aI a0), (1, aD (.slice (.pair (.slice tI) (.slice tI))) a1), (8, .one (.fn 65 []))]) (L' := []) (obs := []) (by kernel_rfl) (by kernel_rfl) (by kernel_rfl) allP0 ?_
      refine seqQ_norm ?_
      refine W_seq (by kernel_rfl) ?_
      refine W_run 1 [] [0, 1, 8, 9] [] (fr' := [(0, aI a0), (1, aD (.slice (.pair (.slice tI) (.slice tI))) a1), (8, .one (.fn 65 [])), (9, .one (.nilS))]) (L' := []) (obs := []) (by kernel_rfl) (by kernel_rfl) (by kernel_rfl) allP0 ?_
      refine seqQ_norm ?_
      refine W_seq (by kernel_rfl) ?_
      refine W_run 1 [] [0, 1, 8, 9, 10] [] (fr' := [(0, aI a0), (1, aD (.slice (.pair (.slice tI) (.slice tI))) a1), (8, .one (.fn 65 [])), (9, .one (.nilS)), (10, aI (0 : Int))]) (L' := []) (obs := []) (by kernel_rfl) (by kernel_rfl) (by kernel_rfl) allP0 ?_
      refine seqQ_norm ?_
      refine W_seq (by kernel_rfl) ?_
      refine W_seq (by kernel_rfl) ?_
      refine W_run 2 [] [0, 1, 8, 9, 10, 32, 33] [] (fr' := [(0, aI a0), (1, aD (.slice (.pair (.slice tI) (.slice tI))) a1), (8, .one (.fn 65 [])), (9, .one (.nilS)), (10, aI (0 : Int)), (32, aI a0), (33, aI (0 : Int))]) (L' := []) (obs := []) (by kernel_rfl) (by kernel_rfl) (by kernel_rfl) allP0 ?_
      refine seqQ_norm ?_
      refine W_block (id := 0) (by kernel_rfl) ?_
      obtain ⟨v616, h617, h⟩ := bind_of h
      obtain ⟨h618, h619⟩ := forI_iter h617
      refine W_mine 9 90 tI (by kernel_rfl) ?_
      refine W_weaken [0, 1, 8, 9, 10, 32, 33] [90] (fr' := ((hard_Weights_s65 a0 a1) ((0 : Int), ((0 : Int), []))).1) (L' := ((hard_Weights_s65 a0 a1) ((0 : Int), ((0 : Int), []))).2) (by kernel_rfl) ?_
      refine W_cutK (W_loop (S := (hard_Weights_s65 a0 a1)) (J := (exQ (.exit 0) (hard_Weights_s66 a0 a1))) (by kernel_rfl) ?_ h618 _ v616 h619) ?_
      · rintro ⟨i410, x411⟩ s h
        refine W_seq (by kernel_rfl) ?_
        refine W_run 1 [] [0, 1, 8, 9, 10, 32, 33, 34] [90] (fr' := [(0, aI a0), (1, aD (.slice (.pair (.slice tI) (.slice tI))) a1), (8, .one (.fn 65 [])), (9, .one (.slc 90)), (10, aI x411.1), (32, aI a0), (33, aI i410), (34, aB (decide (i410 < a0)))]) (L' := [(90, .seq tI x411.2)]) (obs := []) (by kernel_rfl) (by kernel_rfl) (by kernel_rfl) allP0 ?_
        refine seqQ_norm ?_
        refine W_seq (by kernel_rfl) ?_
        refine W_cond (o := .tmp 34) (b := decide (i410 < a0)) (by kernel_rfl) (by kernel_rfl) (fun h413 => ?_) (fun h413 => ?_)
        · replace h := stepI_true h413 h
          obtain ⟨_, h, rfl⟩ := h
          refine W_skip [0, 1, 8, 9, 10, 32, 33] [90] (fr' := [(0, aI a0), (1, aD (.slice (.pair (.slice tI) (.slice tI))) a1), (8, .one (.fn 65 [])), (9, .one (.slc 90)), (10, aI x411.1), (32, aI a0), (33, aI i410)]) (L' := [(90, .seq tI x411.2)]) (by kernel_rfl) (by kernel_rfl) ?_
          refine seqQ_norm ?_
          refine W_seq (by kernel_rfl) ?_
          refine W_block (id := 1) (by kernel_rfl) ?_
          refine W_seq (by kernel_rfl) ?_
          refine W_run 2 [] [0, 1, 8, 9, 10, 11, 32, 33] [90] (fr' := [(0, aI a0), (1, aD (.slice (.pair (.slice tI) (.slice tI))) a1), (8, .one (.fn 65 [])), (9, .one (.slc 90)), (10, aI x411.1), (11, aI i410), (32, aI a0), (33, aI i410)]) (L' := [(90, .seq tI x411.2)]) (obs := []) (by kernel_rfl) (by kernel_rfl) (by kernel_rfl) allP0 ?_
          refine seqQ_norm ?_
          refine W_seq (by kernel_rfl) ?_
          refine W_region (by kernel_rfl) ?_
          refine WO_run (j := 2) (k := 2) (orcs := []) (kF := [0, 1, 8, 9, 10, 11, 32, 33, 36, 37]) (kL := [90]) (fr' := [(0, aI a0), (1, aD (.slice (.pair (.slice tI) (.slice tI))) a1), (8, .one (.fn 65 [])), (9, .one (.slc 90)), (10, aI x411.1), (11, aI i410), (32, aI a0), (33, aI i410), (36, .one (.fn 65 [])), (37, aI i410)]) (L' := [(90, .seq tI x411.2)]) (obs := []) rfl (by kernel_rfl) allP0 ?_
          obtain ⟨r414, h415, h⟩ := bind_of h
          refine WO_call0 (us := [none]) (d := 38) (p := True) (j := 3) rfl ⟨by kernel_rfl, by kernel_rfl, by kernel_rfl⟩ trivial (hard_Weights_1_ok h415) (by kernel_rfl) ?_
          refine WO_run (j := 5) (k := 2) (orcs := []) (kF := [0, 1, 8, 9, 10, 11, 32, 33, 38, 39, 40]) (kL := [90]) (fr' := [(0, aI a0), (1, aD (.slice (.pair (.slice tI) (.slice tI))) a1), (8, .one (.fn 65 [])), (9, .one (.slc 90)), (10, aI x411.1), (11, aI i410), (32, aI a0), (33, aI i410), (38, aI r414), (39, .one (.fn 65 [])), (40, aI i410)]) (L' := [(90, .seq tI x411.2)]) (obs := []) rfl (by kernel_rfl) allP0 ?_
          obtain ⟨r416, h417, h⟩ := bind_of h
          refine WO_call0 (us := [none]) (d := 41) (p := True) (j := 6) rfl ⟨by kernel_rfl, by kernel_rfl, by kernel_rfl⟩ trivial (hard_Weights_1_ok h417) (by kernel_rfl) ?_
          refine WO_run (j := 8) (k := 2) (orcs := []) (kF := [0, 1, 8, 9, 10, 11, 12, 13, 32, 33]) (kL := [90]) (fr' := [(0, aI a0), (1, aD (.slice (.pair (.slice tI) (.slice tI))) a1), (8, .one (.fn 65 [])), (9, .one (.slc 90)), (10, aI x411.1), (11, aI i410), (12, aI r414), (13, aI r416), (32, aI a0), (33, aI i410)]) (L' := [(90, .seq tI x411.2)]) (obs := []) rfl (by kernel_rfl) allP0 ?_
          refine WO_fin [0, 1, 8, 9, 10, 11, 12, 13, 32, 33] [90] (fr' := [(0, aI a0), (1, aD (.slice (.pair (.slice tI) (.slice tI))) a1), (8, .one (.fn 65 [])), (9, .one (.slc 90)), (10, aI x411.1), (11, aI i410), (12, aI r414), (13, aI r416), (32, aI a0), (33, aI i410)]) (L' := [(90, .seq tI x411.2)]) (by kernel_rfl) (by kernel_rfl) ?_
          refine seqQ_norm ?_
          refine W_seq (by kernel_rfl) ?_
          refine W_seq (by kernel_rfl) ?_
          refine W_run 3 [] [0, 1, 8, 9, 10, 11, 12, 13, 32, 33, 42, 43, 44] [90] (fr' := [(0, aI a0), (1, aD (.slice (.pair (.slice tI) (.slice tI))) a1), (8, .one (.fn 65 [])), (9, .one (.slc 90)), (10, aI x411.1), (11, aI i410), (12, aI r414), (13, aI r416), (32, aI a0), (33, aI i410), (42, aD (.slice (.pair (.slice tI) (.slice tI))) a1), (43, aI (List.length a1 : Int)), (44, aI (0 : Int))]) (L' := [(90, .seq tI x411.2)]) (obs := []) (by kernel_rfl) (by kernel_rfl) (by kernel_rfl) allP0 ?_
          refine seqQ_norm ?_
          refine W_block (id := 2) (by kernel_rfl) ?_
          obtain ⟨v607, h608, h⟩ := bind_of h
          refine W_len (t := 42) (u := (.pair (.slice tI) (.slice tI))) (xs := a1) (by kernel_rfl) (fun h611 => ?_)
          obtain ⟨h609, h610⟩ := forL_iter h611 h608
          refine W_weaken [0, 1, 8, 9, 10, 11, 12, 13, 32, 33, 42, 43, 44] [90] (fr' := ((hard_Weights_s62 a0 a1 i410 x411) ((0 : Int), (r414, r416))).1) (L' := ((hard_Weights_s62 a0 a1 i410 x411) ((0 : Int), (r414, r416))).2) (by kernel_rfl) ?_
          refine W_cutK (W_loop (S := (hard_Weights_s62 a0 a1 i410 x411)) (J := (exQ (.exit 2) (hard_Weights_s63 a0 a1 i410 x411))) (by kernel_rfl) ?_ h609 _ v607 h610) ?_
          · rintro ⟨i542, x543⟩ s h
            refine W_seq (by kernel_rfl) ?_
            refine W_run 1 [] [0, 1, 8, 9, 10, 11, 12, 13, 32, 33, 42, 43, 44, 45] [90] (fr' := [(0, aI a0), (1, aD (.slice (.pair (.slice tI) (.slice tI))) a1), (8, .one (.fn 65 [])), (9, .one (.slc 90)), (10, aI x411.1), (11, aI i410), (12, aI x543.1), (13, aI x543.2), (32, aI a0), (33, aI i410), (42, aD (.slice (.pair (.slice tI) (.slice tI))) a1), (43, aI (List.length a1 : Int)), (44, aI i542), (45, aB (decide (i542 < (List.length a1 : Int))))]) (L' := [(90, .seq tI x411.2)]) (obs := []) (by kernel_rfl) (by kernel_rfl) (by kernel_rfl) allP0 ?_
            refine seqQ_norm ?_
            refine W_seq (by kernel_rfl) ?_
            refine W_cond (o := .tmp 45) (b := decide (i542 < (List.length a1 : Int))) (by kernel_rfl) (by kernel_rfl) (fun h547 => ?_) (fun h547 => ?_)
            · replace h := stepL_true h547 h
              obtain ⟨v545, _, h546, h, rfl⟩ := h
              refine W_skip [0, 1, 8, 9, 10, 11, 12, 13, 32, 33, 42, 43, 44] [90] (fr' := [(0, aI a0), (1, aD (.slice (.pair (.slice tI) (.slice tI))) a1), (8, .one (.fn 65 [])), (9, .one (.slc 90)), (10, aI x411.1), (11, aI i410), (12, aI x543.1), (13, aI x543.2), (32, aI a0), (33, aI i410), (42, aD (.slice (.pair (.slice tI) (.slice tI))) a1), (43, aI (List.length a1 : Int)), (44, aI i542)]) (L' := [(90, .seq tI x411.2)]) (by kernel_rfl) (by kernel_rfl) ?_
              refine seqQ_norm ?_
              refine W_seq (by kernel_rfl) ?_
              refine W_block (id := 3) (by kernel_rfl) ?_
              refine W_seq (by kernel_rfl) ?_
              refine W_run 6 [(3, .val (.dat (.pair (.slice tI) (.slice tI)) v545)), (7, .typed)] [0, 1, 8, 9, 10, 11, 12, 13, 14, 15, 32, 33, 42, 43, 44] [90, 15] (fr' := [(0, aI a0), (1, aD (.slice (.pair (.slice tI) (.slice tI))) a1), (8, .one (.fn 65 [])), (9, .one (.slc 90)), (10, aI x411.1), (11, aI i410), (12, aI x543.1), (13, aI x543.2), (14, aI i542), (15, .one (.ptr 15 0)), (32, aI a0), (33, aI i410), (42, aD (.slice (.pair (.slice tI) (.slice tI))) a1), (43, aI (List.length a1 : Int)), (44, aI i542)]) (L' := [(90, .seq tI x411.2), (15, .one (.pair (.slice tI) (.slice tI)) v545)]) (obs := [Idx a1 i542 v545, True]) (by kernel_rfl) (by kernel_rfl) (by kernel_rfl) (allP2 (Idx.of h546) (allP1 trivial)) ?_
              refine seqQ_norm ?_
              refine W_seq (by kernel_rfl) ?_
              refine W_seq (by kernel_rfl) ?_
              refine W_run 4 [] [0, 1, 8, 9, 10, 11, 12, 13, 14, 15, 32, 33, 42, 43, 44, 50, 51, 52] [90, 15] (fr' := [(0, aI a0), (1, aD (.slice (.pair (.slice tI) (.slice tI))) a1), (8, .one (.fn 65 [])), (9, .one (.slc 90)), (10, aI x411.1), (11, aI i410), (12, aI x543.1), (13, aI x543.2), (14, aI i542), (15, .one (.ptr 15 0)), (32, aI a0), (33, aI i410), (42, aD (.slice (.pair (.slice tI) (.slice tI))) a1), (43, aI (List.length a1 : Int)), (44, aI i542), (50, aD (.slice tI) v545.1), (51, aI (List.length v545.1 : Int)), (52, aI (0 : Int))]) (L' := [(90, .seq tI x411.2), (15, .one (.pair (.slice tI) (.slice tI)) v545)]) (obs := []) (by kernel_rfl) (by kernel_rfl) (by kernel_rfl) allP0 ?_
              refine seqQ_norm ?_
              refine W_block (id := 4) (by kernel_rfl) ?_
              obtain ⟨v572, h573, h⟩ := bind_of h
              refine W_len (t := 50) (u := tI) (xs := v545.1) (by kernel_rfl) (fun h576 => ?_)
              obtain ⟨h574, h575⟩ := forL_iter h576 h573
              refine W_weaken [0, 1, 8, 9, 10, 11, 12, 13, 14, 15, 32, 33, 42, 43, 44, 50, 51, 52] [90, 15] (fr' := ((hard_Weights_s56 a0 a1 i410 x411 i542 x543 v545) ((0 : Int), ())).1) (L' := ((hard_Weights_s56 a0 a1 i410 x411 i542 x543 v545) ((0 : Int), ())).2) (by kernel_rfl) ?_
              refine W_cutK (W_loop (S := (hard_Weights_s56 a0 a1 i410 x411 i542 x543 v545)) (J := (exQ (.exit 4) (hard_Weights_s57 a0 a1 i410 x411 i542 x543 v545))) (by kernel_rfl) ?_ h574 _ v572 h575) ?_
              · rintro ⟨i562, x563⟩ s h
                refine W_seq (by kernel_rfl) ?_
                refine W_run 1 [] [0, 1, 8, 9, 10, 11, 12, 13, 14, 15, 32, 33, 42, 43, 44, 50, 51, 52, 53] [90, 15] (fr' := [(0, aI a0), (1, aD (.slice (.pair (.slice tI) (.slice tI))) a1), (8, .one (.fn 65 [])), (9, .one (.slc 90)), (10, aI x411.1), (11, aI i410), (12, aI x543.1), (13, aI x543.2), (14, aI i542), (15, .one (.ptr 15 0)), (32, aI a0), (33, aI i410), (42, aD (.slice (.pair (.slice tI) (.slice tI))) a1), (43, aI (List.length a1 : Int)), (44, aI i542), (50, aD (.slice tI) v545.1), (51, aI (List.length v545.1 : Int)), (52, aI i562), (53, aB (decide (i562 < (List.length v545.1 : Int))))]) (L' := [(90, .seq tI x411.2), (15, .one (.pair (.slice tI) (.slice tI)) v545)]) (obs := []) (by kernel_rfl) (by kernel_rfl) (by kernel_rfl) allP0 ?_
                refine seqQ_norm ?_
                refine W_seq (by kernel_rfl) ?_
                refine W_cond (o := .tmp 53) (b := decide (i562 < (List.length v545.1 : Int))) (by kernel_rfl) (by kernel_rfl) (fun h567 => ?_) (fun h567 => ?_)
                · replace h := stepL_true h567 h
                  obtain ⟨v565, _, h566, h, rfl⟩ := h
                  refine W_skip [0, 1, 8, 9, 10, 11, 12, 13, 14, 15, 32, 33, 42, 43, 44, 50, 51, 52] [90, 15] (fr' := [(0, aI a0), (1, aD (.slice (.pair (.slice tI) (.slice tI))) a1), (8, .one (.fn 65 [])), (9, .one (.slc 90)), (10, aI x411.1), (11, aI i410), (12, aI x543.1), (13, aI x543.2), (14, aI i542), (15, .one (.ptr 15 0)), (32, aI a0), (33, aI i410), (42, aD (.slice (.pair (.slice tI) (.slice tI))) a1), (43, aI (List.length a1 : Int)), (44, aI i542), (50, aD (.slice tI) v545.1), (51, aI (List.length v545.1 : Int)), (52, aI i562)]) (L' := [(90, .seq tI x411.2), (15, .one (.pair (.slice tI) (.slice tI)) v545)]) (by kernel_rfl) (by kernel_rfl) ?_
                  refine seqQ_norm ?_
                  refine W_seq (by kernel_rfl) ?_
                  refine W_block (id := 5) (by kernel_rfl) ?_
                  refine W_seq (by kernel_rfl) ?_
                  refine W_run 3 [(1, .val (.dat tI v565))] [0, 1, 8, 9, 10, 11, 12, 13, 14, 15, 17, 32, 33, 42, 43, 44, 50, 51, 52] [90, 15] (fr' := [(0, aI a0), (1, aD (.slice (.pair (.slice tI) (.slice tI))) a1), (8, .one (.fn 65 [])), (9, .one (.slc 90)), (10, aI x411.1), (11, aI i410), (12, aI x543.1), (13, aI x543.2), (14, aI i542), (15, .one (.ptr 15 0)), (17, aI v565), (32, aI a0), (33, aI i410), (42, aD (.slice (.pair (.slice tI) (.slice tI))) a1), (43, aI (List.length a1 : Int)), (44, aI i542), (50, aD (.slice tI) v545.1), (51, aI (List.length v545.1 : Int)), (52, aI i562)]) (L' := [(90, .seq tI x411.2), (15, .one (.pair (.slice tI) (.slice tI)) v545)]) (obs := [Idx v545.1 i562 v565]) (by kernel_rfl) (by kernel_rfl) (by kernel_rfl) (allP1 (Idx.of h566)) ?_
                  refine seqQ_norm ?_
                  refine W_seq (by kernel_rfl) ?_
                  refine W_run 3 [] [0, 1, 8, 9, 10, 11, 12, 13, 14, 15, 32, 33, 42, 43, 44, 50, 51, 52, 58] [90, 15] (fr' := [(0, aI a0), (1, aD (.slice (.pair (.slice tI) (.slice tI))) a1), (8, .one (.fn 65 [])), (9, .one (.slc 90)), (10, aI x411.1), (11, aI i410), (12, aI x543.1), (13, aI x543.2), (14, aI i542), (15, .one (.ptr 15 0)), (32, aI a0), (33, aI i410), (42, aD (.slice (.pair (.slice tI) (.slice tI))) a1), (43, aI (List.length a1 : Int)), (44, aI i542), (50, aD (.slice tI) v545.1), (51, aI (List.length v545.1 : Int)), (52, aI i562), (58, aB (v565 == i410))]) (L' := [(90, .seq tI x411.2), (15, .one (.pair (.slice tI) (.slice tI)) v545)]) (obs := []) (by kernel_rfl) (by kernel_rfl) (by kernel_rfl) allP0 ?_
                  refine seqQ_norm ?_
                  refine W_cond (o := .tmp 58) (b := v565 == i410) (by kernel_rfl) (by kernel_rfl) (fun h568 => ?_) (fun h568 => ?_)
                  · replace h := ofT h568 h
                    refine W_seq (by kernel_rfl) ?_
                    refine W_region (by kernel_rfl) ?_
                    refine WO_run (j := 5) (k := 5) (orcs := []) (kF := [0, 1, 8, 9, 10, 11, 12, 13, 14, 15, 32, 33, 42, 43, 44, 59, 60, 63]) (kL := [15, 90]) (fr' := [(0, aI a0), (1, aD (.slice (.pair (.slice tI) (.slice tI))) a1), (8, .one (.fn 65 [])), (9, .one (.slc 90)), (10, aI x411.1), (11, aI i410), (12, aI x543.1), (13, aI x543.2), (14, aI i542), (15, .one (.ptr 15 0)), (32, aI a0), (33, aI i410), (42, aD (.slice (.pair (.slice tI) (.slice tI))) a1), (43, aI (List.length a1 : Int)), (44, aI i542), (59, aI x543.1), (60, .one (.fn 65 [])), (63, aI (w64 (a0 + i542)))]) (L' := [(15, .one (.pair (.slice tI) (.slice tI)) v545), (90, .seq tI x411.2)]) (obs := []) rfl (by kernel_rfl) allP0 ?_
                    obtain ⟨r569, h570, h⟩ := bind_of h
                    refine WO_call0 (us := [none]) (d := 64) (p := True) (j := 6) rfl ⟨by kernel_rfl, by kernel_rfl, by kernel_rfl⟩ trivial (hard_Weights_1_ok h570) (by kernel_rfl) ?_
                    refine WO_run (j := 8) (k := 2) (orcs := []) (kF := [0, 1, 8, 9, 10, 11, 12, 13, 14, 15, 32, 33, 42, 43, 44]) (kL := [15, 90]) (fr' := [(0, aI a0), (1, aD (.slice (.pair (.slice tI) (.slice tI))) a1), (8, .one (.fn 65 [])), (9, .one (.slc 90)), (10, aI x411.1), (11, aI i410), (12, aI (w64 (x543.1 + r569))), (13, aI x543.2), (14, aI i542), (15, .one (.ptr 15 0)), (32, aI a0), (33, aI i410), (42, aD (.slice (.pair (.slice tI) (.slice tI))) a1), (43, aI (List.length a1 : Int)), (44, aI i542)]) (L' := [(15, .one (.pair (.slice tI) (.slice tI)) v545), (90, .seq tI x411.2)]) (obs := []) rfl (by kernel_rfl) allP0 ?_
                    refine WO_fin [0, 1, 8, 9, 10, 11, 12, 13, 14, 15, 32, 33, 42, 43, 44] [90, 15] (fr' := [(0, aI a0), (1, aD (.slice (.pair (.slice tI) (.slice tI))) a1), (8, .one (.fn 65 [])), (9, .one (.slc 90)), (10, aI x411.1), (11, aI i410), (12, aI (w64 (x543.1 + r569))), (13, aI x543.2), (14, aI i542), (15, .one (.ptr 15 0)), (32, aI a0), (33, aI i410), (42, aD (.slice (.pair (.slice tI) (.slice tI))) a1), (43, aI (List.length a1 : Int)), (44, aI i542)]) (L' := [(90, .seq tI x411.2), (15, .one (.pair (.slice tI) (.slice tI)) v545)]) (by kernel_rfl) (by kernel_rfl) ?_
                    refine seqQ_norm ?_
                    obtain rfl := Option.some.inj h
                    refine W_exit (id := 4) [0, 1, 8, 9, 10, 11, 12, 13, 14, 15, 32, 33, 42, 43, 44] [90, 15] (fr' := [(0, aI a0), (1, aD (.slice (.pair (.slice tI) (.slice tI))) a1), (8, .one (.fn 65 [])), (9, .one (.slc 90)), (10, aI x411.1), (11, aI i410), (12, aI (w64 (x543.1 + r569))), (13, aI x543.2), (14, aI i542), (15, .one (.ptr 15 0)), (32, aI a0), (33, aI i410), (42, aD (.slice (.pair (.slice tI) (.slice tI))) a1), (43, aI (List.length a1 : Int)), (44, aI i542)]) (L' := [(90, .seq tI x411.2), (15, .one (.pair (.slice tI) (.slice tI)) v545)]) (by kernel_rfl) (by kernel_rfl) ?_
                    refine blockQ_miss rfl ?_
                    refine seqQ_exit ?_
                    refine round_exit ?_
                    exact exQ_mk (by kernel_rfl) (by kernel_rfl)
                  · replace h := ofF h568 h
                    refine W_skip [0, 1, 8, 9, 10, 11, 12, 13, 14, 15, 32, 33, 42, 43, 44, 50, 51, 52] [90, 15] (fr' := [(0, aI a0), (1, aD (.slice (.pair (.slice tI) (.slice tI))) a1), (8, .one (.fn 65 [])), (9, .one (.slc 90)), (10, aI x411.1), (11, aI i410), (12, aI x543.1), (13, aI x543.2), (14, aI i542), (15, .one (.ptr 15 0)), (32, aI a0), (33, aI i410), (42, aD (.slice (.pair (.slice tI) (.slice tI))) a1), (43, aI (List.length a1 : Int)), (44, aI i542), (50, aD (.slice tI) v545.1), (51, aI (List.length v545.1 : Int)), (52, aI i562)]) (L' := [(90, .seq tI x411.2), (15, .one (.pair (.slice tI) (.slice tI)) v545)]) (by kernel_rfl) (by kernel_rfl) ?_
                    refine blockQ_norm ?_
                    refine seqQ_norm ?_
                    obtain rfl := Option.some.inj h
                    refine W_run 2 [] [0, 1, 8, 9, 10, 11, 12, 13, 14, 15, 32, 33, 42, 43, 44, 50, 51, 52] [90, 15] (fr' := [(0, aI a0), (1, aD (.slice (.pair (.slice tI) (.slice tI))) a1), (8, .one (.fn 65 [])), (9, .one (.slc 90)), (10, aI x411.1), (11, aI i410), (12, aI x543.1), (13, aI x543.2), (14, aI i542), (15, .one (.ptr 15 0)), (32, aI a0), (33, aI i410), (42, aD (.slice (.pair (.slice tI) (.slice tI))) a1), (43, aI (List.length a1 : Int)), (44, aI i542), (50, aD (.slice tI) v545.1), (51, aI (List.length v545.1 : Int)), (52, aI (w64 (i562 + (1 : Int))))]) (L' := [(90, .seq tI x411.2), (15, .one (.pair (.slice tI) (.slice tI)) v545)]) (obs := []) (by kernel_rfl) (by kernel_rfl) (by kernel_rfl) allP0 ?_
                    exact round_next' (by kernel_rfl) (by kernel_rfl)
                · obtain rfl := stepL_false h567 h
                  refine W_exit (id := 4) [0, 1, 8, 9, 10, 11, 12, 13, 14, 15, 32, 33, 42, 43, 44] [90, 15] (fr' := [(0, aI a0), (1, aD (.slice (.pair (.slice tI) (.slice tI))) a1), (8, .one (.fn 65 [])), (9, .one (.slc 90)), (10, aI x411.1), (11, aI i410), (12, aI x543.1), (13, aI x543.2), (14, aI i542), (15, .one (.ptr 15 0)), (32, aI a0), (33, aI i410), (42, aD (.slice (.pair (.slice tI) (.slice tI))) a1), (43, aI (List.length a1 : Int)), (44, aI i542)]) (L' := [(90, .seq tI x411.2), (15, .one (.pair (.slice tI) (.slice tI)) v545)]) (by kernel_rfl) (by kernel_rfl) ?_
                  refine seqQ_exit ?_
                  refine round_exit ?_
                  exact exQ_mk (by kernel_rfl) (by kernel_rfl)
              · intro e fr L hJ
                obtain ⟨rfl, rfl, rfl⟩ := hJ
                refine LT_keep [0, 1, 8, 9, 10, 11, 12, 13, 14, 15, 32, 33, 42, 43, 44] [90, 15] (fr' := [(0, aI a0), (1, aD (.slice (.pair (.slice tI) (.slice tI))) a1), (8, .one (.fn 65 [])), (9, .one (.slc 90)), (10, aI x411.1), (11, aI i410), (12, aI v572), (13, aI x543.2), (14, aI i542), (15, .one (.ptr 15 0)), (32, aI a0), (33, aI i410), (42, aD (.slice (.pair (.slice tI) (.slice tI))) a1), (43, aI (List.length a1 : Int)), (44, aI i542)]) (L' := [(90, .seq tI x411.2), (15, .one (.pair (.slice tI) (.slice tI)) v545)]) (by kernel_rfl) ?_
                refine blockQ_hit ?_
                refine seqQ_norm ?_
                refine W_seq (by kernel_rfl) ?_
                refine W_run 4 [] [0, 1, 8, 9, 10, 11, 12, 13, 14, 32, 33, 42, 43, 44, 68, 69, 70] [90] (fr' := [(0, aI a0), (1, aD (.slice (.pair (.slice tI) (.slice tI))) a1), (8, .one (.fn 65 [])), (9, .one (.slc 90)), (10, aI x411.1), (11, aI i410), (12, aI v572), (13, aI x543.2), (14, aI i542), (32, aI a0), (33, aI i410), (42, aD (.slice (.pair (.slice tI) (.slice tI))) a1), (43, aI (List.length a1 : Int)), (44, aI i542), (68, aD (.slice tI) v545.2), (69, aI (List.length v545.2 : Int)), (70, aI (0 : Int))]) (L' := [(90, .seq tI x411.2)]) (obs := []) (by kernel_rfl) (by kernel_rfl) (by kernel_rfl) allP0 ?_
                refine seqQ_norm ?_
                refine W_block (id := 6) (by kernel_rfl) ?_
                obtain ⟨v601, h602, h⟩ := bind_of h
                refine W_len (t := 68) (u := tI) (xs := v545.2) (by kernel_rfl) (fun h605 => ?_)
                obtain ⟨h603, h604⟩ := forL_iter h605 h602
                refine W_weaken [0, 1, 8, 9, 10, 11, 12, 13, 14, 32, 33, 42, 43, 44, 68, 69, 70] [90] (fr' := ((hard_Weights_s59 a0 a1 i410 x411 i542 x543 v545 v572) ((0 : Int), ())).1) (L' := ((hard_Weights_s59 a0 a1 i410 x411 i542 x543 v545 v572) ((0 : Int), ())).2) (by kernel_rfl) ?_
                refine W_cutK (W_loop (S := (hard_Weights_s59 a0 a1 i410 x411 i542 x543 v545 v572)) (J := (exQ (.exit 6) (hard_Weights_s60 a0 a1 i410 x411 i542 v572))) (by kernel_rfl) ?_ h603 _ v601 h604) ?_
                · rintro ⟨i591, x592⟩ s h
                  refine W_seq (by kernel_rfl) ?_
                  refine W_run 1 [] [0, 1, 8, 9, 10, 11, 12, 13, 14, 32, 33, 42, 43, 44, 68, 69, 70, 71] [90] (fr' := [(0, aI a0), (1, aD (.slice (.pair (.slice tI) (.slice tI))) a1), (8, .one (.fn 65 [])), (9, .one (.slc 90)), (10, aI x411.1), (11, aI i410), (12, aI v572), (13, aI x543.2), (14, aI i542), (32, aI a0), (33, aI i410), (42, aD (.slice (.pair (.slice tI) (.slice tI))) a1), (43, aI (List.length a1 : Int)), (44, aI i542), (68, aD (.slice tI) v545.2), (69, aI (List.length v545.2 : Int)), (70, aI i591), (71, aB (decide (i591 < (List.length v545.2 : Int))))]) (L' := [(90, .seq tI x411.2)]) (obs := []) (by kernel_rfl) (by kernel_rfl) (by kernel_rfl) allP0 ?_
                  refine seqQ_norm ?_
                  refine W_seq (by kernel_rfl) ?_
                  refine W_cond (o := .tmp 71) (b := decide (i591 < (List.length v545.2 : Int))) (by kernel_rfl) (by kernel_rfl) (fun h596 => ?_) (fun h596 => ?_)
                  · replace h := stepL_true h596 h
                    obtain ⟨v594, _, h595, h, rfl⟩ := h
                    refine W_skip [0, 1, 8, 9, 10, 11, 12, 13, 14, 32, 33, 42, 43, 44, 68, 69, 70] [90] (fr' := [(0, aI a0), (1, aD (.slice (.pair (.slice tI) (.slice tI))) a1), (8, .one (.fn 65 [])), (9, .one (.slc 90)), (10, aI x411.1), (11, aI i410), (12, aI v572), (13, aI x543.2), (14, aI i542), (32, aI a0), (33, aI i410), (42, aD (.slice (.pair (.slice tI) (.slice tI))) a1), (43, aI (List.length a1 : Int)), (44, aI i542), (68, aD (.slice tI) v545.2), (69, aI (List.length v545.2 : Int)), (70, aI i591)]) (L' := [(90, .seq tI x411.2)]) (by kernel_rfl) (by kernel_rfl) ?_
                    refine seqQ_norm ?_
                    refine W_seq (by kernel_rfl) ?_
                    refine W_block (id := 7) (by kernel_rfl) ?_
                    refine W_seq (by kernel_rfl) ?_
                    refine W_run 3 [(1, .val (.dat tI v594))] [0, 1, 8, 9, 10, 11, 12, 13, 14, 19, 32, 33, 42, 43, 44, 68, 69, 70] [90] (fr' := [(0, aI a0), (1, aD (.slice (.pair (.slice tI) (.slice tI))) a1), (8, .one (.fn 65 [])), (9, .one (.slc 90)), (10, aI x411.1), (11, aI i410), (12, aI v572), (13, aI x543.2), (14, aI i542), (19, aI v594), (32, aI a0), (33, aI i410), (42, aD (.slice (.pair (.slice tI) (.slice tI))) a1), (43, aI (List.length a1 : Int)), (44, aI i542), (68, aD (.slice tI) v545.2), (69, aI (List.length v545.2 : Int)), (70, aI i591)]) (L' := [(90, .seq tI x411.2)]) (obs := [Idx v545.2 i591 v594]) (by kernel_rfl) (by kernel_rfl) (by kernel_rfl) (allP1 (Idx.of h595)) ?_
                    refine seqQ_norm ?_
                    refine W_seq (by kernel_rfl) ?_
                    refine W_run 3 [] [0, 1, 8, 9, 10, 11, 12, 13, 14, 32, 33, 42, 43, 44, 68, 69, 70, 76] [90] (fr' := [(0, aI a0), (1, aD (.slice (.pair (.slice tI) (.slice tI))) a1), (8, .one (.fn 65 [])), (9, .one (.slc 90)), (10, aI x411.1), (11, aI i410), (12, aI v572), (13, aI x543.2), (14, aI i542), (32, aI a0), (33, aI i410), (42, aD (.slice (.pair (.slice tI) (.slice tI))) a1), (43, aI (List.length a1 : Int)), (44, aI i542), (68, aD (.slice tI) v545.2), (69, aI (List.length v545.2 : Int)), (70, aI i591), (76, aB (v594 == i410))]) (L' := [(90, .seq tI x411.2)]) (obs := []) (by kernel_rfl) (by kernel_rfl) (by kernel_rfl) allP0 ?_
                    refine seqQ_norm ?_
                    refine W_cond (o := .tmp 76) (b := v594 == i410) (by kernel_rfl) (by kernel_rfl) (fun h597 => ?_) (fun h597 => ?_)
                    · replace h := ofT h597 h
                      refine W_seq (by kernel_rfl) ?_
                      refine W_region (by kernel_rfl) ?_
                      refine WO_run (j := 5) (k := 5) (orcs := []) (kF := [0, 1, 8, 9, 10, 11, 12, 13, 32, 33, 42, 43, 44, 77, 78, 81]) (kL := [90]) (fr' := [(0, aI a0), (1, aD (.slice (.pair (.slice tI) (.slice tI))) a1), (8, .one (.fn 65 [])), (9, .one (.slc 90)), (10, aI x411.1), (11, aI i410), (12, aI v572), (13, aI x543.2), (32, aI a0), (33, aI i410), (42, aD (.slice (.pair (.slice tI) (.slice tI))) a1), (43, aI (List.length a1 : Int)), (44, aI i542), (77, aI x543.2), (78, .one (.fn 65 [])), (81, aI (w64 (a0 + i542)))]) (L' := [(90, .seq tI x411.2)]) (obs := []) rfl (by kernel_rfl) allP0 ?_
                      obtain ⟨r598, h599, h⟩ := bind_of h
                      refine WO_call0 (us := [none]) (d := 82) (p := True) (j := 6) rfl ⟨by kernel_rfl, by kernel_rfl, by kernel_rfl⟩ trivial (hard_Weights_1_ok h599) (by kernel_rfl) ?_
                      refine WO_run (j := 8) (k := 2) (orcs := []) (kF := [0, 1, 8, 9, 10, 11, 12, 13, 32, 33, 42, 43, 44]) (kL := [90]) (fr' := [(0, aI a0), (1, aD (.slice (.pair (.slice tI) (.slice tI))) a1), (8, .one (.fn 65 [])), (9, .one (.slc 90)), (10, aI x411.1), (11, aI i410), (12, aI v572), (13, aI (w64 (x543.2 + r598))), (32, aI a0), (33, aI i410), (42, aD (.slice (.pair (.slice tI) (.slice tI))) a1), (43, aI (List.length a1 : Int)), (44, aI i542)]) (L' := [(90, .seq tI x411.2)]) (obs := []) rfl (by kernel_rfl) allP0 ?_
                      refine WO_fin [0, 1, 8, 9, 10, 11, 12, 13, 32, 33, 42, 43, 44] [90] (fr' := [(0, aI a0), (1, aD (.slice (.pair (.slice tI) (.slice tI))) a1), (8, .one (.fn 65 [])), (9, .one (.slc 90)), (10, aI x411.1), (11, aI i410), (12, aI v572), (13, aI (w64 (x543.2 + r598))), (32, aI a0), (33, aI i410), (42, aD (.slice (.pair (.slice tI) (.slice tI))) a1), (43, aI (List.length a1 : Int)), (44, aI i542)]) (L' := [(90, .seq tI x411.2)]) (by kernel_rfl) (by kernel_rfl) ?_
                      refine seqQ_norm ?_
                      obtain rfl := Option.some.inj h
                      refine W_exit (id := 6) [0, 1, 8, 9, 10, 11, 12, 13, 32, 33, 42, 43, 44] [90] (fr' := [(0, aI a0), (1, aD (.slice (.pair (.slice tI) (.slice tI))) a1), (8, .one (.fn 65 [])), (9, .one (.slc 90)), (10, aI x411.1), (11, aI i410), (12, aI v572), (13, aI (w64 (x543.2 + r598))), (32, aI a0), (33, aI i410), (42, aD (.slice (.pair (.slice tI) (.slice tI))) a1), (43, aI (List.length a1 : Int)), (44, aI i542)]) (L' := [(90, .seq tI x411.2)]) (by kernel_rfl) (by kernel_rfl) ?_
                      refine blockQ_miss rfl ?_
                      refine seqQ_exit ?_
                      refine round_exit ?_
                      exact exQ_mk (by kernel_rfl) (by kernel_rfl)
                    · replace h := ofF h597 h
                      refine W_skip [0, 1, 8, 9, 10, 11, 12, 13, 14, 32, 33, 42, 43, 44, 68, 69, 70] [90] (fr' := [(0, aI a0), (1, aD (.slice (.pair (.slice tI) (.slice tI))) a1), (8, .one (.fn 65 [])), (9, .one (.slc 90)), (10, aI x411.1), (11, aI i410), (12, aI v572), (13, aI x543.2), (14, aI i542), (32, aI a0), (33, aI i410), (42, aD (.slice (.pair (.slice tI) (.slice tI))) a1), (43, aI (List.length a1 : Int)), (44, aI i542), (68, aD (.slice tI) v545.2), (69, aI (List.length v545.2 : Int)), (70, aI i591)]) (L' := [(90, .seq tI x411.2)]) (by kernel_rfl) (by kernel_rfl) ?_
                      refine blockQ_norm ?_
                      refine seqQ_norm ?_
                      obtain rfl := Option.some.inj h
                      refine W_run 2 [] [0, 1, 8, 9, 10, 11, 12, 13, 14, 32, 33, 42, 43, 44, 68, 69, 70] [90] (fr' := [(0, aI a0), (1, aD (.slice (.pair (.slice tI) (.slice tI))) a1), (8, .one (.fn 65 [])), (9, .one (.slc 90)), (10, aI x411.1), (11, aI i410), (12, aI v572), (13, aI x543.2), (14, aI i542), (32, aI a0), (33, aI i410), (42, aD (.slice (.pair (.slice tI) (.slice tI))) a1), (43, aI (List.length a1 : Int)), (44, aI i542), (68, aD (.slice tI) v545.2), (69, aI (List.length v545.2 : Int)), (70, aI (w64 (i591 + (1 : Int))))]) (L' := [(90, .seq tI x411.2)]) (obs := []) (by kernel_rfl) (by kernel_rfl) (by kernel_rfl) allP0 ?_
                      exact round_next' (by kernel_rfl) (by kernel_rfl)
                  · obtain rfl := stepL_false h596 h
                    refine W_exit (id := 6) [0, 1, 8, 9, 10, 11, 12, 13, 32, 33, 42, 43, 44] [90] (fr' := [(0, aI a0), (1, aD (.slice (.pair (.slice tI) (.slice tI))) a1), (8, .one (.fn 65 [])), (9, .one (.slc 90)), (10, aI x411.1), (11, aI i410), (12, aI v572), (13, aI x543.2), (32, aI a0), (33, aI i410), (42, aD (.slice (.pair (.slice tI) (.slice tI))) a1), (43, aI (List.length a1 : Int)), (44, aI i542)]) (L' := [(90, .seq tI x411.2)]) (by kernel_rfl) (by kernel_rfl) ?_
                    refine seqQ_exit ?_
                    refine round_exit ?_
                    exact exQ_mk (by kernel_rfl) (by kernel_rfl)
                · intro e fr L hJ
                  obtain ⟨rfl, rfl, rfl⟩ := hJ
                  refine LT_keep [0, 1, 8, 9, 10, 11, 12, 13, 32, 33, 42, 43, 44] [90] (fr' := [(0, aI a0), (1, aD (.slice (.pair (.slice tI) (.slice tI))) a1), (8, .one (.fn 65 [])), (9, .one (.slc 90)), (10, aI x411.1), (11, aI i410), (12, aI v572), (13, aI v601), (32, aI a0), (33, aI i410), (42, aD (.slice (.pair (.slice tI) (.slice tI))) a1), (43, aI (List.length a1 : Int)), (44, aI i542)]) (L' := [(90, .seq tI x411.2)]) (by kernel_rfl) ?_
                  refine blockQ_hit ?_
                  refine blockQ_norm ?_
                  refine seqQ_norm ?_
                  obtain rfl := Option.some.inj h
                  refine W_run 2 [] [0, 1, 8, 9, 10, 11, 12, 13, 32, 33, 42, 43, 44] [90] (fr' := [(0, aI a0), (1, aD (.slice (.pair (.slice tI) (.slice tI))) a1), (8, .one (.fn 65 [])), (9, .one (.slc 90)), (10, aI x411.1), (11, aI i410), (12, aI v572), (13, aI v601), (32, aI a0), (33, aI i410), (42, aD (.slice (.pair (.slice tI) (.slice tI))) a1), (43, aI (List.length a1 : Int)), (44, aI (w64 (i542 + (1 : Int))))]) (L' := [(90, .seq tI x411.2)]) (obs := []) (by kernel_rfl) (by kernel_rfl) (by kernel_rfl) allP0 ?_
                  exact round_next' (by kernel_rfl) (by kernel_rfl)
            · obtain rfl := stepL_false h547 h
              refine W_exit (id := 2) [0, 1, 8, 9, 10, 11, 12, 13, 32, 33] [90] (fr' := [(0, aI a0), (1, aD (.slice (.pair (.slice tI) (.slice tI))) a1), (8, .one (.fn 65 [])), (9, .one (.slc 90)), (10, aI x411.1), (11, aI i410), (12, aI x543.1), (13, aI x543.2), (32, aI a0), (33, aI i410)]) (L' := [(90, .seq tI x411.2)]) (by kernel_rfl) (by kernel_rfl) ?_
              refine seqQ_exit ?_
              refine round_exit ?_
              exact exQ_mk (by kernel_rfl) (by kernel_rfl)
          · intro e fr L hJ
            obtain ⟨rfl, rfl, rfl⟩ := hJ
            refine LT_keep [0, 1, 8, 9, 10, 11, 12, 13, 32, 33] [90] (fr' := [(0, aI a0), (1, aD (.slice (.pair (.slice tI) (.slice tI))) a1), (8, .one (.fn 65 [])), (9, .one (.slc 90)), (10, aI x411.1), (11, aI i410), (12, aI v607.1), (13, aI v607.2), (32, aI a0), (33, aI i410)]) (L' := [(90, .seq tI x411.2)]) (by kernel_rfl) ?_
            refine blockQ_hit ?_
            refine seqQ_norm ?_
            refine W_seq (by kernel_rfl) ?_
            obtain ⟨_, h612, h⟩ := bind_of h
            replace h612 := ck_some h612
            refine W_run 6 [] [0, 1, 8, 9, 10, 11, 32, 33] [90] (fr' := [(0, aI a0), (1, aD (.slice (.pair (.slice tI) (.slice tI))) a1), (8, .one (.fn 65 [])), (9, .one (.slc 90)), (10, aI x411.1), (11, aI i410), (32, aI a0), (33, aI i410)]) (L' := [(90, .seq tI (x411.2 ++ [v607.1, v607.2]))]) (obs := [SmallLen (List.length x411.2 + List.length [v607.1, v607.2])]) (by kernel_rfl) (by kernel_rfl) (by kernel_rfl) (allP1 h612) ?_
            refine seqQ_norm ?_
            refine W_region (by kernel_rfl) ?_
            refine WO_run (j := 3) (k := 3) (orcs := []) (kF := [0, 1, 8, 9, 10, 32, 33, 91, 92, 93]) (kL := [90]) (fr' := [(0, aI a0), (1, aD (.slice (.pair (.slice tI) (.slice tI))) a1), (8, .one (.fn 65 [])), (9, .one (.slc 90)), (10, aI x411.1), (32, aI a0), (33, aI i410), (91, aI x411.1), (92, .one (.fn 65 [])), (93, aI i410)]) (L' := [(90, .seq tI (x411.2 ++ [v607.1, v607.2]))]) (obs := []) rfl (by kernel_rfl) allP0 ?_
            obtain ⟨r613, h614, h⟩ := bind_of h
            refine WO_call0 (us := [none]) (d := 94) (p := True) (j := 4) rfl ⟨by kernel_rfl, by kernel_rfl, by kernel_rfl⟩ trivial (hard_Weights_1_ok h614) (by kernel_rfl) ?_
            refine WO_run (j := 6) (k := 2) (orcs := []) (kF := [0, 1, 8, 9, 10, 32, 33]) (kL := [90]) (fr' := [(0, aI a0), (1, aD (.slice (.pair (.slice tI) (.slice tI))) a1), (8, .one (.fn 65 [])), (9, .one (.slc 90)), (10, aI (w64 (x411.1 + r613))), (32, aI a0), (33, aI i410)]) (L' := [(90, .seq tI (x411.2 ++ [v607.1, v607.2]))]) (obs := []) rfl (by kernel_rfl) allP0 ?_
            refine WO_fin [0, 1, 8, 9, 10, 32, 33] [90] (fr' := [(0, aI a0), (1, aD (.slice (.pair (.slice tI) (.slice tI))) a1), (8, .one (.fn 65 [])), (9, .one (.slc 90)), (10, aI (w64 (x411.1 + r613))), (32, aI a0), (33, aI i410)]) (L' := [(90, .seq tI (x411.2 ++ [v607.1, v607.2]))]) (by kernel_rfl) (by kernel_rfl) ?_
            refine blockQ_norm ?_
            refine seqQ_norm ?_
            obtain rfl := Option.some.inj h
            refine W_run 2 [] [0, 1, 8, 9, 10, 32, 33] [90] (fr' := [(0, aI a0), (1, aD (.slice (.pair (.slice tI) (.slice tI))) a1), (8, .one (.fn 65 [])), (9, .one (.slc 90)), (10, aI (w64 (x411.1 + r613))), (32, aI a0), (33, aI (w64 (i410 + (1 : Int))))]) (L' := [(90, .seq tI (x411.2 ++ [v607.1, v607.2]))]) (obs := []) (by kernel_rfl) (by kernel_rfl) (by kernel_rfl) allP0 ?_
            exact round_next' (by kernel_rfl) (by kernel_rfl)
        · obtain rfl := stepI_false h413 h
          refine W_exit (id := 0) [0, 1, 8, 9, 10] [90] (fr' := [(0, aI a0), (1, aD (.slice (.pair (.slice tI) (.slice tI))) a1), (8, .one (.fn 65 [])), (9, .one (.slc 90)), (10, aI x411.1)]) (L' := [(90, .seq tI x411.2)]) (by kernel_rfl) (by kernel_rfl) ?_
          refine seqQ_exit ?_
          refine round_exit ?_
          exact exQ_mk (by kernel_rfl) (by kernel_rfl)
      · intro e fr L hJ
        obtain ⟨rfl, rfl, rfl⟩ := hJ
        refine LT_keep [0, 1, 8, 9, 10] [90] (fr' := [(0, aI a0), (1, aD (.slice (.pair (.slice tI) (.slice tI))) a1), (8, .one (.fn 65 [])), (9, .one (.slc 90)), (10, aI v616.1)]) (L' := [(90, .seq tI v616.2)]) (by kernel_rfl) ?_
        refine blockQ_hit ?_
        refine seqQ_norm ?_
        refine W_seq (by kernel_rfl) ?_
        refine W_seq (by kernel_rfl) ?_
        refine W_run 3 [] [0, 8, 9, 10, 98, 99] [90] (fr' := [(0, aI a0), (8, .one (.fn 65 [])), (9, .one (.slc 90)), (10, aI v616.1), (98, aI (List.length a1 : Int)), (99, aI (0 : Int))]) (L' := [(90, .seq tI v616.2)]) (obs := []) (by kernel_rfl) (by kernel_rfl) (by kernel_rfl) allP0 ?_
        refine seqQ_norm ?_
        refine W_block (id := 8) (by kernel_rfl) ?_
        obtain ⟨v650, h651, h⟩ := bind_of h
        obtain ⟨h652, h653⟩ := forI_iter h651
        refine W_weaken [0, 8, 9, 10, 98, 99] [90] (fr' := ((hard_Weights_s68 a0 a1) ((0 : Int), (v616.1, v616.2))).1) (L' := ((hard_Weights_s68 a0 a1) ((0 : Int), (v616.1, v616.2))).2) (by kernel_rfl) ?_
        refine W_cutK (W_loop (S := (hard_Weights_s68 a0 a1)) (J := (exQ (.exit 8) hard_Weights_s69)) (by kernel_rfl) ?_ h652 _ v650 h653) ?_
        · rintro ⟨i638, x639⟩ s h
          refine W_seq (by kernel_rfl) ?_
          refine W_run 1 [] [0, 8, 9, 10, 98, 99, 100] [90] (fr' := [(0, aI a0), (8, .one (.fn 65 [])), (9, .one (.slc 90)), (10, aI x639.1), (98, aI (List.length a1 : Int)), (99, aI i638), (100, aB (decide (i638 < (List.length a1 : Int))))]) (L' := [(90, .seq tI x639.2)]) (obs := []) (by kernel_rfl) (by kernel_rfl) (by kernel_rfl) allP0 ?_
          refine seqQ_norm ?_
          refine W_seq (by kernel_rfl) ?_
          refine W_cond (o := .tmp 100) (b := decide (i638 < (List.length a1 : Int))) (by kernel_rfl) (by kernel_rfl) (fun h641 => ?_) (fun h641 => ?_)
          · replace h := stepI_true h641 h
            obtain ⟨_, h, rfl⟩ := h
            refine W_skip [0, 8, 9, 10, 98, 99] [90] (fr' := [(0, aI a0), (8, .one (.fn 65 [])), (9, .one (.slc 90)), (10, aI x639.1), (98, aI (List.length a1 : Int)), (99, aI i638)]) (L' := [(90, .seq tI x639.2)]) (by kernel_rfl) (by kernel_rfl) ?_
            refine seqQ_norm ?_
            refine W_seq (by kernel_rfl) ?_
            refine W_block (id := 9) (by kernel_rfl) ?_
            refine W_seq (by kernel_rfl) ?_
            refine W_run 2 [] [0, 8, 9, 10, 20, 98, 99] [90] (fr' := [(0, aI a0), (8, .one (.fn 65 [])), (9, .one (.slc 90)), (10, aI x639.1), (20, aI i638), (98, aI (List.length a1 : Int)), (99, aI i638)]) (L' := [(90, .seq tI x639.2)]) (obs := []) (by kernel_rfl) (by kernel_rfl) (by kernel_rfl) allP0 ?_
            refine seqQ_norm ?_
            refine W_seq (by kernel_rfl) ?_
            refine W_region (by kernel_rfl) ?_
            refine WO_run (j := 5) (k := 5) (orcs := []) (kF := [0, 8, 9, 10, 20, 98, 99, 102, 103, 106]) (kL := [90]) (fr' := [(0, aI a0), (8, .one (.fn 65 [])), (9, .one (.slc 90)), (10, aI x639.1), (20, aI i638), (98, aI (List.length a1 : Int)), (99, aI i638), (102, .one (.slc 90)), (103, .one (.fn 65 [])), (106, aI (w64 (a0 + i638)))]) (L' := [(90, .seq tI x639.2)]) (obs := []) rfl (by kernel_rfl) allP0 ?_
            obtain ⟨r642, h643, h⟩ := bind_of h
            refine WO_call0 (us := [none]) (d := 107) (p := True) (j := 6) rfl ⟨by kernel_rfl, by kernel_rfl, by kernel_rfl⟩ trivial (hard_Weights_1_ok h643) (by kernel_rfl) ?_
            refine WO_run (j := 10) (k := 4) (orcs := []) (kF := [0, 8, 9, 10, 20, 98, 99, 102, 107, 108, 111]) (kL := [90]) (fr' := [(0, aI a0), (8, .one (.fn 65 [])), (9, .one (.slc 90)), (10, aI x639.1), (20, aI i638), (98, aI (List.length a1 : Int)), (99, aI i638), (102, .one (.slc 90)), (107, aI r642), (108, .one (.fn 65 [])), (111, aI (w64 (a0 + i638)))]) (L' := [(90, .seq tI x639.2)]) (obs := []) rfl (by kernel_rfl) allP0 ?_
            obtain ⟨r644, h645, h⟩ := bind_of h
            refine WO_call0 (us := [none]) (d := 112) (p := True) (j := 11) rfl ⟨by kernel_rfl, by kernel_rfl, by kernel_rfl⟩ trivial (hard_Weights_1_ok h645) (by kernel_rfl) ?_
            obtain ⟨_, h646, h⟩ := bind_of h
            replace h646 := ck_some h646
            refine WO_run (j := 14) (k := 3) (orcs := []) (kF := [0, 8, 9, 10, 20, 98, 99]) (kL := [90, 113]) (fr' := [(0, aI a0), (8, .one (.fn 65 [])), (9, .one (.slc 90)), (10, aI x639.1), (20, aI i638), (98, aI (List.length a1 : Int)), (99, aI i638)]) (L' := [(90, .seq tI (x639.2 ++ [r642, r644])), (113, .seq tI [r642, r644])]) (obs := [SmallLen (List.length x639.2 + List.length [r642, r644])]) rfl (by kernel_rfl) (allP1 h646) ?_
            refine WO_fin [0, 8, 9, 10, 20, 98, 99] [90] (fr' := [(0, aI a0), (8, .one (.fn 65 [])), (9, .one (.slc 90)), (10, aI x639.1), (20, aI i638), (98, aI (List.length a1 : Int)), (99, aI i638)]) (L' := [(90, .seq tI (x639.2 ++ [r642, r644]))]) (by kernel_rfl) (by kernel_rfl) ?_
            refine seqQ_norm ?_
            refine W_region (by kernel_rfl) ?_
            refine WO_run (j := 5) (k := 5) (orcs := []) (kF := [0, 8, 9, 10, 98, 99, 115, 116, 119]) (kL := [90]) (fr' := [(0, aI a0), (8, .one (.fn 65 [])), (9, .one (.slc 90)), (10, aI x639.1), (98, aI (List.length a1 : Int)), (99, aI i638), (115, aI x639.1), (116, .one (.fn 65 [])), (119, aI (w64 (a0 + i638)))]) (L' := [(90, .seq tI (x639.2 ++ [r642, r644]))]) (obs := []) rfl (by kernel_rfl) allP0 ?_
            obtain ⟨r647, h648, h⟩ := bind_of h
            refine WO_call0 (us := [none]) (d := 120) (p := True) (j := 6) rfl ⟨by kernel_rfl, by kernel_rfl, by kernel_rfl⟩ trivial (hard_Weights_1_ok h648) (by kernel_rfl) ?_
            refine WO_run (j := 9) (k := 3) (orcs := []) (kF := [0, 8, 9, 10, 98, 99]) (kL := [90]) (fr' := [(0, aI a0), (8, .one (.fn 65 [])), (9, .one (.slc 90)), (10, aI (w64 (x639.1 + (w64 ((3 : Int) * r647))))), (98, aI (List.length a1 : Int)), (99, aI i638)]) (L' := [(90, .seq tI (x639.2 ++ [r642, r644]))]) (obs := []) rfl (by kernel_rfl) allP0 ?_
            refine WO_fin [0, 8, 9, 10, 98, 99] [90] (fr' := [(0, aI a0), (8, .one (.fn 65 [])), (9, .one (.slc 90)), (10, aI (w64 (x639.1 + (w64 ((3 : Int) * r647))))), (98, aI (List.length a1 : Int)), (99, aI i638)]) (L' := [(90, .seq tI (x639.2 ++ [r642, r644]))]) (by kernel_rfl) (by kernel_rfl) ?_
            refine blockQ_norm ?_
            refine seqQ_norm ?_
            obtain rfl := Option.some.inj h
            refine W_run 2 [] [0, 8, 9, 10, 98, 99] [90] (fr' := [(0, aI a0), (8, .one (.fn 65 [])), (9, .one (.slc 90)), (10, aI (w64 (x639.1 + (w64 ((3 : Int) * r647))))), (98, aI (List.length a1 : Int)), (99, aI (w64 (i638 + (1 : Int))))]) (L' := [(90, .seq tI (x639.2 ++ [r642, r644]))]) (obs := []) (by kernel_rfl) (by kernel_rfl) (by kernel_rfl) allP0 ?_
            exact round_next' (by kernel_rfl) (by kernel_rfl)
          · obtain rfl := stepI_false h641 h
            refine W_exit (id := 8) [9, 10] [90] (fr' := [(9, .one (.slc 90)), (10, aI x639.1)]) (L' := [(90, .seq tI x639.2)]) (by kernel_rfl) (by kernel_rfl) ?_
            refine seqQ_exit ?_
            refine round_exit ?_
            exact exQ_mk (by kernel_rfl) (by kernel_rfl)
        · intro e fr L hJ
          obtain ⟨rfl, rfl, rfl⟩ := hJ
          refine LT_keep [9, 10] [90] (fr' := [(9, .one (.slc 90)), (10, aI v650.1)]) (L' := [(90, .seq tI v650.2)]) (by kernel_rfl) ?_
          refine blockQ_hit ?_
          refine seqQ_norm ?_
          refine W_seq (by kernel_rfl) ?_
          refine W_run 5 [] [4, 5, 6] [90] (fr' := [(4, .one (.slc 90)), (5, aI v650.1), (6, aI (0 : Int))]) (L' := [(90, .seq tI v650.2)]) (obs := []) (by kernel_rfl) (by kernel_rfl) (by kernel_rfl) allP0 ?_
          refine seqQ_norm ?_
          obtain rfl := Option.some.inj h
          refine W_frz 90 (by kernel_rfl) ?_
          refine W_ret [4, 5, 6] [] (fr' := [(4, aD (.slice tI) v650.2), (5, aI v650.1), (6, aI (0 : Int))]) (L' := []) (by kernel_rfl) (by kernel_rfl) ?_
          exact retQ_mk (by kernel_rfl) (by kernel_rfl) (by kernel_rfl)

def ref_Within (a0 : Int) (a1 : Int) (a2 : Int) : Option Bool :=
some ((decide (a0 ≤ a1)) && (decide (a1 ≤ a2)))
theorem ref_Within_ok {a0 : Int} {a1 : Int} {a2 : Int} {r : Bool} (h : ref_Within a0 a1 a2 = some r) : FnC Try.prog 13 [aI a0, aI a1, aI a2] [] (aB r) [] := by
  refine fnC_of_W (B := bodyOf Try.f13) (n := 15) Try.func13 (by kernel_rfl) (by kernel_rfl) (by kernel_rfl) (by kernel_rfl) (by kernel_rfl) ?_
  intro K
  refine W_seq (by kernel_rfl) ?_
  refine W_run 1 [] [0, 1, 2] [] (fr' := [(0, aI a0), (1, aI a1), (2, aI a2)]) (L' := []) (obs := []) (by kernel_rfl) (by kernel_rfl) (by kernel_rfl) allP0 ?_
  refine seqQ_norm ?_
  refine W_seq (by kernel_rfl) ?_
  refine W_run 9 [] [6] [] (fr' := [(6, aB ((decide (a0 ≤ a1)) && (decide (a1 ≤ a2))))]) (L' := []) (obs := []) (by kernel_rfl) (by kernel_rfl) (by kernel_rfl) allP0 ?_
  refine seqQ_norm ?_
  obtain rfl := Option.some.inj h
  refine W_ret [6] [] (fr' := [(6, aB ((decide (a0 ≤ a1)) && (decide (a1 ≤ a2))))]) (L' := []) (by kernel_rfl) (by kernel_rfl) ?_
  exact retQ_mk (by kernel_rfl) (by kernel_rfl) (by kernel_rfl)

def ref_Inside_b1 (a0 : Int) (i11 : Int) (v14 : Int) (x12 : Unit) : Option (Flow Unit (Esc Bool Unit)) :=
bif (decide (v14 < (0 : Int))) || (decide (v14 ≥ a0)) then
(some (.done (.ret false)))
else
(some (.next ()))
@[reducible] def ref_Inside_s2 (a0 : Int) (a1 : (List Int)) (v : Int × Unit) : Fr × LL := ([(0, aI a0), (7, aD (.slice tI) a1), (8, aI (List.length a1 : Int)), (9, aI v.1)], [])
@[reducible] def ref_Inside_s3 (v : Bool) : Fr × LL := ([(4, aB v)], [])
@[reducible] def ref_Inside_s4 (v : Unit) : Fr × LL := ([], [])
def ref_Inside (a0 : Int) (a1 : (List Int)) : Option Bool :=
(forL (ref_Inside_b1 a0) (fun x12 => (.brk ())) a1 0 ()).bind fun v19 =>
match v19 with
| .ret v24 =>
(some v24)
| .brk v25 =>
(some true)
theorem ref_Inside_ok {a0 : Int} {a1 : (List Int)} {r : Bool} (h : ref_Inside a0 a1 = some r) : FnC Try.prog 14 [aI a0, aD (.slice tI) a1] [] (aB r) [] := by
  refine fnC_of_W (B := bodyOf Try.f14) (n := 21) Try.func14 (by kernel_rfl) (by kernel_rfl) (by kernel_rfl) (by kernel_rfl) (by kernel_rfl) ?_
  intro K
  refine W_seq (by kernel_rfl) ?_
  refine W_run 1 [] [0, 1] [] (fr' := [(0, aI a0), (1, aD (.slice tI) a1)]) (L' := []) (obs := []) (by kernel_rfl) (by kernel_rfl) (by kernel_rfl) allP0 ?_
  refine seqQ_norm ?_
  refine W_seq (by kernel_rfl) ?_
  refine W_seq (by kernel_rfl) ?_
  refine W_run 3 [] [0, 7, 8, 9] [] (fr' := [(0, aI a0), (7, aD (.slice tI) a1), (8, aI (List.length a1 : Int)), (9, aI (0 : Int))]) (L' := []) (obs := []) (by kernel_rfl) (by kernel_rfl) (by kernel_rfl) allP0 ?_
  refine seqQ_norm ?_
  refine W_block (id := 0) (by kernel_rfl) ?_
  obtain ⟨v19, h20, h⟩ := bind_of h
  refine W_len (t := 7) (u := tI) (xs := a1) (by kernel_rfl) (fun h23 => ?_)
  obtain ⟨h21, h22⟩ := forL_iter h23 h20
  refine W_weaken [0, 7, 8, 9] [] (fr' := ((ref_Inside_s2 a0 a1) ((0 : Int), ())).1) (L' := ((ref_Inside_s2 a0 a1) ((0 : Int), ())).2) (by kernel_rfl) ?_
  refine W_cutK (W_loop (S := (ref_Inside_s2 a0 a1)) (J := (escQ (exQ .ret ref_Inside_s3) (exQ (.exit 0) ref_Inside_s4))) (by kernel_rfl) ?_ h21 _ v19 h22) ?_
  · rintro ⟨i11, x12⟩ s h
    refine W_seq (by kernel_rfl) ?_
    refine W_run 1 [] [0, 7, 8, 9, 10] [] (fr' := [(0, aI a0), (7, aD (.slice tI) a1), (8, aI (List.length a1 : Int)), (9, aI i11), (10, aB (decide (i11 < (List.length a1 : Int))))]) (L' := []) (obs := []) (by kernel_rfl) (by kernel_rfl) (by kernel_rfl) allP0 ?_
    refine seqQ_norm ?_
    refine W_seq (by kernel_rfl) ?_
    refine W_cond (o := .tmp 10) (b := decide (i11 < (List.length a1 : Int))) (by kernel_rfl) (by kernel_rfl) (fun h16 => ?_) (fun h16 => ?_)
    · replace h := stepL_true h16 h
      obtain ⟨v14, _, h15, h, rfl⟩ := h
      refine W_skip [0, 7, 8, 9] [] (fr' := [(0, aI a0), (7, aD (.slice tI) a1), (8, aI (List.length a1 : Int)), (9, aI i11)]) (L' := []) (by kernel_rfl) (by kernel_rfl) ?_
      refine seqQ_norm ?_
      refine W_seq (by kernel_rfl) ?_
      refine W_block (id := 1) (by kernel_rfl) ?_
      refine W_seq (by kernel_rfl) ?_
      refine W_run 3 [(1, .val (.dat tI v14))] [0, 6, 7, 8, 9] [] (fr' := [(0, aI a0), (6, aI v14), (7, aD (.slice tI) a1), (8, aI (List.length a1 : Int)), (9, aI i11)]) (L' := []) (obs := [Idx a1 i11 v14]) (by kernel_rfl) (by kernel_rfl) (by kernel_rfl) (allP1 (Idx.of h15)) ?_
      refine seqQ_norm ?_
      refine W_seq (by kernel_rfl) ?_
      refine W_run 7 [] [0, 7, 8, 9, 19] [] (fr' := [(0, aI a0), (7, aD (.slice tI) a1), (8, aI (List.length a1 : Int)), (9, aI i11), (19, aB ((decide (v14 < (0 : Int))) || (decide (v14 ≥ a0))))]) (L' := []) (obs := []) (by kernel_rfl) (by kernel_rfl) (by kernel_rfl) allP0 ?_
      refine seqQ_norm ?_
      refine W_cond (o := .tmp 19) (b := (decide (v14 < (0 : Int))) || (decide (v14 ≥ a0))) (by kernel_rfl) (by kernel_rfl) (fun h17 => ?_) (fun h17 => ?_)
      · replace h := ofT h17 h
        refine W_seq (by kernel_rfl) ?_
        refine W_run 1 [] [4] [] (fr' := [(4, aB false)]) (L' := []) (obs := []) (by kernel_rfl) (by kernel_rfl) (by kernel_rfl) allP0 ?_
        refine seqQ_norm ?_
        obtain rfl := Option.some.inj h
        refine W_ret [4] [] (fr' := [(4, aB false)]) (L' := []) (by kernel_rfl) (by kernel_rfl) ?_
        refine blockQ_ret ?_
        refine seqQ_ret ?_
        refine round_ret ?_
        refine escQ_ret ?_
        exact exQ_mk (by kernel_rfl) (by kernel_rfl)
      · replace h := ofF h17 h
        refine W_skip [0, 7, 8, 9] [] (fr' := [(0, aI a0), (7, aD (.slice tI) a1), (8, aI (List.length a1 : Int)), (9, aI i11)]) (L' := []) (by kernel_rfl) (by kernel_rfl) ?_
        refine blockQ_norm ?_
        refine seqQ_norm ?_
        obtain rfl := Option.some.inj h
        refine W_run 2 [] [0, 7, 8, 9] [] (fr' := [(0, aI a0), (7, aD (.slice tI) a1), (8, aI (List.length a1 : Int)), (9, aI (w64 (i11 + (1 : Int))))]) (L' := []) (obs := []) (by kernel_rfl) (by kernel_rfl) (by kernel_rfl) allP0 ?_
        exact round_next' (by kernel_rfl) (by kernel_rfl)
    · obtain rfl := stepL_false h16 h
      refine W_exit (id := 0) [] [] (fr' := []) (L' := []) (by kernel_rfl) (by kernel_rfl) ?_
      refine seqQ_exit ?_
      refine round_exit ?_
      refine escQ_brk ?_
      exact exQ_mk (by kernel_rfl) (by kernel_rfl)
  · intro e fr L hJ
    rcases v19 with v24 | v25
    · obtain ⟨rfl, rfl, rfl⟩ := hJ
      obtain rfl := Option.some.inj h
      refine LT_keep [4] [] (fr' := [(4, aB v24)]) (L' := []) (by kernel_rfl) ?_
      refine blockQ_ret ?_
      refine seqQ_ret ?_
      exact retQ_mk (by kernel_rfl) (by kernel_rfl) (by kernel_rfl)
    · obtain ⟨rfl, rfl, rfl⟩ := hJ
      refine LT_keep [] [] (fr' := []) (L' := []) (by kernel_rfl) ?_
      refine blockQ_hit ?_
      refine seqQ_norm ?_
      refine W_seq (by kernel_rfl) ?_
      refine W_run 1 [] [4] [] (fr' := [(4, aB true)]) (L' := []) (obs := []) (by kernel_rfl) (by kernel_rfl) (by kernel_rfl) allP0 ?_
      refine seqQ_norm ?_
      obtain rfl := Option.some.inj h
      refine W_ret [4] [] (fr' := [(4, aB true)]) (L' := []) (by kernel_rfl) (by kernel_rfl) ?_
      exact retQ_mk (by kernel_rfl) (by kernel_rfl) (by kernel_rfl)

def ref_HardCheck_g5 (v35 : ((List Int) × (List Int))) : Option Bool :=
bif decide ((w64 ((List.length v35.1 : Int) + (List.length v35.2 : Int))) > (3 : Int)) then
(some true)
else
(bif decide ((List.length v35.1 : Int) > (3 : Int)) then
(some true)
else
(some (decide ((List.length v35.2 : Int) > (3 : Int)))))
@[reducible] def ref_HardCheck_s6 (a0 : Int) (a1 : (List ((List Int) × (List Int)))) (i32 : Int) (v : Bool) : Fr × LL := ([(0, aI a0), (1, aD (.slice (.pair (.slice tI) (.slice tI))) a1), (17, aD (.slice (.pair (.slice tI) (.slice tI))) a1), (18, aI (List.length a1 : Int)), (19, aI i32), (42, aB v)], [])
def ref_HardCheck_b7 (i32 : Int) (v35 : ((List Int) × (List Int))) (x33 : Unit) : Option (Flow Unit (Esc Int Unit)) :=
(ref_HardCheck_g5 v35).bind fun v44 =>
bif v44 then
(some (.done (.ret (1 : Int))))
else
(some (.next ()))
@[reducible] def ref_HardCheck_s8 (a0 : Int) (a1 : (List ((List Int) × (List Int)))) (v : Int × Unit) : Fr × LL := ([(0, aI a0), (1, aD (.slice (.pair (.slice tI) (.slice tI))) a1), (17, aD (.slice (.pair (.slice tI) (.slice tI))) a1), (18, aI (List.length a1 : Int)), (19, aI v.1)], [])
@[reducible] def ref_HardCheck_s9 (v : Int) : Fr × LL := ([(4, aI v)], [])
@[reducible] def ref_HardCheck_s10 (a0 : Int) (a1 : (List ((List Int) × (List Int)))) (v : Unit) : Fr × LL := ([(0, aI a0), (1, aD (.slice (.pair (.slice tI) (.slice tI))) a1)], [])
@[reducible] def ref_HardCheck_s13 (a0 : Int) (a1 : (List ((List Int) × (List Int)))) (i99 : Int) (v : Bool) : Fr × LL := ([(0, aI a0), (44, aD (.slice (.pair (.slice tI) (.slice tI))) a1), (45, aI (List.length a1 : Int)), (46, aI i99), (61, aB v)], [])
def ref_HardCheck_b14 (a0 : Int) (i99 : Int) (v102 : ((List Int) × (List Int))) (x100 : Unit) : Option (Flow Unit (Esc Int Unit)) :=
((ref_Inside a0 v102.1).bind fun r115 =>
bif !r115 then
(some true)
else
((ref_Inside a0 v102.2).bind fun r118 =>
some (!r118))).bind fun v120 =>
bif v120 then
(some (.done (.ret (2 : Int))))
else
(some (.next ()))
@[reducible] def ref_HardCheck_s15 (a0 : Int) (a1 : (List ((List Int) × (List Int)))) (v : Int × Unit) : Fr × LL := ([(0, aI a0), (44, aD (.slice (.pair (.slice tI) (.slice tI))) a1), (45, aI (List.length a1 : Int)), (46, aI v.1)], [])
@[reducible] def ref_HardCheck_s16 (v : Int) : Fr × LL := ([(4, aI v)], [])
@[reducible] def ref_HardCheck_s17 (v : Unit) : Fr × LL := ([], [])
def ref_HardCheck (a0 : Int) (a1 : (List ((List Int) × (List Int)))) : Option Int :=
(ref_Within (0 : Int) a0 (8 : Int)).bind fun r3 =>
bif (!r3) || (decide ((List.length a1 : Int) > (12 : Int))) then
(some (1 : Int))
else
((forL ref_HardCheck_b7 (fun x33 => (.brk ())) a1 0 ()).bind fun v48 =>
match v48 with
| .ret v53 =>
(some v53)
| .brk v54 =>
((forL (ref_HardCheck_b14 a0) (fun x100 => (.brk ())) a1 0 ()).bind fun v124 =>
match v124 with
| .ret v129 =>
(some v129)
| .brk v130 =>
(some (0 : Int))))
theorem ref_HardCheck_ok {a0 : Int} {a1 : (List ((List Int) × (List Int)))} {r : Int} (h : ref_HardCheck a0 a1 = some r) : FnC Try.prog 38 [aI a0, aD (.slice (.pair (.slice tI) (.slice tI))) a1] [] (aI r) [] := by
  refine fnC_of_W (B := bodyOf Try.f38) (n := 63) Try.func38 (by kernel_rfl) (by kernel_rfl) (by kernel_rfl) (by kernel_rfl) (by kernel_rfl) ?_
  intro K
  refine W_seq (by kernel_rfl) ?_
  refine W_run 1 [] [0, 1] [] (fr' := [(0, aI a0), (1, aD (.slice (.pair (.slice tI) (.slice tI))) a1)]) (L' := []) (obs := []) (by kernel_rfl) (by kernel_rfl) (by kernel_rfl) allP0 ?_
  refine seqQ_norm ?_
  refine W_seq (by kernel_rfl) ?_
  refine W_seq (by kernel_rfl) ?_
  refine W_region (by kernel_rfl) ?_
  refine WO_run (j := 1) (k := 1) (orcs := []) (kF := [0, 1, 9]) (kL := []) (fr' := [(0, aI a0), (1, aD (.slice (.pair (.slice tI) (.slice tI))) a1), (9, aI a0)]) (L' := []) (obs := []) rfl (by kernel_rfl) allP0 ?_
  obtain ⟨r3, h4, h⟩ := bind_of h
  refine WO_call0 (us := [none, none, none]) (d := 10) (p := True) (j := 2) rfl ⟨by kernel_rfl, by kernel_rfl, by kernel_rfl⟩ trivial (ref_Within_ok h4) (by kernel_rfl) ?_
  refine WO_run (j := 8) (k := 6) (orcs := []) (kF := [0, 1, 16]) (kL := []) (fr' := [(0, aI a0), (1, aD (.slice (.pair (.slice tI) (.slice tI))) a1), (16, aB ((!r3) || (decide ((List.length a1 : Int) > (12 : Int)))))]) (L' := []) (obs := []) rfl (by kernel_rfl) allP0 ?_
  refine WO_fin [0, 1, 16] [] (fr' := [(0, aI a0), (1, aD (.slice (.pair (.slice tI) (.slice tI))) a1), (16, aB ((!r3) || (decide ((List.length a1 : Int) > (12 : Int)))))]) (L' := []) (by kernel_rfl) (by kernel_rfl) ?_
  refine seqQ_norm ?_
  refine W_cond (o := .tmp 16) (b := (!r3) || (decide ((List.length a1 : Int) > (12 : Int)))) (by kernel_rfl) (by kernel_rfl) (fun h5 => ?_) (fun h5 => ?_)
  · replace h := ofT h5 h
    refine W_seq (by kernel_rfl) ?_
    refine W_run 1 [] [4] [] (fr' := [(4, aI (1 : Int))]) (L' := []) (obs := []) (by kernel_rfl) (by kernel_rfl) (by kernel_rfl) allP0 ?_
    refine seqQ_norm ?_
    obtain rfl := Option.some.inj h
    refine W_ret [4] [] (fr' := [(4, aI (1 : Int))]) (L' := []) (by kernel_rfl) (by kernel_rfl) ?_
    refine seqQ_ret ?_
    exact retQ_mk (by kernel_rfl) (by kernel_rfl) (by kernel_rfl)
  · replace h := ofF h5 h
    refine W_skip [0, 1] [] (fr' := [(0, aI a0), (1, aD (.slice (.pair (.slice tI) (.slice tI))) a1)]) (L' := []) (by kernel_rfl) (by kernel_rfl) ?_
    refine seqQ_norm ?_
    refine W_seq (by kernel_rfl) ?_
    refine W_seq (by kernel_rfl) ?_
    refine W_run 3 [] [0, 1, 17, 18, 19] [] (fr' := [(0, aI a0), (1, aD (.slice (.pair (.slice tI) (.slice tI))) a1), (17, aD (.slice (.pair (.slice tI) (.slice tI))) a1), (18, aI (List.length a1 : Int)), (19, aI (0 : Int))]) (L' := []) (obs := []) (by kernel_rfl) (by kernel_rfl) (by kernel_rfl) allP0 ?_
    refine seqQ_norm ?_
    refine W_block (id := 0) (by kernel_rfl) ?_
    obtain ⟨v48, h49, h⟩ := bind_of h
    refine W_len (t := 17) (u := (.pair (.slice tI) (.slice tI))) (xs := a1) (by kernel_rfl) (fun h52 => ?_)
    obtain ⟨h50, h51⟩ := forL_iter h52 h49
    refine W_weaken [0, 1, 17, 18, 19] [] (fr' := ((ref_HardCheck_s8 a0 a1) ((0 : Int), ())).1) (L' := ((ref_HardCheck_s8 a0 a1) ((0 : Int), ())).2) (by kernel_rfl) ?_
    refine W_cutK (W_loop (S := (ref_HardCheck_s8 a0 a1)) (J := (escQ (exQ .ret ref_HardCheck_s9) (exQ (.exit 0) (ref_HardCheck_s10 a0 a1)))) (by kernel_rfl) ?_ h50 _ v48 h51) ?_
    · rintro ⟨i32, x33⟩ s h
      refine W_seq (by kernel_rfl) ?_
      refine W_run 1 [] [0, 1, 17, 18, 19, 20] [] (fr' := [(0, aI a0), (1, aD (.slice (.pair (.slice tI) (.slice tI))) a1), (17, aD (.slice (.pair (.slice tI) (.slice tI))) a1), (18, aI (List.length a1 : Int)), (19, aI i32), (20, aB (decide (i32 < (List.length a1 : Int))))]) (L' := []) (obs := []) (by kernel_rfl) (by kernel_rfl) (by kernel_rfl) allP0 ?_
      refine seqQ_norm ?_
      refine W_seq (by kernel_rfl) ?_
      refine W_cond (o := .tmp 20) (b := decide (i32 < (List.length a1 : Int))) (by kernel_rfl) (by kernel_rfl) (fun h37 => ?_) (fun h37 => ?_)
      · replace h := stepL_true h37 h
        obtain ⟨v35, _, h36, h, rfl⟩ := h
        refine W_skip [0, 1, 17, 18, 19] [] (fr' := [(0, aI a0), (1, aD (.slice (.pair (.slice tI) (.slice tI))) a1), (17, aD (.slice (.pair (.slice tI) (.slice tI))) a1), (18, aI (List.length a1 : Int)), (19, aI i32)]) (L' := []) (by kernel_rfl) (by kernel_rfl) ?_
        refine seqQ_norm ?_
        refine W_seq (by kernel_rfl) ?_
        refine W_block (id := 1) (by kernel_rfl) ?_
        refine W_seq (by kernel_rfl) ?_
        refine W_run 4 [(1, .val (.dat (.pair (.slice tI) (.slice tI)) v35)), (5, .typed)] [0, 1, 6, 17, 18, 19] [6] (fr' := [(0, aI a0), (1, aD (.slice (.pair (.slice tI) (.slice tI))) a1), (6, .one (.ptr 6 0)), (17, aD (.slice (.pair (.slice tI) (.slice tI))) a1), (18, aI (List.length a1 : Int)), (19, aI i32)]) (L' := [(6, .one (.pair (.slice tI) (.slice tI)) v35)]) (obs := [Idx a1 i32 v35, True]) (by kernel_rfl) (by kernel_rfl) (by kernel_rfl) (allP2 (Idx.of h36) (allP1 trivial)) ?_
        refine seqQ_norm ?_
        refine W_seq (by kernel_rfl) ?_
        obtain ⟨v44, h45, h⟩ := bind_of h
        refine W_cutK (Q' := (exQ .normal (ref_HardCheck_s6 a0 a1 i32)) v44) ?_ ?_
        · replace h := h45
          refine W_region (by kernel_rfl) ?_
          refine WO_run (j := 9) (k := 9) (orcs := []) (kF := [0, 1, 6, 17, 18, 19, 31]) (kL := [6]) (fr' := [(0, aI a0), (1, aD (.slice (.pair (.slice tI) (.slice tI))) a1), (6, .one (.ptr 6 0)), (17, aD (.slice (.pair (.slice tI) (.slice tI))) a1), (18, aI (List.length a1 : Int)), (19, aI i32), (31, aB (decide ((w64 ((List.length v35.1 : Int) + (List.length v35.2 : Int))) > (3 : Int))))]) (L' := [(6, .one (.pair (.slice tI) (.slice tI)) v35)]) (obs := []) rfl (by kernel_rfl) allP0 ?_
          rcases Bool.eq_false_or_eq_true (decide ((w64 ((List.length v35.1 : Int) + (List.length v35.2 : Int))) > (3 : Int))) with h42 | h42
          · replace h := ofT h42 h
            refine WO_run (j := 20) (k := 11) (orcs := [(18, .known true), (20, .known true), (22, .known true), (24, .known true), (27, .val (.dat .bool true)), (30, .known true), (32, .known true), (34, .known true), (36, .known true), (39, .val (.dat .bool true))]) (kF := [0, 1, 17, 18, 19, 42]) (kL := [6]) (fr' := [(0, aI a0), (1, aD (.slice (.pair (.slice tI) (.slice tI))) a1), (17, aD (.slice (.pair (.slice tI) (.slice tI))) a1), (18, aI (List.length a1 : Int)), (19, aI i32), (42, aB true)]) (L' := [(6, .one (.pair (.slice tI) (.slice tI)) v35)]) (obs := [((decide ((w64 ((List.length v35.1 : Int) + (List.length v35.2 : Int))) > (3 : Int))) = true), ((decide ((w64 ((List.length v35.1 : Int) + (List.length v35.2 : Int))) > (3 : Int))) = true), ((decide ((w64 ((List.length v35.1 : Int) + (List.length v35.2 : Int))) > (3 : Int))) = true), ((decide ((w64 ((List.length v35.1 : Int) + (List.length v35.2 : Int))) > (3 : Int))) = true), ((decide ((w64 ((List.length v35.1 : Int) + (List.length v35.2 : Int))) > (3 : Int))) = true), (true = true), (true = true), (true = true), (true = true), (true = true)]) rfl (by kernel_rfl) (allP2 h42 (allP2 h42 (allP2 h42 (allP2 h42 (allP2 h42 (allP2 rfl (allP2 rfl (allP2 rfl (allP2 rfl (allP1 rfl)))))))))) ?_
            obtain rfl := Option.some.inj h
            refine WO_fin [0, 1, 17, 18, 19, 42] [] (fr' := [(0, aI a0), (1, aD (.slice (.pair (.slice tI) (.slice tI))) a1), (17, aD (.slice (.pair (.slice tI) (.slice tI))) a1), (18, aI (List.length a1 : Int)), (19, aI i32), (42, aB true)]) (L' := []) (by kernel_rfl) (by kernel_rfl) ?_
            exact exQ_mk (by kernel_rfl) (by kernel_rfl)
          · replace h := ofF h42 h
            refine WO_run (j := 15) (k := 6) (orcs := [(18, .known false), (20, .known false), (22, .known false), (24, .known false), (27, .val (.dat .bool false))]) (kF := [0, 1, 6, 17, 18, 19, 37]) (kL := [6]) (fr' := [(0, aI a0), (1, aD (.slice (.pair (.slice tI) (.slice tI))) a1), (6, .one (.ptr 6 0)), (17, aD (.slice (.pair (.slice tI) (.slice tI))) a1), (18, aI (List.length a1 : Int)), (19, aI i32), (37, aB (decide ((List.length v35.1 : Int) > (3 : Int))))]) (L' := [(6, .one (.pair (.slice tI) (.slice tI)) v35)]) (obs := [((decide ((w64 ((List.length v35.1 : Int) + (List.length v35.2 : Int))) > (3 : Int))) = false), ((decide ((w64 ((List.length v35.1 : Int) + (List.length v35.2 : Int))) > (3 : Int))) = false), ((decide ((w64 ((List.length v35.1 : Int) + (List.length v35.2 : Int))) > (3 : Int))) = false), ((decide ((w64 ((List.length v35.1 : Int) + (List.length v35.2 : Int))) > (3 : Int))) = false), ((decide ((w64 ((List.length v35.1 : Int) + (List.length v35.2 : Int))) > (3 : Int))) = false)]) rfl (by kernel_rfl) (allP2 h42 (allP2 h42 (allP2 h42 (allP2 h42 (allP1 h42))))) ?_
            rcases Bool.eq_false_or_eq_true (decide ((List.length v35.1 : Int) > (3 : Int))) with h43 | h43
            · replace h := ofT h43 h
              refine WO_run (j := 20) (k := 5) (orcs := [(30, .known true), (32, .known true), (34, .known true), (36, .known true), (39, .val (.dat .bool true))]) (kF := [0, 1, 17, 18, 19, 42]) (kL := [6]) (fr' := [(0, aI a0), (1, aD (.slice (.pair (.slice tI) (.slice tI))) a1), (17, aD (.slice (.pair (.slice tI) (.slice tI))) a1), (18, aI (List.length a1 : Int)), (19, aI i32), (42, aB true)]) (L' := [(6, .one (.pair (.slice tI) (.slice tI)) v35)]) (obs := [((decide ((List.length v35.1 : Int) > (3 : Int))) = true), ((decide ((List.length v35.1 : Int) > (3 : Int))) = true), ((decide ((List.length v35.1 : Int) > (3 : Int))) = true), ((decide ((List.length v35.1 : Int) > (3 : Int))) = true), ((decide ((List.length v35.1 : Int) > (3 : Int))) = true)]) rfl (by kernel_rfl) (allP2 h43 (allP2 h43 (allP2 h43 (allP2 h43 (allP1 h43))))) ?_
              obtain rfl := Option.some.inj h
              refine WO_fin [0, 1, 17, 18, 19, 42] [] (fr' := [(0, aI a0), (1, aD (.slice (.pair (.slice tI) (.slice tI))) a1), (17, aD (.slice (.pair (.slice tI) (.slice tI))) a1), (18, aI (List.length a1 : Int)), (19, aI i32), (42, aB true)]) (L' := []) (by kernel_rfl) (by kernel_rfl) ?_
              exact exQ_mk (by kernel_rfl) (by kernel_rfl)
            · replace h := ofF h43 h
              refine WO_run (j := 20) (k := 5) (orcs := [(30, .known false), (32, .known false), (34, .known false), (36, .known false), (39, .val (.dat .bool false))]) (kF := [0, 1, 17, 18, 19, 42]) (kL := [6]) (fr' := [(0, aI a0), (1, aD (.slice (.pair (.slice tI) (.slice tI))) a1), (17, aD (.slice (.pair (.slice tI) (.slice tI))) a1), (18, aI (List.length a1 : Int)), (19, aI i32), (42, aB (decide ((List.length v35.2 : Int) > (3 : Int))))]) (L' := [(6, .one (.pair (.slice tI) (.slice tI)) v35)]) (obs := [((decide ((List.length v35.1 : Int) > (3 : Int))) = false), ((decide ((List.length v35.1 : Int) > (3 : Int))) = false), ((decide ((List.length v35.1 : Int) > (3 : Int))) = false), ((decide ((List.length v35.1 : Int) > (3 : Int))) = false), ((decide ((List.length v35.1 : Int) > (3 : Int))) = false)]) rfl (by kernel_rfl) (allP2 h43 (allP2 h43 (allP2 h43 (allP2 h43 (allP1 h43))))) ?_
              obtain rfl := Option.some.inj h
              refine WO_fin [0, 1, 17, 18, 19, 42] [] (fr' := [(0, aI a0), (1, aD (.slice (.pair (.slice tI) (.slice tI))) a1), (17, aD (.slice (.pair (.slice tI) (.slice tI))) a1), (18, aI (List.length a1 : Int)), (19, aI i32), (42, aB (decide ((List.length v35.2 : Int) > (3 : Int))))]) (L' := []) (by kernel_rfl) (by kernel_rfl) ?_
              exact exQ_mk (by kernel_rfl) (by kernel_rfl)
        · intro e fr L hJ
          obtain ⟨rfl, rfl, rfl⟩ := hJ
          refine LT_keep [0, 1, 17, 18, 19, 42] [] (fr' := [(0, aI a0), (1, aD (.slice (.pair (.slice tI) (.slice tI))) a1), (17, aD (.slice (.pair (.slice tI) (.slice tI))) a1), (18, aI (List.length a1 : Int)), (19, aI i32), (42, aB v44)]) (L' := []) (by kernel_rfl) ?_
          refine seqQ_norm ?_
          refine W_cond (o := .tmp 42) (b := v44) (by kernel_rfl) (by kernel_rfl) (fun h46 => ?_) (fun h46 => ?_)
          · replace h := ofT h46 h
            refine W_seq (by kernel_rfl) ?_
            refine W_run 1 [] [4] [] (fr' := [(4, aI (1 : Int))]) (L' := []) (obs := []) (by kernel_rfl) (by kernel_rfl) (by kernel_rfl) allP0 ?_
            refine seqQ_norm ?_
            obtain rfl := Option.some.inj h
            refine W_ret [4] [] (fr' := [(4, aI (1 : Int))]) (L' := []) (by kernel_rfl) (by kernel_rfl) ?_
            refine blockQ_ret ?_
            refine seqQ_ret ?_
            refine round_ret ?_
            refine escQ_ret ?_
            exact exQ_mk (by kernel_rfl) (by kernel_rfl)
          · replace h := ofF h46 h
            refine W_skip [0, 1, 17, 18, 19] [] (fr' := [(0, aI a0), (1, aD (.slice (.pair (.slice tI) (.slice tI))) a1), (17, aD (.slice (.pair (.slice tI) (.slice tI))) a1), (18, aI (List.length a1 : Int)), (19, aI i32)]) (L' := []) (by kernel_rfl) (by kernel_rfl) ?_
            refine blockQ_norm ?_
            refine seqQ_norm ?_
            obtain rfl := Option.some.inj h
            refine W_run 2 [] [0, 1, 17, 18, 19] [] (fr' := [(0, aI a0), (1, aD (.slice (.pair (.slice tI) (.slice tI))) a1), (17, aD (.slice (.pair (.slice tI) (.slice tI))) a1), (18, aI (List.length a1 : Int)), (19, aI (w64 (i32 + (1 : Int))))]) (L' := []) (obs := []) (by kernel_rfl) (by kernel_rfl) (by kernel_rfl) allP0 ?_
            exact round_next' (by kernel_rfl) (by kernel_rfl)
      · obtain rfl := stepL_false h37 h
        refine W_exit (id := 0) [0, 1] [] (fr' := [(0, aI a0), (1, aD (.slice (.pair (.slice tI) (.slice tI))) a1)]) (L' := []) (by kernel_rfl) (by kernel_rfl) ?_
        refine seqQ_exit ?_
        refine round_exit ?_
        refine escQ_brk ?_
        exact exQ_mk (by kernel_rfl) (by kernel_rfl)
    · intro e fr L hJ
      rcases v48 with v53 | v54
      · obtain ⟨rfl, rfl, rfl⟩ := hJ
        obtain rfl := Option.some.inj h
        refine LT_keep [4] [] (fr' := [(4, aI v53)]) (L' := []) (by kernel_rfl) ?_
        refine blockQ_ret ?_
        refine seqQ_ret ?_
        exact retQ_mk (by kernel_rfl) (by kernel_rfl) (by kernel_rfl)
      · obtain ⟨rfl, rfl, rfl⟩ := hJ
        refine LT_keep [0, 1] [] (fr' := [(0, aI a0), (1, aD (.slice (.pair (.slice tI) (.slice tI))) a1)]) (L' := []) (by kernel_rfl) ?_
        refine blockQ_hit ?_
        refine seqQ_norm ?_
        refine W_seq (by kernel_rfl) ?_
        refine W_seq (by kernel_rfl) ?_
        refine W_run 3 [] [0, 44, 45, 46] [] (fr' := [(0, aI a0), (44, aD (.slice (.pair (.slice tI) (.slice tI))) a1), (45, aI (List.length a1 : Int)), (46, aI (0 : Int))]) (L' := []) (obs := []) (by kernel_rfl) (by kernel_rfl) (by kernel_rfl) allP0 ?_
        refine seqQ_norm ?_
        refine W_block (id := 2) (by kernel_rfl) ?_
        obtain ⟨v124, h125, h⟩ := bind_of h
        refine W_len (t := 44) (u := (.pair (.slice tI) (.slice tI))) (xs := a1) (by kernel_rfl) (fun h128 => ?_)
        obtain ⟨h126, h127⟩ := forL_iter h128 h125
        refine W_weaken [0, 44, 45, 46] [] (fr' := ((ref_HardCheck_s15 a0 a1) ((0 : Int), ())).1) (L' := ((ref_HardCheck_s15 a0 a1) ((0 : Int), ())).2) (by kernel_rfl) ?_
        refine W_cutK (W_loop (S := (ref_HardCheck_s15 a0 a1)) (J := (escQ (exQ .ret ref_HardCheck_s16) (exQ (.exit 2) ref_HardCheck_s17))) (by kernel_rfl) ?_ h126 _ v124 h127) ?_
        · rintro ⟨i99, x100⟩ s h
          refine W_seq (by kernel_rfl) ?_
          refine W_run 1 [] [0, 44, 45, 46, 47] [] (fr' := [(0, aI a0), (44, aD (.slice (.pair (.slice tI) (.slice tI))) a1), (45, aI (List.length a1 : Int)), (46, aI i99), (47, aB (decide (i99 < (List.length a1 : Int))))]) (L' := []) (obs := []) (by kernel_rfl) (by kernel_rfl) (by kernel_rfl) allP0 ?_
          refine seqQ_norm ?_
          refine W_seq (by kernel_rfl) ?_
          refine W_cond (o := .tmp 47) (b := decide (i99 < (List.length a1 : Int))) (by kernel_rfl) (by kernel_rfl) (fun h104 => ?_) (fun h104 => ?_)
          · replace h := stepL_true h104 h
            obtain ⟨v102, _, h103, h, rfl⟩ := h
            refine W_skip [0, 44, 45, 46] [] (fr' := [(0, aI a0), (44, aD (.slice (.pair (.slice tI) (.slice tI))) a1), (45, aI (List.length a1 : Int)), (46, aI i99)]) (L' := []) (by kernel_rfl) (by kernel_rfl) ?_
            refine seqQ_norm ?_
            refine W_seq (by kernel_rfl) ?_
            refine W_block (id := 3) (by kernel_rfl) ?_
            refine W_seq (by kernel_rfl) ?_
            refine W_run 4 [(1, .val (.dat (.pair (.slice tI) (.slice tI)) v102)), (5, .typed)] [0, 8, 44, 45, 46] [8] (fr' := [(0, aI a0), (8, .one (.ptr 8 0)), (44, aD (.slice (.pair (.slice tI) (.slice tI))) a1), (45, aI (List.length a1 : Int)), (46, aI i99)]) (L' := [(8, .one (.pair (.slice tI) (.slice tI)) v102)]) (obs := [Idx a1 i99 v102, True]) (by kernel_rfl) (by kernel_rfl) (by kernel_rfl) (allP2 (Idx.of h103) (allP1 trivial)) ?_
            refine seqQ_norm ?_
            refine W_seq (by kernel_rfl) ?_
            obtain ⟨v120, h121, h⟩ := bind_of h
            refine W_cutK (Q' := (exQ .normal (ref_HardCheck_s13 a0 a1 i99)) v120) ?_ ?_
            · replace h := h121
              refine W_region (by kernel_rfl) ?_
              refine WO_run (j := 3) (k := 3) (orcs := []) (kF := [0, 8, 44, 45, 46, 50, 52]) (kL := [8]) (fr' := [(0, aI a0), (8, .one (.ptr 8 0)), (44, aD (.slice (.pair (.slice tI) (.slice tI))) a1), (45, aI (List.length a1 : Int)), (46, aI i99), (50, aI a0), (52, aD (.slice tI) v102.1)]) (L' := [(8, .one (.pair (.slice tI) (.slice tI)) v102)]) (obs := []) rfl (by kernel_rfl) allP0 ?_
              obtain ⟨r115, h116, h⟩ := bind_of h
              refine WO_call0 (us := [none, none]) (d := 53) (p := True) (j := 4) rfl ⟨by kernel_rfl, by kernel_rfl, by kernel_rfl⟩ trivial (ref_Inside_ok h116) (by kernel_rfl) ?_
              refine WO_run (j := 6) (k := 2) (orcs := []) (kF := [0, 8, 44, 45, 46, 55]) (kL := [8]) (fr' := [(0, aI a0), (8, .one (.ptr 8 0)), (44, aD (.slice (.pair (.slice tI) (.slice tI))) a1), (45, aI (List.length a1 : Int)), (46, aI i99), (55, aB (!r115))]) (L' := [(8, .one (.pair (.slice tI) (.slice tI)) v102)]) (obs := []) rfl (by kernel_rfl) allP0 ?_
              rcases Bool.eq_false_or_eq_true (!r115) with h117 | h117
              · replace h := ofT h117 h
                refine WO_run (j := 12) (k := 6) (orcs := [(12, .known true), (14, .known true), (16, .known true), (18, .known true), (20, .known true), (23, .val (.dat .bool true))]) (kF := [0, 44, 45, 46, 61]) (kL := [8]) (fr' := [(0, aI a0), (44, aD (.slice (.pair (.slice tI) (.slice tI))) a1), (45, aI (List.length a1 : Int)), (46, aI i99), (61, aB true)]) (L' := [(8, .one (.pair (.slice tI) (.slice tI)) v102)]) (obs := [((!r115) = true), ((!r115) = true), ((!r115) = true), ((!r115) = true), ((!r115) = true), ((!r115) = true)]) rfl (by kernel_rfl) (allP2 h117 (allP2 h117 (allP2 h117 (allP2 h117 (allP2 h117 (allP1 h117)))))) ?_
                obtain rfl := Option.some.inj h
                refine WO_fin [0, 44, 45, 46, 61] [] (fr' := [(0, aI a0), (44, aD (.slice (.pair (.slice tI) (.slice tI))) a1), (45, aI (List.length a1 : Int)), (46, aI i99), (61, aB true)]) (L' := []) (by kernel_rfl) (by kernel_rfl) ?_
                exact exQ_mk (by kernel_rfl) (by kernel_rfl)
              · replace h := ofF h117 h
                refine WO_run (j := 9) (k := 3) (orcs := [(12, .known false), (14, .known false), (16, .known false)]) (kF := [0, 44, 45, 46, 55, 56, 58]) (kL := [8]) (fr' := [(0, aI a0), (44, aD (.slice (.pair (.slice tI) (.slice tI))) a1), (45, aI (List.length a1 : Int)), (46, aI i99), (55, aB (!r115)), (56, aI a0), (58, aD (.slice tI) v102.2)]) (L' := [(8, .one (.pair (.slice tI) (.slice tI)) v102)]) (obs := [((!r115) = false), ((!r115) = false), ((!r115) = false)]) rfl (by kernel_rfl) (allP2 h117 (allP2 h117 (allP1 h117))) ?_
                obtain ⟨r118, h119, h⟩ := bind_of h
                refine WO_call0 (us := [none, none]) (d := 59) (p := ((!r115) = false)) (j := 10) rfl ⟨by kernel_rfl, by kernel_rfl, by kernel_rfl⟩ h117 (ref_Inside_ok h119) (by kernel_rfl) ?_
                refine WO_run (j := 12) (k := 2) (orcs := [(20, .known false), (23, .val (.dat .bool false))]) (kF := [0, 44, 45, 46, 61]) (kL := [8]) (fr' := [(0, aI a0), (44, aD (.slice (.pair (.slice tI) (.slice tI))) a1), (45, aI (List.length a1 : Int)), (46, aI i99), (61, aB (!r118))]) (L' := [(8, .one (.pair (.slice tI) (.slice tI)) v102)]) (obs := [((!r115) = false), ((!r115) = false)]) rfl (by kernel_rfl) (allP2 h117 (allP1 h117)) ?_
                obtain rfl := Option.some.inj h
                refine WO_fin [0, 44, 45, 46, 61] [] (fr' := [(0, aI a0), (44, aD (.slice (.pair (.slice tI) (.slice tI))) a1), (45, aI (List.length a1 : Int)), (46, aI i99), (61, aB (!r118))]) (L' := []) (by kernel_rfl) (by kernel_rfl) ?_
                exact exQ_mk (by kernel_rfl) (by kernel_rfl)
            · intro e fr L hJ
              obtain ⟨rfl, rfl, rfl⟩ := hJ
              refine LT_keep [0, 44, 45, 46, 61] [] (fr' := [(0, aI a0), (44, aD (.slice (.pair (.slice tI) (.slice tI))) a1), (45, aI (List.length a1 : Int)), (46, aI i99), (61, aB v120)]) (L' := []) (by kernel_rfl) ?_
              refine seqQ_norm ?_
              refine W_cond (o := .tmp 61) (b := v120) (by kernel_rfl) (by kernel_rfl) (fun h122 => ?_) (fun h122 => ?_)
              · replace h := ofT h122 h
                refine W_seq (by kernel_rfl) ?_
                refine W_run 1 [] [4] [] (fr' := [(4, aI (2 : Int))]) (L' := []) (obs := []) (by kernel_rfl) (by kernel_rfl) (by kernel_rfl) allP0 ?_
                refine seqQ_norm ?_
                obtain rfl := Option.some.inj h
                refine W_ret [4] [] (fr' := [(4, aI (2 : Int))]) (L' := []) (by kernel_rfl) (by kernel_rfl) ?_
                refine blockQ_ret ?_
                refine seqQ_ret ?_
                refine round_ret ?_
                refine escQ_ret ?_
                exact exQ_mk (by kernel_rfl) (by kernel_rfl)
              · replace h := ofF h122 h
                refine W_skip [0, 44, 45, 46] [] (fr' := [(0, aI a0), (44, aD (.slice (.pair (.slice tI) (.slice tI))) a1), (45, aI (List.length a1 : Int)), (46, aI i99)]) (L' := []) (by kernel_rfl) (by kernel_rfl) ?_
                refine blockQ_norm ?_
                refine seqQ_norm ?_
                obtain rfl := Option.some.inj h
                refine W_run 2 [] [0, 44, 45, 46] [] (fr' := [(0, aI a0), (44, aD (.slice (.pair (.slice tI) (.slice tI))) a1), (45, aI (List.length a1 : Int)), (46, aI (w64 (i99 + (1 : Int))))]) (L' := []) (obs := []) (by kernel_rfl) (by kernel_rfl) (by kernel_rfl) allP0 ?_
                exact round_next' (by kernel_rfl) (by kernel_rfl)
          · obtain rfl := stepL_false h104 h
            refine W_exit (id := 2) [] [] (fr' := []) (L' := []) (by kernel_rfl) (by kernel_rfl) ?_
            refine seqQ_exit ?_
            refine round_exit ?_
            refine escQ_brk ?_
            exact exQ_mk (by kernel_rfl) (by kernel_rfl)
        · intro e fr L hJ
          rcases v124 with v129 | v130
          · obtain ⟨rfl, rfl, rfl⟩ := hJ
            obtain rfl := Option.some.inj h
            refine LT_keep [4] [] (fr' := [(4, aI v129)]) (L' := []) (by kernel_rfl) ?_
            refine blockQ_ret ?_
            refine seqQ_ret ?_
            exact retQ_mk (by kernel_rfl) (by kernel_rfl) (by kernel_rfl)
          · obtain ⟨rfl, rfl, rfl⟩ := hJ
            refine LT_keep [] [] (fr' := []) (L' := []) (by kernel_rfl) ?_
            refine blockQ_hit ?_
            refine seqQ_norm ?_
            refine W_seq (by kernel_rfl) ?_
            refine W_run 1 [] [4] [] (fr' := [(4, aI (0 : Int))]) (L' := []) (obs := []) (by kernel_rfl) (by kernel_rfl) (by kernel_rfl) allP0 ?_
            refine seqQ_norm ?_
            obtain rfl := Option.some.inj h
            refine W_ret [4] [] (fr' := [(4, aI (0 : Int))]) (L' := []) (by kernel_rfl) (by kernel_rfl) ?_
            exact retQ_mk (by kernel_rfl) (by kernel_rfl) (by kernel_rfl)

def ref_Power_b1 (a0 : Int) (i5 : Int) (x6 : Int) : Option (Flow Int Int) :=
some (.next (w64 (x6 * a0)))
@[reducible] def ref_Power_s2 (a0 : Int) (a1 : Int) (v : Int × Int) : Fr × LL := ([(0, aI a0), (1, aI a1), (5, aI v.2), (6, aI v.1)], [])
@[reducible] def ref_Power_s3 (v : Int) : Fr × LL := ([(5, aI v)], [])
def ref_Power (a0 : Int) (a1 : Int) : Option Int :=
(forI (0 : Int) a1 (ref_Power_b1 a0) (fun x6 => x6) (1 : Int)).bind fun v10 =>
some v10
theorem ref_Power_ok {a0 : Int} {a1 : Int} {r : Int} (h : ref_Power a0 a1 = some r) : FnC Try.prog 39 [aI a0, aI a1] [] (aI r) [] := by
  refine fnC_of_W (B := bodyOf Try.f39) (n := 16) Try.func39 (by kernel_rfl) (by kernel_rfl) (by kernel_rfl) (by kernel_rfl) (by kernel_rfl) ?_
  intro K
  refine W_seq (by kernel_rfl) ?_
  refine W_run 1 [] [0, 1] [] (fr' := [(0, aI a0), (1, aI a1)]) (L' := []) (obs := []) (by kernel_rfl) (by kernel_rfl) (by kernel_rfl) allP0 ?_
  refine seqQ_norm ?_
  refine W_seq (by kernel_rfl) ?_
  refine W_run 1 [] [0, 1, 5] [] (fr' := [(0, aI a0), (1, aI a1), (5, aI (1 : Int))]) (L' := []) (obs := []) (by kernel_rfl) (by kernel_rfl) (by kernel_rfl) allP0 ?_
  refine seqQ_norm ?_
  refine W_seq (by kernel_rfl) ?_
  refine W_seq (by kernel_rfl) ?_
  refine W_run 1 [] [0, 1, 5, 6] [] (fr' := [(0, aI a0), (1, aI a1), (5, aI (1 : Int)), (6, aI (0 : Int))]) (L' := []) (obs := []) (by kernel_rfl) (by kernel_rfl) (by kernel_rfl) allP0 ?_
  refine seqQ_norm ?_
  refine W_block (id := 0) (by kernel_rfl) ?_
  obtain ⟨v10, h11, h⟩ := bind_of h
  obtain ⟨h12, h13⟩ := forI_iter h11
  refine W_weaken [0, 1, 5, 6] [] (fr' := ((ref_Power_s2 a0 a1) ((0 : Int), (1 : Int))).1) (L' := ((ref_Power_s2 a0 a1) ((0 : Int), (1 : Int))).2) (by kernel_rfl) ?_
  refine W_cutK (W_loop (S := (ref_Power_s2 a0 a1)) (J := (exQ (.exit 0) ref_Power_s3)) (by kernel_rfl) ?_ h12 _ v10 h13) ?_
  · rintro ⟨i5, x6⟩ s h
    refine W_seq (by kernel_rfl) ?_
    refine W_seq (by kernel_rfl) ?_
    refine W_run 3 [] [0, 1, 5, 6, 9] [] (fr' := [(0, aI a0), (1, aI a1), (5, aI x6), (6, aI i5), (9, aB (decide (i5 < a1)))]) (L' := []) (obs := []) (by kernel_rfl) (by kernel_rfl) (by kernel_rfl) allP0 ?_
    refine seqQ_norm ?_
    refine W_cond (o := .tmp 9) (b := decide (i5 < a1)) (by kernel_rfl) (by kernel_rfl) (fun h8 => ?_) (fun h8 => ?_)
    · replace h := stepI_true h8 h
      obtain ⟨_, h, rfl⟩ := h
      refine W_skip [0, 1, 5, 6] [] (fr' := [(0, aI a0), (1, aI a1), (5, aI x6), (6, aI i5)]) (L' := []) (by kernel_rfl) (by kernel_rfl) ?_
      refine seqQ_norm ?_
      refine W_seq (by kernel_rfl) ?_
      refine W_block (id := 1) (by kernel_rfl) ?_
      refine W_run 4 [] [0, 1, 5, 6] [] (fr' := [(0, aI a0), (1, aI a1), (5, aI (w64 (x6 * a0))), (6, aI i5)]) (L' := []) (obs := []) (by kernel_rfl) (by kernel_rfl) (by kernel_rfl) allP0 ?_
      refine blockQ_norm ?_
      refine seqQ_norm ?_
      obtain rfl := Option.some.inj h
      refine W_run 3 [] [0, 1, 5, 6] [] (fr' := [(0, aI a0), (1, aI a1), (5, aI (w64 (x6 * a0))), (6, aI (w64 (i5 + (1 : Int))))]) (L' := []) (obs := []) (by kernel_rfl) (by kernel_rfl) (by kernel_rfl) allP0 ?_
      exact round_next' (by kernel_rfl) (by kernel_rfl)
    · obtain rfl := stepI_false h8 h
      refine W_exit (id := 0) [5] [] (fr' := [(5, aI x6)]) (L' := []) (by kernel_rfl) (by kernel_rfl) ?_
      refine seqQ_exit ?_
      refine round_exit ?_
      exact exQ_mk (by kernel_rfl) (by kernel_rfl)
  · intro e fr L hJ
    obtain ⟨rfl, rfl, rfl⟩ := hJ
    refine LT_keep [5] [] (fr' := [(5, aI v10)]) (L' := []) (by kernel_rfl) ?_
    refine blockQ_hit ?_
    refine seqQ_norm ?_
    refine W_seq (by kernel_rfl) ?_
    refine W_run 2 [] [4] [] (fr' := [(4, aI v10)]) (L' := []) (obs := []) (by kernel_rfl) (by kernel_rfl) (by kernel_rfl) allP0 ?_
    refine seqQ_norm ?_
    obtain rfl := Option.some.inj h
    refine W_ret [4] [] (fr' := [(4, aI v10)]) (L' := []) (by kernel_rfl) (by kernel_rfl) ?_
    exact retQ_mk (by kernel_rfl) (by kernel_rfl) (by kernel_rfl)

def ref_Bit (a0 : Int) (a1 : Int) : Option Bool :=
bif (decide (a1 ≥ (0 : Int))) && (decide (a1 < (63 : Int))) then
((ck (0 ≤ IntKind.wrap .u64 (a1))).bind fun _ =>
some ((bAnd .i64 a0 (bShl .i64 (1 : Int) (IntKind.wrap .u64 (a1)))) != (0 : Int)))
else
(some false)
theorem ref_Bit_ok {a0 : Int} {a1 : Int} {r : Bool} (h : ref_Bit a0 a1 = some r) : FnC Try.prog 27 [aI a0, aI a1] [] (aB r) [] := by
  refine fnC_of_W (B := bodyOf Try.f27) (n := 19) Try.func27 (by kernel_rfl) (by kernel_rfl) (by kernel_rfl) (by kernel_rfl) (by kernel_rfl) ?_
  intro K
  refine W_seq (by kernel_rfl) ?_
  refine W_run 1 [] [0, 1] [] (fr' := [(0, aI a0), (1, aI a1)]) (L' := []) (obs := []) (by kernel_rfl) (by kernel_rfl) (by kernel_rfl) allP0 ?_
  refine seqQ_norm ?_
  refine W_seq (by kernel_rfl) ?_
  refine W_region (by kernel_rfl) ?_
  refine WO_run (j := 7) (k := 7) (orcs := []) (kF := [0, 1, 11]) (kL := []) (fr' := [(0, aI a0), (1, aI a1), (11, aB ((decide (a1 ≥ (0 : Int))) && (decide (a1 < (63 : Int)))))]) (L' := []) (obs := []) rfl (by kernel_rfl) allP0 ?_
  rcases Bool.eq_false_or_eq_true ((decide (a1 ≥ (0 : Int))) && (decide (a1 < (63 : Int)))) with h1 | h1
  · replace h := ofT h1 h
    obtain ⟨_, h2, h⟩ := bind_of h
    replace h2 := ck_some h2
    refine WO_run (j := 15) (k := 8) (orcs := [(14, .known true), (16, .known true), (18, .known true), (20, .known true), (22, .known true), (24, .known true), (27, .val (.dat .bool true))]) (kF := [4]) (kL := []) (fr' := [(4, aB ((bAnd .i64 a0 (bShl .i64 (1 : Int) (IntKind.wrap .u64 (a1)))) != (0 : Int)))]) (L' := []) (obs := [(((decide (a1 ≥ (0 : Int))) && (decide (a1 < (63 : Int)))) = true), (((decide (a1 ≥ (0 : Int))) && (decide (a1 < (63 : Int)))) = true), (((decide (a1 ≥ (0 : Int))) && (decide (a1 < (63 : Int)))) = true), (((decide (a1 ≥ (0 : Int))) && (decide (a1 < (63 : Int)))) = true), (0 ≤ IntKind.wrap .u64 (a1)), (((decide (a1 ≥ (0 : Int))) && (decide (a1 < (63 : Int)))) = true), (((decide (a1 ≥ (0 : Int))) && (decide (a1 < (63 : Int)))) = true), (((decide (a1 ≥ (0 : Int))) && (decide (a1 < (63 : Int)))) = true)]) rfl (by kernel_rfl) (allP2 h1 (allP2 h1 (allP2 h1 (allP2 h1 (allP2 h2 (allP2 h1 (allP2 h1 (allP1 h1)))))))) ?_
    refine WO_fin [4] [] (fr' := [(4, aB ((bAnd .i64 a0 (bShl .i64 (1 : Int) (IntKind.wrap .u64 (a1)))) != (0 : Int)))]) (L' := []) (by kernel_rfl) (by kernel_rfl) ?_
    refine seqQ_norm ?_
    obtain rfl := Option.some.inj h
    refine W_ret [4] [] (fr' := [(4, aB ((bAnd .i64 a0 (bShl .i64 (1 : Int) (IntKind.wrap .u64 (a1)))) != (0 : Int)))]) (L' := []) (by kernel_rfl) (by kernel_rfl) ?_
    exact retQ_mk (by kernel_rfl) (by kernel_rfl) (by kernel_rfl)
  · replace h := ofF h1 h
    refine WO_run (j := 15) (k := 8) (orcs := [(14, .known false), (16, .known false), (18, .known false), (20, .known false), (22, .known false), (24, .known false), (27, .val (.dat .bool false))]) (kF := [4]) (kL := []) (fr' := [(4, aB false)]) (L' := []) (obs := [(((decide (a1 ≥ (0 : Int))) && (decide (a1 < (63 : Int)))) = false), (((decide (a1 ≥ (0 : Int))) && (decide (a1 < (63 : Int)))) = false), (((decide (a1 ≥ (0 : Int))) && (decide (a1 < (63 : Int)))) = false), (((decide (a1 ≥ (0 : Int))) && (decide (a1 < (63 : Int)))) = false), (((decide (a1 ≥ (0 : Int))) && (decide (a1 < (63 : Int)))) = false), (((decide (a1 ≥ (0 : Int))) && (decide (a1 < (63 : Int)))) = false), (((decide (a1 ≥ (0 : Int))) && (decide (a1 < (63 : Int)))) = false)]) rfl (by kernel_rfl) (allP2 h1 (allP2 h1 (allP2 h1 (allP2 h1 (allP2 h1 (allP2 h1 (allP1 h1))))))) ?_
    refine WO_fin [4] [] (fr' := [(4, aB false)]) (L' := []) (by kernel_rfl) (by kernel_rfl) ?_
    refine seqQ_norm ?_
    obtain rfl := Option.some.inj h
    refine W_ret [4] [] (fr' := [(4, aB false)]) (L' := []) (by kernel_rfl) (by kernel_rfl) ?_
    exact retQ_mk (by kernel_rfl) (by kernel_rfl) (by kernel_rfl)

def ref_Bits_b1 (a1 : Int) (i10 : Int) (x11 : (List Bool)) : Option (Flow (List Bool) (List Bool)) :=
(ref_Bit a1 i10).bind fun r14 =>
(ck ((List.length x11 : Int) + 1 ≤ 4294967296)).bind fun _ =>
some (.next (x11 ++ [r14]))
@[reducible] def ref_Bits_s2 (a0 : Int) (a1 : Int) (v : Int × (List Bool)) : Fr × LL := ([(0, aI a0), (1, aI a1), (5, .one (.slc 17)), (6, aI v.1)], [(17, .seq .bool v.2)])
@[reducible] def ref_Bits_s3 (v : (List Bool)) : Fr × LL := ([(5, .one (.slc 17))], [(17, .seq .bool v)])
def ref_Bits (a0 : Int) (a1 : Int) : Option (List Bool) :=
(forI (0 : Int) a0 (ref_Bits_b1 a1) (fun x11 => x11) []).bind fun v18 =>
some v18
theorem ref_Bits_ok {a0 : Int} {a1 : Int} {r : (List Bool)} (h : ref_Bits a0 a1 = some r) : FnC Try.prog 17 [aI a0, aI a1] [] (aD (.slice .bool) r) [] := by
  refine fnC_of_W (B := bodyOf Try.f17) (n := 19) Try.func17 (by kernel_rfl) (by kernel_rfl) (by kernel_rfl) (by kernel_rfl) (by kernel_rfl) ?_
  intro K
  refine W_seq (by kernel_rfl) ?_
  refine W_run 1 [] [0, 1] [] (fr' := [(0, aI a0), (1, aI a1)]) (L' := []) (obs := []) (by kernel_rfl) (by kernel_rfl) (by kernel_rfl) allP0 ?_
  refine seqQ_norm ?_
  refine W_seq (by kernel_rfl) ?_
  refine W_run 1 [] [0, 1, 5] [] (fr' := [(0, aI a0), (1, aI a1), (5, .one (.nilS))]) (L' := []) (obs := []) (by kernel_rfl) (by kernel_rfl) (by kernel_rfl) allP0 ?_
  refine seqQ_norm ?_
  refine W_seq (by kernel_rfl) ?_
  refine W_seq (by kernel_rfl) ?_
  refine W_run 1 [] [0, 1, 5, 6] [] (fr' := [(0, aI a0), (1, aI a1), (5, .one (.nilS)), (6, aI (0 : Int))]) (L' := []) (obs := []) (by kernel_rfl) (by kernel_rfl) (by kernel_rfl) allP0 ?_
  refine seqQ_norm ?_
  refine W_block (id := 0) (by kernel_rfl) ?_
  obtain ⟨v18, h19, h⟩ := bind_of h
  obtain ⟨h20, h21⟩ := forI_iter h19
  refine W_mine 5 17 .bool (by kernel_rfl) ?_
  refine W_weaken [0, 1, 5, 6] [17] (fr' := ((ref_Bits_s2 a0 a1) ((0 : Int), [])).1) (L' := ((ref_Bits_s2 a0 a1) ((0 : Int), [])).2) (by kernel_rfl) ?_
  refine W_cutK (W_loop (S := (ref_Bits_s2 a0 a1)) (J := (exQ (.exit 0) ref_Bits_s3)) (by kernel_rfl) ?_ h20 _ v18 h21) ?_
  · rintro ⟨i10, x11⟩ s h
    refine W_seq (by kernel_rfl) ?_
    refine W_seq (by kernel_rfl) ?_
    refine W_run 3 [] [0, 1, 5, 6, 9] [17] (fr' := [(0, aI a0), (1, aI a1), (5, .one (.slc 17)), (6, aI i10), (9, aB (decide (i10 < a0)))]) (L' := [(17, .seq .bool x11)]) (obs := []) (by kernel_rfl) (by kernel_rfl) (by kernel_rfl) allP0 ?_
    refine seqQ_norm ?_
    refine W_cond (o := .tmp 9) (b := decide (i10 < a0)) (by kernel_rfl) (by kernel_rfl) (fun h13 => ?_) (fun h13 => ?_)
    · replace h := stepI_true h13 h
      obtain ⟨_, h, rfl⟩ := h
      refine W_skip [0, 1, 5, 6] [17] (fr' := [(0, aI a0), (1, aI a1), (5, .one (.slc 17)), (6, aI i10)]) (L' := [(17, .seq .bool x11)]) (by kernel_rfl) (by kernel_rfl) ?_
      refine seqQ_norm ?_
      refine W_seq (by kernel_rfl) ?_
      refine W_block (id := 1) (by kernel_rfl) ?_
      refine W_region (by kernel_rfl) ?_
      refine WO_run (j := 3) (k := 3) (orcs := []) (kF := [0, 1, 5, 6, 12, 13, 14]) (kL := [17]) (fr' := [(0, aI a0), (1, aI a1), (5, .one (.slc 17)), (6, aI i10), (12, .one (.slc 17)), (13, aI a1), (14, aI i10)]) (L' := [(17, .seq .bool x11)]) (obs := []) rfl (by kernel_rfl) allP0 ?_
      obtain ⟨r14, h15, h⟩ := bind_of h
      refine WO_call0 (us := [none, none]) (d := 15) (p := True) (j := 4) rfl ⟨by kernel_rfl, by kernel_rfl, by kernel_rfl⟩ trivial (ref_Bit_ok h15) (by kernel_rfl) ?_
      obtain ⟨_, h16, h⟩ := bind_of h
      replace h16 := ck_some h16
      refine WO_run (j := 7) (k := 3) (orcs := []) (kF := [0, 1, 5, 6]) (kL := [16, 17]) (fr' := [(0, aI a0), (1, aI a1), (5, .one (.slc 17)), (6, aI i10)]) (L' := [(16, .seq .bool [r14]), (17, .seq .bool (x11 ++ [r14]))]) (obs := [SmallLen (List.length x11 + List.length [r14])]) rfl (by kernel_rfl) (allP1 h16) ?_
      refine WO_fin [0, 1, 5, 6] [17] (fr' := [(0, aI a0), (1, aI a1), (5, .one (.slc 17)), (6, aI i10)]) (L' := [(17, .seq .bool (x11 ++ [r14]))]) (by kernel_rfl) (by kernel_rfl) ?_
      refine blockQ_norm ?_
      refine seqQ_norm ?_
      obtain rfl := Option.some.inj h
      refine W_run 3 [] [0, 1, 5, 6] [17] (fr' := [(0, aI a0), (1, aI a1), (5, .one (.slc 17)), (6, aI (w64 (i10 + (1 : Int))))]) (L' := [(17, .seq .bool (x11 ++ [r14]))]) (obs := []) (by kernel_rfl) (by kernel_rfl) (by kernel_rfl) allP0 ?_
      exact round_next' (by kernel_rfl) (by kernel_rfl)
    · obtain rfl := stepI_false h13 h
      refine W_exit (id := 0) [5] [17] (fr' := [(5, .one (.slc 17))]) (L' := [(17, .seq .bool x11)]) (by kernel_rfl) (by kernel_rfl) ?_
      refine seqQ_exit ?_
      refine round_exit ?_
      exact exQ_mk (by kernel_rfl) (by kernel_rfl)
  · intro e fr L hJ
    obtain ⟨rfl, rfl, rfl⟩ := hJ
    refine LT_keep [5] [17] (fr' := [(5, .one (.slc 17))]) (L' := [(17, .seq .bool v18)]) (by kernel_rfl) ?_
    refine blockQ_hit ?_
    refine seqQ_norm ?_
    refine W_seq (by kernel_rfl) ?_
    refine W_run 2 [] [4] [17] (fr' := [(4, .one (.slc 17))]) (L' := [(17, .seq .bool v18)]) (obs := []) (by kernel_rfl) (by kernel_rfl) (by kernel_rfl) allP0 ?_
    refine seqQ_norm ?_
    obtain rfl := Option.some.inj h
    refine W_frz 17 (by kernel_rfl) ?_
    refine W_ret [4] [] (fr' := [(4, aD (.slice .bool) v18)]) (L' := []) (by kernel_rfl) (by kernel_rfl) ?_
    exact retQ_mk (by kernel_rfl) (by kernel_rfl) (by kernel_rfl)

def ref_ClauseTrue_b1 (a1 : (List Bool)) (i15 : Int) (v18 : Int) (x16 : Unit) : Option (Flow Unit (Esc Bool Unit)) :=
(idx a1 v18).bind fun v21 =>
bif v21 then
(some (.done (.ret true)))
else
(some (.next ()))
@[reducible] def ref_ClauseTrue_s2 (a0 : ((List Int) × (List Int))) (a1 : (List Bool)) (v : Int × Unit) : Fr × LL := ([(1, aD (.slice .bool) a1), (2, .one (.ptr 2 0)), (10, aD (.slice tI) a0.1), (11, aI (List.length a0.1 : Int)), (12, aI v.1)], [(2, .one (.pair (.slice tI) (.slice tI)) a0)])
@[reducible] def ref_ClauseTrue_s3 (v : Bool) : Fr × LL := ([(4, aB v)], [])
@[reducible] def ref_ClauseTrue_s4 (a0 : ((List Int) × (List Int))) (a1 : (List Bool)) (v : Unit) : Fr × LL := ([(1, aD (.slice .bool) a1), (2, .one (.ptr 2 0))], [(2, .one (.pair (.slice tI) (.slice tI)) a0)])
def ref_ClauseTrue_b5 (a1 : (List Bool)) (i46 : Int) (v49 : Int) (x47 : Unit) : Option (Flow Unit (Esc Bool Unit)) :=
(idx a1 v49).bind fun v52 =>
bif !v52 then
(some (.done (.ret true)))
else
(some (.next ()))
@[reducible] def ref_ClauseTrue_s6 (a0 : ((List Int) × (List Int))) (a1 : (List Bool)) (v : Int × Unit) : Fr × LL := ([(1, aD (.slice .bool) a1), (22, aD (.slice tI) a0.2), (23, aI (List.length a0.2 : Int)), (24, aI v.1)], [])
@[reducible] def ref_ClauseTrue_s7 (v : Bool) : Fr × LL := ([(4, aB v)], [])
@[reducible] def ref_ClauseTrue_s8 (v : Unit) : Fr × LL := ([], [])
def ref_ClauseTrue (a0 : ((List Int) × (List Int))) (a1 : (List Bool)) : Option Bool :=
(forL (ref_ClauseTrue_b1 a1) (fun x16 => (.brk ())) a0.1 0 ()).bind fun v25 =>
match v25 with
| .ret v30 =>
(some v30)
| .brk v31 =>
((forL (ref_ClauseTrue_b5 a1) (fun x47 => (.brk ())) a0.2 0 ()).bind fun v56 =>
match v56 with
| .ret v61 =>
(some v61)
| .brk v62 =>
(some false))
theorem ref_ClauseTrue_ok {a0 : ((List Int) × (List Int))} {a1 : (List Bool)} {r : Bool} (h : ref_ClauseTrue a0 a1 = some r) : FnC Try.prog 49 [aD (.pair (.slice tI) (.slice tI)) a0, aD (.slice .bool) a1] [] (aB r) [] := by
  refine fnC_of_W (B := bodyOf Try.f49) (n := 34) Try.func49 (by kernel_rfl) (by kernel_rfl) (by kernel_rfl) (by kernel_rfl) (by kernel_rfl) ?_
  intro K
  refine W_seq (by kernel_rfl) ?_
  refine W_run 2 [] [1, 2] [2] (fr' := [(1, aD (.slice .bool) a1), (2, .one (.ptr 2 0))]) (L' := [(2, .one (.pair (.slice tI) (.slice tI)) a0)]) (obs := []) (by kernel_rfl) (by kernel_rfl) (by kernel_rfl) allP0 ?_
  refine seqQ_norm ?_
  refine W_seq (by kernel_rfl) ?_
  refine W_seq (by kernel_rfl) ?_
  refine W_run 4 [] [1, 2, 10, 11, 12] [2] (fr' := [(1, aD (.slice .bool) a1), (2, .one (.ptr 2 0)), (10, aD (.slice tI) a0.1), (11, aI (List.length a0.1 : Int)), (12, aI (0 : Int))]) (L' := [(2, .one (.pair (.slice tI) (.slice tI)) a0)]) (obs := []) (by kernel_rfl) (by kernel_rfl) (by kernel_rfl) allP0 ?_
  refine seqQ_norm ?_
  refine W_block (id := 0) (by kernel_rfl) ?_
  obtain ⟨v25, h26, h⟩ := bind_of h
  refine W_len (t := 10) (u := tI) (xs := a0.1) (by kernel_rfl) (fun h29 => ?_)
  obtain ⟨h27, h28⟩ := forL_iter h29 h26
  refine W_weaken [1, 2, 10, 11, 12] [2] (fr' := ((ref_ClauseTrue_s2 a0 a1) ((0 : Int), ())).1) (L' := ((ref_ClauseTrue_s2 a0 a1) ((0 : Int), ())).2) (by kernel_rfl) ?_
  refine W_cutK (W_loop (S := (ref_ClauseTrue_s2 a0 a1)) (J := (escQ (exQ .ret ref_ClauseTrue_s3) (exQ (.exit 0) (ref_ClauseTrue_s4 a0 a1)))) (by kernel_rfl) ?_ h27 _ v25 h28) ?_
  · rintro ⟨i15, x16⟩ s h
    refine W_seq (by kernel_rfl) ?_
    refine W_run 1 [] [1, 2, 10, 11, 12, 13] [2] (fr' := [(1, aD (.slice .bool) a1), (2, .one (.ptr 2 0)), (10, aD (.slice tI) a0.1), (11, aI (List.length a0.1 : Int)), (12, aI i15), (13, aB (decide (i15 < (List.length a0.1 : Int))))]) (L' := [(2, .one (.pair (.slice tI) (.slice tI)) a0)]) (obs := []) (by kernel_rfl) (by kernel_rfl) (by kernel_rfl) allP0 ?_
    refine seqQ_norm ?_
    refine W_seq (by kernel_rfl) ?_
    refine W_cond (o := .tmp 13) (b := decide (i15 < (List.length a0.1 : Int))) (by kernel_rfl) (by kernel_rfl) (fun h20 => ?_) (fun h20 => ?_)
    · replace h := stepL_true h20 h
      obtain ⟨v18, _, h19, h, rfl⟩ := h
      refine W_skip [1, 2, 10, 11, 12] [2] (fr' := [(1, aD (.slice .bool) a1), (2, .one (.ptr 2 0)), (10, aD (.slice tI) a0.1), (11, aI (List.length a0.1 : Int)), (12, aI i15)]) (L' := [(2, .one (.pair (.slice tI) (.slice tI)) a0)]) (by kernel_rfl) (by kernel_rfl) ?_
      refine seqQ_norm ?_
      refine W_seq (by kernel_rfl) ?_
      refine W_block (id := 1) (by kernel_rfl) ?_
      refine W_seq (by kernel_rfl) ?_
      refine W_run 3 [(1, .val (.dat tI v18))] [1, 2, 6, 10, 11, 12] [2] (fr' := [(1, aD (.slice .bool) a1), (2, .one (.ptr 2 0)), (6, aI v18), (10, aD (.slice tI) a0.1), (11, aI (List.length a0.1 : Int)), (12, aI i15)]) (L' := [(2, .one (.pair (.slice tI) (.slice tI)) a0)]) (obs := [Idx a0.1 i15 v18]) (by kernel_rfl) (by kernel_rfl) (by kernel_rfl) (allP1 (Idx.of h19)) ?_
      refine seqQ_norm ?_
      refine W_seq (by kernel_rfl) ?_
      obtain ⟨v21, h22, h⟩ := bind_of h
      refine W_run 4 [(5, .val (.dat .bool v21))] [1, 2, 10, 11, 12, 19] [2] (fr' := [(1, aD (.slice .bool) a1), (2, .one (.ptr 2 0)), (10, aD (.slice tI) a0.1), (11, aI (List.length a0.1 : Int)), (12, aI i15), (19, aB v21)]) (L' := [(2, .one (.pair (.slice tI) (.slice tI)) a0)]) (obs := [Idx a1 v18 v21]) (by kernel_rfl) (by kernel_rfl) (by kernel_rfl) (allP1 (Idx.of h22)) ?_
      refine seqQ_norm ?_
      refine W_cond (o := .tmp 19) (b := v21) (by kernel_rfl) (by kernel_rfl) (fun h23 => ?_) (fun h23 => ?_)
      · replace h := ofT h23 h
        refine W_seq (by kernel_rfl) ?_
        refine W_run 1 [] [4] [] (fr' := [(4, aB true)]) (L' := []) (obs := []) (by kernel_rfl) (by kernel_rfl) (by kernel_rfl) allP0 ?_
        refine seqQ_norm ?_
        obtain rfl := Option.some.inj h
        refine W_ret [4] [] (fr' := [(4, aB true)]) (L' := []) (by kernel_rfl) (by kernel_rfl) ?_
        refine blockQ_ret ?_
        refine seqQ_ret ?_
        refine round_ret ?_
        refine escQ_ret ?_
        exact exQ_mk (by kernel_rfl) (by kernel_rfl)
      · replace h := ofF h23 h
        refine W_skip [1, 2, 10, 11, 12] [2] (fr' := [(1, aD (.slice .bool) a1), (2, .one (.ptr 2 0)), (10, aD (.slice tI) a0.1), (11, aI (List.length a0.1 : Int)), (12, aI i15)]) (L' := [(2, .one (.pair (.slice tI) (.slice tI)) a0)]) (by kernel_rfl) (by kernel_rfl) ?_
        refine blockQ_norm ?_
        refine seqQ_norm ?_
        obtain rfl := Option.some.inj h
        refine W_run 2 [] [1, 2, 10, 11, 12] [2] (fr' := [(1, aD (.slice .bool) a1), (2, .one (.ptr 2 0)), (10, aD (.slice tI) a0.1), (11, aI (List.length a0.1 : Int)), (12, aI (w64 (i15 + (1 : Int))))]) (L' := [(2, .one (.pair (.slice tI) (.slice tI)) a0)]) (obs := []) (by kernel_rfl) (by kernel_rfl) (by kernel_rfl) allP0 ?_
        exact round_next' (by kernel_rfl) (by kernel_rfl)
    · obtain rfl := stepL_false h20 h
      refine W_exit (id := 0) [1, 2] [2] (fr' := [(1, aD (.slice .bool) a1), (2, .one (.ptr 2 0))]) (L' := [(2, .one (.pair (.slice tI) (.slice tI)) a0)]) (by kernel_rfl) (by kernel_rfl) ?_
      refine seqQ_exit ?_
      refine round_exit ?_
      refine escQ_brk ?_
      exact exQ_mk (by kernel_rfl) (by kernel_rfl)
  · intro e fr L hJ
    rcases v25 with v30 | v31
    · obtain ⟨rfl, rfl, rfl⟩ := hJ
      obtain rfl := Option.some.inj h
      refine LT_keep [4] [] (fr' := [(4, aB v30)]) (L' := []) (by kernel_rfl) ?_
      refine blockQ_ret ?_
      refine seqQ_ret ?_
      exact retQ_mk (by kernel_rfl) (by kernel_rfl) (by kernel_rfl)
    · obtain ⟨rfl, rfl, rfl⟩ := hJ
      refine LT_keep [1, 2] [2] (fr' := [(1, aD (.slice .bool) a1), (2, .one (.ptr 2 0))]) (L' := [(2, .one (.pair (.slice tI) (.slice tI)) a0)]) (by kernel_rfl) ?_
      refine blockQ_hit ?_
      refine seqQ_norm ?_
      refine W_seq (by kernel_rfl) ?_
      refine W_seq (by kernel_rfl) ?_
      refine W_run 4 [] [1, 22, 23, 24] [] (fr' := [(1, aD (.slice .bool) a1), (22, aD (.slice tI) a0.2), (23, aI (List.length a0.2 : Int)), (24, aI (0 : Int))]) (L' := []) (obs := []) (by kernel_rfl) (by kernel_rfl) (by kernel_rfl) allP0 ?_
      refine seqQ_norm ?_
      refine W_block (id := 2) (by kernel_rfl) ?_
      obtain ⟨v56, h57, h⟩ := bind_of h
      refine W_len (t := 22) (u := tI) (xs := a0.2) (by kernel_rfl) (fun h60 => ?_)
      obtain ⟨h58, h59⟩ := forL_iter h60 h57
      refine W_weaken [1, 22, 23, 24] [] (fr' := ((ref_ClauseTrue_s6 a0 a1) ((0 : Int), ())).1) (L' := ((ref_ClauseTrue_s6 a0 a1) ((0 : Int), ())).2) (by kernel_rfl) ?_
      refine W_cutK (W_loop (S := (ref_ClauseTrue_s6 a0 a1)) (J := (escQ (exQ .ret ref_ClauseTrue_s7) (exQ (.exit 2) ref_ClauseTrue_s8))) (by kernel_rfl) ?_ h58 _ v56 h59) ?_
      · rintro ⟨i46, x47⟩ s h
        refine W_seq (by kernel_rfl) ?_
        refine W_run 1 [] [1, 22, 23, 24, 25] [] (fr' := [(1, aD (.slice .bool) a1), (22, aD (.slice tI) a0.2), (23, aI (List.length a0.2 : Int)), (24, aI i46), (25, aB (decide (i46 < (List.length a0.2 : Int))))]) (L' := []) (obs := []) (by kernel_rfl) (by kernel_rfl) (by kernel_rfl) allP0 ?_
        refine seqQ_norm ?_
        refine W_seq (by kernel_rfl) ?_
        refine W_cond (o := .tmp 25) (b := decide (i46 < (List.length a0.2 : Int))) (by kernel_rfl) (by kernel_rfl) (fun h51 => ?_) (fun h51 => ?_)
        · replace h := stepL_true h51 h
          obtain ⟨v49, _, h50, h, rfl⟩ := h
          refine W_skip [1, 22, 23, 24] [] (fr' := [(1, aD (.slice .bool) a1), (22, aD (.slice tI) a0.2), (23, aI (List.length a0.2 : Int)), (24, aI i46)]) (L' := []) (by kernel_rfl) (by kernel_rfl) ?_
          refine seqQ_norm ?_
          refine W_seq (by kernel_rfl) ?_
          refine W_block (id := 3) (by kernel_rfl) ?_
          refine W_seq (by kernel_rfl) ?_
          refine W_run 3 [(1, .val (.dat tI v49))] [1, 8, 22, 23, 24] [] (fr' := [(1, aD (.slice .bool) a1), (8, aI v49), (22, aD (.slice tI) a0.2), (23, aI (List.length a0.2 : Int)), (24, aI i46)]) (L' := []) (obs := [Idx a0.2 i46 v49]) (by kernel_rfl) (by kernel_rfl) (by kernel_rfl) (allP1 (Idx.of h50)) ?_
          refine seqQ_norm ?_
          refine W_seq (by kernel_rfl) ?_
          obtain ⟨v52, h53, h⟩ := bind_of h
          refine W_run 5 [(5, .val (.dat .bool v52))] [1, 22, 23, 24, 32] [] (fr' := [(1, aD (.slice .bool) a1), (22, aD (.slice tI) a0.2), (23, aI (List.length a0.2 : Int)), (24, aI i46), (32, aB (!v52))]) (L' := []) (obs := [Idx a1 v49 v52]) (by kernel_rfl) (by kernel_rfl) (by kernel_rfl) (allP1 (Idx.of h53)) ?_
          refine seqQ_norm ?_
          refine W_cond (o := .tmp 32) (b := !v52) (by kernel_rfl) (by kernel_rfl) (fun h54 => ?_) (fun h54 => ?_)
          · replace h := ofT h54 h
            refine W_seq (by kernel_rfl) ?_
            refine W_run 1 [] [4] [] (fr' := [(4, aB true)]) (L' := []) (obs := []) (by kernel_rfl) (by kernel_rfl) (by kernel_rfl) allP0 ?_
            refine seqQ_norm ?_
            obtain rfl := Option.some.inj h
            refine W_ret [4] [] (fr' := [(4, aB true)]) (L' := []) (by kernel_rfl) (by kernel_rfl) ?_
            refine blockQ_ret ?_
            refine seqQ_ret ?_
            refine round_ret ?_
            refine escQ_ret ?_
            exact exQ_mk (by kernel_rfl) (by kernel_rfl)
          · replace h := ofF h54 h
            refine W_skip [1, 22, 23, 24] [] (fr' := [(1, aD (.slice .bool) a1), (22, aD (.slice tI) a0.2), (23, aI (List.length a0.2 : Int)), (24, aI i46)]) (L' := []) (by kernel_rfl) (by kernel_rfl) ?_
            refine blockQ_norm ?_
            refine seqQ_norm ?_
            obtain rfl := Option.some.inj h
            refine W_run 2 [] [1, 22, 23, 24] [] (fr' := [(1, aD (.slice .bool) a1), (22, aD (.slice tI) a0.2), (23, aI (List.length a0.2 : Int)), (24, aI (w64 (i46 + (1 : Int))))]) (L' := []) (obs := []) (by kernel_rfl) (by kernel_rfl) (by kernel_rfl) allP0 ?_
            exact round_next' (by kernel_rfl) (by kernel_rfl)
        · obtain rfl := stepL_false h51 h
          refine W_exit (id := 2) [] [] (fr' := []) (L' := []) (by kernel_rfl) (by kernel_rfl) ?_
          refine seqQ_exit ?_
          refine round_exit ?_
          refine escQ_brk ?_
          exact exQ_mk (by kernel_rfl) (by kernel_rfl)
      · intro e fr L hJ
        rcases v56 with v61 | v62
        · obtain ⟨rfl, rfl, rfl⟩ := hJ
          obtain rfl := Option.some.inj h
          refine LT_keep [4] [] (fr' := [(4, aB v61)]) (L' := []) (by kernel_rfl) ?_
          refine blockQ_ret ?_
          refine seqQ_ret ?_
          exact retQ_mk (by kernel_rfl) (by kernel_rfl) (by kernel_rfl)
        · obtain ⟨rfl, rfl, rfl⟩ := hJ
          refine LT_keep [] [] (fr' := []) (L' := []) (by kernel_rfl) ?_
          refine blockQ_hit ?_
          refine seqQ_norm ?_
          refine W_seq (by kernel_rfl) ?_
          refine W_run 1 [] [4] [] (fr' := [(4, aB false)]) (L' := []) (obs := []) (by kernel_rfl) (by kernel_rfl) (by kernel_rfl) allP0 ?_
          refine seqQ_norm ?_
          obtain rfl := Option.some.inj h
          refine W_ret [4] [] (fr' := [(4, aB false)]) (L' := []) (by kernel_rfl) (by kernel_rfl) ?_
          exact retQ_mk (by kernel_rfl) (by kernel_rfl) (by kernel_rfl)

def ref_True_b1 (a1 : (List Bool)) (i15 : Int) (v18 : ((List Int) × (List Int))) (x16 : Unit) : Option (Flow Unit (Esc Bool Unit)) :=
(ref_ClauseTrue v18 a1).bind fun r21 =>
bif !r21 then
(some (.done (.ret false)))
else
(some (.next ()))
@[reducible] def ref_True_s2 (a0 : (List ((List Int) × (List Int)))) (a1 : (List Bool)) (v : Int × Unit) : Fr × LL := ([(1, aD (.slice .bool) a1), (7, aD (.slice (.pair (.slice tI) (.slice tI))) a0), (8, aI (List.length a0 : Int)), (9, aI v.1)], [])
@[reducible] def ref_True_s3 (v : Bool) : Fr × LL := ([(4, aB v)], [])
@[reducible] def ref_True_s4 (v : Unit) : Fr × LL := ([], [])
def ref_True (a0 : (List ((List Int) × (List Int)))) (a1 : (List Bool)) : Option Bool :=
(forL (ref_True_b1 a1) (fun x16 => (.brk ())) a0 0 ()).bind fun v25 =>
match v25 with
| .ret v30 =>
(some v30)
| .brk v31 =>
(some true)
theorem ref_True_ok {a0 : (List ((List Int) × (List Int)))} {a1 : (List Bool)} {r : Bool} (h : ref_True a0 a1 = some r) : FnC Try.prog 23 [aD (.slice (.pair (.slice tI) (.slice tI))) a0, aD (.slice .bool) a1] [] (aB r) [] := by
  refine fnC_of_W (B := bodyOf Try.f23) (n := 18) Try.func23 (by kernel_rfl) (by kernel_rfl) (by kernel_rfl) (by kernel_rfl) (by kernel_rfl) ?_
  intro K
  refine W_seq (by kernel_rfl) ?_
  refine W_run 1 [] [0, 1] [] (fr' := [(0, aD (.slice (.pair (.slice tI) (.slice tI))) a0), (1, aD (.slice .bool) a1)]) (L' := []) (obs := []) (by kernel_rfl) (by kernel_rfl) (by kernel_rfl) allP0 ?_
  refine seqQ_norm ?_
  refine W_seq (by kernel_rfl) ?_
  refine W_seq (by kernel_rfl) ?_
  refine W_run 3 [] [1, 7, 8, 9] [] (fr' := [(1, aD (.slice .bool) a1), (7, aD (.slice (.pair (.slice tI) (.slice tI))) a0), (8, aI (List.length a0 : Int)), (9, aI (0 : Int))]) (L' := []) (obs := []) (by kernel_rfl) (by kernel_rfl) (by kernel_rfl) allP0 ?_
  refine seqQ_norm ?_
  refine W_block (id := 0) (by kernel_rfl) ?_
  obtain ⟨v25, h26, h⟩ := bind_of h
  refine W_len (t := 7) (u := (.pair (.slice tI) (.slice tI))) (xs := a0) (by kernel_rfl) (fun h29 => ?_)
  obtain ⟨h27, h28⟩ := forL_iter h29 h26
  refine W_weaken [1, 7, 8, 9] [] (fr' := ((ref_True_s2 a0 a1) ((0 : Int), ())).1) (L' := ((ref_True_s2 a0 a1) ((0 : Int), ())).2) (by kernel_rfl) ?_
  refine W_cutK (W_loop (S := (ref_True_s2 a0 a1)) (J := (escQ (exQ .ret ref_True_s3) (exQ (.exit 0) ref_True_s4))) (by kernel_rfl) ?_ h27 _ v25 h28) ?_
  · rintro ⟨i15, x16⟩ s h
    refine W_seq (by kernel_rfl) ?_
    refine W_run 1 [] [1, 7, 8, 9, 10] [] (fr' := [(1, aD (.slice .bool) a1), (7, aD (.slice (.pair (.slice tI) (.slice tI))) a0), (8, aI (List.length a0 : Int)), (9, aI i15), (10, aB (decide (i15 < (List.length a0 : Int))))]) (L' := []) (obs := []) (by kernel_rfl) (by kernel_rfl) (by kernel_rfl) allP0 ?_
    refine seqQ_norm ?_
    refine W_seq (by kernel_rfl) ?_
    refine W_cond (o := .tmp 10) (b := decide (i15 < (List.length a0 : Int))) (by kernel_rfl) (by kernel_rfl) (fun h20 => ?_) (fun h20 => ?_)
    · replace h := stepL_true h20 h
      obtain ⟨v18, _, h19, h, rfl⟩ := h
      refine W_skip [1, 7, 8, 9] [] (fr' := [(1, aD (.slice .bool) a1), (7, aD (.slice (.pair (.slice tI) (.slice tI))) a0), (8, aI (List.length a0 : Int)), (9, aI i15)]) (L' := []) (by kernel_rfl) (by kernel_rfl) ?_
      refine seqQ_norm ?_
      refine W_seq (by kernel_rfl) ?_
      refine W_block (id := 1) (by kernel_rfl) ?_
      refine W_seq (by kernel_rfl) ?_
      refine W_run 4 [(1, .val (.dat (.pair (.slice tI) (.slice tI)) v18)), (5, .typed)] [1, 6, 7, 8, 9] [6] (fr' := [(1, aD (.slice .bool) a1), (6, .one (.ptr 6 0)), (7, aD (.slice (.pair (.slice tI) (.slice tI))) a0), (8, aI (List.length a0 : Int)), (9, aI i15)]) (L' := [(6, .one (.pair (.slice tI) (.slice tI)) v18)]) (obs := [Idx a0 i15 v18, True]) (by kernel_rfl) (by kernel_rfl) (by kernel_rfl) (allP2 (Idx.of h19) (allP1 trivial)) ?_
      refine seqQ_norm ?_
      refine W_seq (by kernel_rfl) ?_
      refine W_region (by kernel_rfl) ?_
      refine WO_run (j := 2) (k := 2) (orcs := []) (kF := [1, 7, 8, 9, 13, 14]) (kL := [6]) (fr' := [(1, aD (.slice .bool) a1), (7, aD (.slice (.pair (.slice tI) (.slice tI))) a0), (8, aI (List.length a0 : Int)), (9, aI i15), (13, aD (.pair (.slice tI) (.slice tI)) v18), (14, aD (.slice .bool) a1)]) (L' := [(6, .one (.pair (.slice tI) (.slice tI)) v18)]) (obs := []) rfl (by kernel_rfl) allP0 ?_
      obtain ⟨r21, h22, h⟩ := bind_of h
      refine WO_call0 (us := [none, none]) (d := 15) (p := True) (j := 3) rfl ⟨by kernel_rfl, by kernel_rfl, by kernel_rfl⟩ trivial (ref_ClauseTrue_ok h22) (by kernel_rfl) ?_
      refine WO_run (j := 4) (k := 1) (orcs := []) (kF := [1, 7, 8, 9, 16]) (kL := [6]) (fr' := [(1, aD (.slice .bool) a1), (7, aD (.slice (.pair (.slice tI) (.slice tI))) a0), (8, aI (List.length a0 : Int)), (9, aI i15), (16, aB (!r21))]) (L' := [(6, .one (.pair (.slice tI) (.slice tI)) v18)]) (obs := []) rfl (by kernel_rfl) allP0 ?_
      refine WO_fin [1, 7, 8, 9, 16] [] (fr' := [(1, aD (.slice .bool) a1), (7, aD (.slice (.pair (.slice tI) (.slice tI))) a0), (8, aI (List.length a0 : Int)), (9, aI i15), (16, aB (!r21))]) (L' := []) (by kernel_rfl) (by kernel_rfl) ?_
      refine seqQ_norm ?_
      refine W_cond (o := .tmp 16) (b := !r21) (by kernel_rfl) (by kernel_rfl) (fun h23 => ?_) (fun h23 => ?_)
      · replace h := ofT h23 h
        refine W_seq (by kernel_rfl) ?_
        refine W_run 1 [] [4] [] (fr' := [(4, aB false)]) (L' := []) (obs := []) (by kernel_rfl) (by kernel_rfl) (by kernel_rfl) allP0 ?_
        refine seqQ_norm ?_
        obtain rfl := Option.some.inj h
        refine W_ret [4] [] (fr' := [(4, aB false)]) (L' := []) (by kernel_rfl) (by kernel_rfl) ?_
        refine blockQ_ret ?_
        refine seqQ_ret ?_
        refine round_ret ?_
        refine escQ_ret ?_
        exact exQ_mk (by kernel_rfl) (by kernel_rfl)
      · replace h := ofF h23 h
        refine W_skip [1, 7, 8, 9] [] (fr' := [(1, aD (.slice .bool) a1), (7, aD (.slice (.pair (.slice tI) (.slice tI))) a0), (8, aI (List.length a0 : Int)), (9, aI i15)]) (L' := []) (by kernel_rfl) (by kernel_rfl) ?_
        refine blockQ_norm ?_
        refine seqQ_norm ?_
        obtain rfl := Option.some.inj h
        refine W_run 2 [] [1, 7, 8, 9] [] (fr' := [(1, aD (.slice .bool) a1), (7, aD (.slice (.pair (.slice tI) (.slice tI))) a0), (8, aI (List.length a0 : Int)), (9, aI (w64 (i15 + (1 : Int))))]) (L' := []) (obs := []) (by kernel_rfl) (by kernel_rfl) (by kernel_rfl) allP0 ?_
        exact round_next' (by kernel_rfl) (by kernel_rfl)
    · obtain rfl := stepL_false h20 h
      refine W_exit (id := 0) [] [] (fr' := []) (L' := []) (by kernel_rfl) (by kernel_rfl) ?_
      refine seqQ_exit ?_
      refine round_exit ?_
      refine escQ_brk ?_
      exact exQ_mk (by kernel_rfl) (by kernel_rfl)
  · intro e fr L hJ
    rcases v25 with v30 | v31
    · obtain ⟨rfl, rfl, rfl⟩ := hJ
      obtain rfl := Option.some.inj h
      refine LT_keep [4] [] (fr' := [(4, aB v30)]) (L' := []) (by kernel_rfl) ?_
      refine blockQ_ret ?_
      refine seqQ_ret ?_
      exact retQ_mk (by kernel_rfl) (by kernel_rfl) (by kernel_rfl)
    · obtain ⟨rfl, rfl, rfl⟩ := hJ
      refine LT_keep [] [] (fr' := []) (L' := []) (by kernel_rfl) ?_
      refine blockQ_hit ?_
      refine seqQ_norm ?_
      refine W_seq (by kernel_rfl) ?_
      refine W_run 1 [] [4] [] (fr' := [(4, aB true)]) (L' := []) (obs := []) (by kernel_rfl) (by kernel_rfl) (by kernel_rfl) allP0 ?_
      refine seqQ_norm ?_
      obtain rfl := Option.some.inj h
      refine W_ret [4] [] (fr' := [(4, aB true)]) (L' := []) (by kernel_rfl) (by kernel_rfl) ?_
      exact retQ_mk (by kernel_rfl) (by kernel_rfl) (by kernel_rfl)

@[reducible] def ref_Many_s3 (a0 : Int) (a1 : (List ((List Int) × (List Int)))) (x21 : (Int × Int)) (v : Int) : Fr × LL := ([(0, aI a0), (1, aD (.slice (.pair (.slice tI) (.slice tI))) a1), (5, aI v), (6, aI x21.2)], [])
def ref_Many_b4 (a0 : Int) (a1 : (List ((List Int) × (List Int)))) (x21 : (Int × Int)) : Option (Flow (Int × Int) Int) :=
(ck (0 ≤ IntKind.wrap .u64 (a0))).bind fun _ =>
bif decide (x21.2 < (bShl .i64 (1 : Int) (IntKind.wrap .u64 (a0)))) then
(((ref_Bits a0 x21.2).bind fun r53 =>
(ref_True a1 r53).bind fun r55 =>
bif r55 then
(some (w64 (x21.1 + (1 : Int))))
else
(some x21.1)).bind fun v58 =>
some (.next (v58, w64 (x21.2 + (1 : Int)))))
else
(some (.done x21.1))
@[reducible] def ref_Many_s5 (a0 : Int) (a1 : (List ((List Int) × (List Int)))) (v : (Int × Int)) : Fr × LL := ([(0, aI a0), (1, aD (.slice (.pair (.slice tI) (.slice tI))) a1), (5, aI v.1), (6, aI v.2)], [])
@[reducible] def ref_Many_s6 (v : Int) : Fr × LL := ([(5, aI v)], [])
def ref_Many (fuel : Nat) (a0 : Int) (a1 : (List ((List Int) × (List Int)))) : Option Int :=
(iter (ref_Many_b4 a0 a1) fuel ((0 : Int), (0 : Int))).bind fun v60 =>
some v60
theorem ref_Many_ok {fuel : Nat} {a0 : Int} {a1 : (List ((List Int) × (List Int)))} {r : Int} (h : ref_Many fuel a0 a1 = some r) : FnC Try.prog 40 [aI a0, aD (.slice (.pair (.slice tI) (.slice tI))) a1] [] (aI r) [] := by
  refine fnC_of_W (B := bodyOf Try.f40) (n := 22) Try.func40 (by kernel_rfl) (by kernel_rfl) (by kernel_rfl) (by kernel_rfl) (by kernel_rfl) ?_
  intro K
  refine W_seq (by kernel_rfl) ?_
  refine W_run 1 [] [0, 1] [] (fr' := [(0, aI a0), (1, aD (.slice (.pair (.slice tI) (.slice tI))) a1)]) (L' := []) (obs := []) (by kernel_rfl) (by kernel_rfl) (by kernel_rfl) allP0 ?_
  refine seqQ_norm ?_
  refine W_seq (by kernel_rfl) ?_
  refine W_run 1 [] [0, 1, 5] [] (fr' := [(0, aI a0), (1, aD (.slice (.pair (.slice tI) (.slice tI))) a1), (5, aI (0 : Int))]) (L' := []) (obs := []) (by kernel_rfl) (by kernel_rfl) (by kernel_rfl) allP0 ?_
  refine seqQ_norm ?_
  refine W_seq (by kernel_rfl) ?_
  refine W_seq (by kernel_rfl) ?_
  refine W_run 1 [] [0, 1, 5, 6] [] (fr' := [(0, aI a0), (1, aD (.slice (.pair (.slice tI) (.slice tI))) a1), (5, aI (0 : Int)), (6, aI (0 : Int))]) (L' := []) (obs := []) (by kernel_rfl) (by kernel_rfl) (by kernel_rfl) allP0 ?_
  refine seqQ_norm ?_
  refine W_block (id := 0) (by kernel_rfl) ?_
  obtain ⟨v60, h61, h⟩ := bind_of h
  refine W_weaken [0, 1, 5, 6] [] (fr' := ((ref_Many_s5 a0 a1) ((0 : Int), (0 : Int))).1) (L' := ((ref_Many_s5 a0 a1) ((0 : Int), (0 : Int))).2) (by kernel_rfl) ?_
  refine W_cutK (W_loop (S := (ref_Many_s5 a0 a1)) (J := (exQ (.exit 0) ref_Many_s6)) (by kernel_rfl) ?_ fuel _ v60 h61) ?_
  · rintro x21 s h
    refine W_seq (by kernel_rfl) ?_
    refine W_seq (by kernel_rfl) ?_
    obtain ⟨_, h41, h⟩ := bind_of h
    replace h41 := ck_some h41
    refine W_run 5 [] [0, 1, 5, 6, 11] [] (fr' := [(0, aI a0), (1, aD (.slice (.pair (.slice tI) (.slice tI))) a1), (5, aI x21.1), (6, aI x21.2), (11, aB (decide (x21.2 < (bShl .i64 (1 : Int) (IntKind.wrap .u64 (a0))))))]) (L' := []) (obs := [(0 ≤ IntKind.wrap .u64 (a0))]) (by kernel_rfl) (by kernel_rfl) (by kernel_rfl) (allP1 h41) ?_
    refine seqQ_norm ?_
    refine W_cond (o := .tmp 11) (b := decide (x21.2 < (bShl .i64 (1 : Int) (IntKind.wrap .u64 (a0))))) (by kernel_rfl) (by kernel_rfl) (fun h42 => ?_) (fun h42 => ?_)
    · replace h := ofT h42 h
      refine W_skip [0, 1, 5, 6] [] (fr' := [(0, aI a0), (1, aD (.slice (.pair (.slice tI) (.slice tI))) a1), (5, aI x21.1), (6, aI x21.2)]) (L' := []) (by kernel_rfl) (by kernel_rfl) ?_
      refine seqQ_norm ?_
      refine W_seq (by kernel_rfl) ?_
      obtain ⟨v58, h59, h⟩ := bind_of h
      refine W_cutK (Q' := (exQ .normal (ref_Many_s3 a0 a1 x21)) v58) ?_ ?_
      · replace h := h59
        refine W_block (id := 1) (by kernel_rfl) ?_
        refine W_seq (by kernel_rfl) ?_
        refine W_region (by kernel_rfl) ?_
        refine WO_run (j := 3) (k := 3) (orcs := []) (kF := [0, 1, 5, 6, 14, 15, 16]) (kL := []) (fr' := [(0, aI a0), (1, aD (.slice (.pair (.slice tI) (.slice tI))) a1), (5, aI x21.1), (6, aI x21.2), (14, aD (.slice (.pair (.slice tI) (.slice tI))) a1), (15, aI a0), (16, aI x21.2)]) (L' := []) (obs := []) rfl (by kernel_rfl) allP0 ?_
        obtain ⟨r53, h54, h⟩ := bind_of h
        refine WO_call0 (us := [none, none]) (d := 17) (p := True) (j := 4) rfl ⟨by kernel_rfl, by kernel_rfl, by kernel_rfl⟩ trivial (ref_Bits_ok h54) (by kernel_rfl) ?_
        obtain ⟨r55, h56, h⟩ := bind_of h
        refine WO_call0 (us := [none, none]) (d := 18) (p := True) (j := 5) rfl ⟨by kernel_rfl, by kernel_rfl, by kernel_rfl⟩ trivial (ref_True_ok h56) (by kernel_rfl) ?_
        refine WO_fin [0, 1, 5, 6, 18] [] (fr' := [(0, aI a0), (1, aD (.slice (.pair (.slice tI) (.slice tI))) a1), (5, aI x21.1), (6, aI x21.2), (18, aB r55)]) (L' := []) (by kernel_rfl) (by kernel_rfl) ?_
        refine seqQ_norm ?_
        refine W_cond (o := .tmp 18) (b := r55) (by kernel_rfl) (by kernel_rfl) (fun h57 => ?_) (fun h57 => ?_)
        · replace h := ofT h57 h
          obtain rfl := Option.some.inj h
          refine W_run 3 [] [0, 1, 5, 6] [] (fr' := [(0, aI a0), (1, aD (.slice (.pair (.slice tI) (.slice tI))) a1), (5, aI (w64 (x21.1 + (1 : Int)))), (6, aI x21.2)]) (L' := []) (obs := []) (by kernel_rfl) (by kernel_rfl) (by kernel_rfl) allP0 ?_
          refine blockQ_norm ?_
          exact exQ_mk (by kernel_rfl) (by kernel_rfl)
        · replace h := ofF h57 h
          obtain rfl := Option.some.inj h
          refine W_skip [0, 1, 5, 6] [] (fr' := [(0, aI a0), (1, aD (.slice (.pair (.slice tI) (.slice tI))) a1), (5, aI x21.1), (6, aI x21.2)]) (L' := []) (by kernel_rfl) (by kernel_rfl) ?_
          refine blockQ_norm ?_
          exact exQ_mk (by kernel_rfl) (by kernel_rfl)
      · intro e fr L hJ
        obtain ⟨rfl, rfl, rfl⟩ := hJ
        refine LT_keep [0, 1, 5, 6] [] (fr' := [(0, aI a0), (1, aD (.slice (.pair (.slice tI) (.slice tI))) a1), (5, aI v58), (6, aI x21.2)]) (L' := []) (by kernel_rfl) ?_
        refine seqQ_norm ?_
        obtain rfl := Option.some.inj h
        refine W_run 3 [] [0, 1, 5, 6] [] (fr' := [(0, aI a0), (1, aD (.slice (.pair (.slice tI) (.slice tI))) a1), (5, aI v58), (6, aI (w64 (x21.2 + (1 : Int))))]) (L' := []) (obs := []) (by kernel_rfl) (by kernel_rfl) (by kernel_rfl) allP0 ?_
        exact round_next' (by kernel_rfl) (by kernel_rfl)
    · replace h := ofF h42 h
      obtain rfl := Option.some.inj h
      refine W_exit (id := 0) [5] [] (fr' := [(5, aI x21.1)]) (L' := []) (by kernel_rfl) (by kernel_rfl) ?_
      refine seqQ_exit ?_
      refine round_exit ?_
      exact exQ_mk (by kernel_rfl) (by kernel_rfl)
  · intro e fr L hJ
    obtain ⟨rfl, rfl, rfl⟩ := hJ
    refine LT_keep [5] [] (fr' := [(5, aI v60)]) (L' := []) (by kernel_rfl) ?_
    refine blockQ_hit ?_
    refine seqQ_norm ?_
    refine W_seq (by kernel_rfl) ?_
    refine W_run 2 [] [4] [] (fr' := [(4, aI v60)]) (L' := []) (obs := []) (by kernel_rfl) (by kernel_rfl) (by kernel_rfl) allP0 ?_
    refine seqQ_norm ?_
    obtain rfl := Option.some.inj h
    refine W_ret [4] [] (fr' := [(4, aI v60)]) (L' := []) (by kernel_rfl) (by kernel_rfl) ?_
    exact retQ_mk (by kernel_rfl) (by kernel_rfl) (by kernel_rfl)

@[reducible] def law_HardWeights_s3 (a0 : Int) (a1 : (List ((List Int) × (List Int)))) (r1 : ((List Int) × Int × Int)) (i44 : Int) (v : Bool) : Fr × LL := ([(0, aI a0), (1, aD (.slice (.pair (.slice tI) (.slice tI))) a1), (5, aD (.slice tI) r1.1), (6, aI r1.2.1), (62, aD (.slice tI) r1.1), (63, aI (List.length r1.1 : Int)), (64, aI i44), (78, aB v)], [])
def law_HardWeights_b4 (a0 : Int) (a1 : (List ((List Int) × (List Int)))) (i44 : Int) (v47 : Int) (x45 : Unit) : Option (Flow Unit (Esc Bool Unit)) :=
(bif decide (v47 < (0 : Int)) then
(some true)
else
((ref_Power (10 : Int) (w64 (a0 + (List.length a1 : Int)))).bind fun r57 =>
some (decide (v47 ≥ r57)))).bind fun v59 =>
bif v59 then
(some (.done (.ret false)))
else
(some (.next ()))
@[reducible] def law_HardWeights_s5 (a0 : Int) (a1 : (List ((List Int) × (List Int)))) (r1 : ((List Int) × Int × Int)) (v : Int × Unit) : Fr × LL := ([(0, aI a0), (1, aD (.slice (.pair (.slice tI) (.slice tI))) a1), (5, aD (.slice tI) r1.1), (6, aI r1.2.1), (62, aD (.slice tI) r1.1), (63, aI (List.length r1.1 : Int)), (64, aI v.1)], [])
@[reducible] def law_HardWeights_s6 (v : Bool) : Fr × LL := ([(4, aB v)], [])
@[reducible] def law_HardWeights_s7 (a0 : Int) (a1 : (List ((List Int) × (List Int)))) (r1 : ((List Int) × Int × Int)) (v : Unit) : Fr × LL := ([(0, aI a0), (1, aD (.slice (.pair (.slice tI) (.slice tI))) a1), (5, aD (.slice tI) r1.1), (6, aI r1.2.1)], [])
@[reducible] def law_HardWeights_s22 (a0 : Int) (a1 : (List ((List Int) × (List Int)))) (r1 : ((List Int) × Int × Int)) (x134 : (Bool × Int)) (i238 : Int) (v : Int) : Fr × LL := ([(0, aI a0), (1, aD (.slice (.pair (.slice tI) (.slice tI))) a1), (5, aD (.slice tI) r1.1), (6, aI r1.2.1), (11, aB x134.1), (12, aI x134.2), (13, aI v), (88, aD (.slice tI) r1.1), (89, aI (List.length r1.1 : Int)), (90, aI i238)], [])
def law_HardWeights_b23 (x134 : (Bool × Int)) (i238 : Int) (v241 : Int) (x239 : Int) : Option (Flow Int Int) :=
((ref_Bit x134.2 i238).bind fun r250 =>
bif r250 then
(some (w64 (x239 + v241)))
else
(some x239)).bind fun v253 =>
some (.next v253)
@[reducible] def law_HardWeights_s24 (a0 : Int) (a1 : (List ((List Int) × (List Int)))) (r1 : ((List Int) × Int × Int)) (x134 : (Bool × Int)) (v : Int × Int) : Fr × LL := ([(0, aI a0), (1, aD (.slice (.pair (.slice tI) (.slice tI))) a1), (5, aD (.slice tI) r1.1), (6, aI r1.2.1), (11, aB x134.1), (12, aI x134.2), (13, aI v.2), (88, aD (.slice tI) r1.1), (89, aI (List.length r1.1 : Int)), (90, aI v.1)], [])
@[reducible] def law_HardWeights_s25 (a0 : Int) (a1 : (List ((List Int) × (List Int)))) (r1 : ((List Int) × Int × Int)) (x134 : (Bool × Int)) (v : Int) : Fr × LL := ([(0, aI a0), (1, aD (.slice (.pair (.slice tI) (.slice tI))) a1), (5, aD (.slice tI) r1.1), (6, aI r1.2.1), (11, aB x134.1), (12, aI x134.2), (13, aI v)], [])
def law_HardWeights_b26 (r1 : ((List Int) × Int × Int)) (x134 : (Bool × Int)) : Option (Flow (Bool × Int) Bool) :=
(ck (0 ≤ IntKind.wrap .u64 ((List.length r1.1 : Int)))).bind fun _ =>
bif decide (x134.2 < (bShl .i64 (1 : Int) (IntKind.wrap .u64 ((List.length r1.1 : Int))))) then
((forL (law_HardWeights_b23 x134) (fun x239 => x239) r1.1 0 (0 : Int)).bind fun v256 =>
some (.next (x134.1 || (v256 == r1.2.1), w64 (x134.2 + (1 : Int)))))
else
(some (.done x134.1))
@[reducible] def law_HardWeights_s27 (a0 : Int) (a1 : (List ((List Int) × (List Int)))) (r1 : ((List Int) × Int × Int)) (v : (Bool × Int)) : Fr × LL := ([(0, aI a0), (1, aD (.slice (.pair (.slice tI) (.slice tI))) a1), (5, aD (.slice tI) r1.1), (6, aI r1.2.1), (11, aB v.1), (12, aI v.2)], [])
@[reducible] def law_HardWeights_s28 (a0 : Int) (a1 : (List ((List Int) × (List Int)))) (v : Bool) : Fr × LL := ([(0, aI a0), (1, aD (.slice (.pair (.slice tI) (.slice tI))) a1), (11, aB v)], [])
@[reducible] def law_HardWeights_s29 (a0 : Int) (a1 : (List ((List Int) × (List Int)))) (r1 : ((List Int) × Int × Int)) (v : Int) : Fr × LL := ([(0, aI a0), (1, aD (.slice (.pair (.slice tI) (.slice tI))) a1), (5, aD (.slice tI) r1.1), (6, aI r1.2.1), (7, aI r1.2.2), (8, aI v)], [])
def law_HardWeights (fuel : Nat) (a0 : Int) (a1 : (List ((List Int) × (List Int)))) : Option Bool :=
(hard_Weights a0 a1).bind fun r1 =>
(ref_HardCheck a0 a1).bind fun r3 =>
(bif (r3 == (0 : Int)) && (decide ((w64 (a0 + (List.length a1 : Int))) > (5 : Int))) then
(some (1 : Int))
else
(some r3)).bind fun v8 =>
bif v8 != (0 : Int) then
(some (((r1.2.2 == v8) && ((List.length r1.1 : Int) == (0 : Int))) && (r1.2.1 == (0 : Int))))
else
(bif (r1.2.2 != (0 : Int)) || ((List.length r1.1 : Int) != (w64 ((w64 ((2 : Int) * a0)) + (w64 ((2 : Int) * (List.length a1 : Int)))))) then
(some false)
else
((forL (law_HardWeights_b4 a0 a1) (fun x45 => (.brk ())) r1.1 0 ()).bind fun v63 =>
match v63 with
| .ret v68 =>
(some v68)
| .brk v69 =>
((iter (law_HardWeights_b26 r1) fuel (false, (0 : Int))).bind fun v261 =>
(ref_Many fuel a0 a1).bind fun r265 =>
some (v261 == (decide (r265 > (0 : Int)))))))
theorem law_HardWeights_ok {fuel : Nat} {a0 : Int} {a1 : (List ((List Int) × (List Int)))} {r : Bool} (h : law_HardWeights fuel a0 a1 = some r) : FnC Try.prog 10 [aI a0, aD (.slice (.pair (.slice tI) (.slice tI))) a1] [] (aB r) [] := by
  refine fnC_of_W (B := bodyOf Try.f10) (n := 114) Try.func10 (by kernel_rfl) (by kernel_rfl) (by kernel_rfl) (by kernel_rfl) (by kernel_rfl) ?_
  intro K
  refine W_seq (by kernel_rfl) ?_
  refine W_run 1 [] [0, 1] [] (fr' := [(0, aI a0), (1, aD (.slice (.pair (.slice tI) (.slice tI))) a1)]) (L' := []) (obs := []) (by kernel_rfl) (by kernel_rfl) (by kernel_rfl) allP0 ?_
  refine seqQ_norm ?_
  refine W_seq (by kernel_rfl) ?_
  refine W_region (by kernel_rfl) ?_
  refine WO_run (j := 2) (k := 2) (orcs := []) (kF := [0, 1, 17, 18]) (kL := []) (fr' := [(0, aI a0), (1, aD (.slice (.pair (.slice tI) (.slice tI))) a1), (17, aI a0), (18, aD (.slice (.pair (.slice tI) (.slice tI))) a1)]) (L' := []) (obs := []) rfl (by kernel_rfl) allP0 ?_
  obtain ⟨r1, h2, h⟩ := bind_of h
  refine WO_call0 (us := [none, none]) (d := 19) (p := True) (j := 3) rfl ⟨by kernel_rfl, by kernel_rfl, by kernel_rfl⟩ trivial (hard_Weights_ok h2) (by kernel_rfl) ?_
  refine WO_run (j := 10) (k := 7) (orcs := []) (kF := [0, 1, 5, 6, 7]) (kL := []) (fr' := [(0, aI a0), (1, aD (.slice (.pair (.slice tI) (.slice tI))) a1), (5, aD (.slice tI) r1.1), (6, aI r1.2.1), (7, aI r1.2.2)]) (L' := []) (obs := []) rfl (by kernel_rfl) allP0 ?_
  refine WO_fin [0, 1, 5, 6, 7] [] (fr' := [(0, aI a0), (1, aD (.slice (.pair (.slice tI) (.slice tI))) a1), (5, aD (.slice tI) r1.1), (6, aI r1.2.1), (7, aI r1.2.2)]) (L' := []) (by kernel_rfl) (by kernel_rfl) ?_
  refine seqQ_norm ?_
  refine W_seq (by kernel_rfl) ?_
  refine W_region (by kernel_rfl) ?_
  refine WO_run (j := 2) (k := 2) (orcs := []) (kF := [0, 1, 5, 6, 7, 23, 24]) (kL := []) (fr' := [(0, aI a0), (1, aD (.slice (.pair (.slice tI) (.slice tI))) a1), (5, aD (.slice tI) r1.1), (6, aI r1.2.1), (7, aI r1.2.2), (23, aI a0), (24, aD (.slice (.pair (.slice tI) (.slice tI))) a1)]) (L' := []) (obs := []) rfl (by kernel_rfl) allP0 ?_
  obtain ⟨r3, h4, h⟩ := bind_of h
  refine WO_call0 (us := [none, none]) (d := 25) (p := True) (j := 3) rfl ⟨by kernel_rfl, by kernel_rfl, by kernel_rfl⟩ trivial (ref_HardCheck_ok h4) (by kernel_rfl) ?_
  refine WO_run (j := 4) (k := 1) (orcs := []) (kF := [0, 1, 5, 6, 7, 8]) (kL := []) (fr' := [(0, aI a0), (1, aD (.slice (.pair (.slice tI) (.slice tI))) a1), (5, aD (.slice tI) r1.1), (6, aI r1.2.1), (7, aI r1.2.2), (8, aI r3)]) (L' := []) (obs := []) rfl (by kernel_rfl) allP0 ?_
  refine WO_fin [0, 1, 5, 6, 7, 8] [] (fr' := [(0, aI a0), (1, aD (.slice (.pair (.slice tI) (.slice tI))) a1), (5, aD (.slice tI) r1.1), (6, aI r1.2.1), (7, aI r1.2.2), (8, aI r3)]) (L' := []) (by kernel_rfl) (by kernel_rfl) ?_
  refine seqQ_norm ?_
  refine W_seq (by kernel_rfl) ?_
  obtain ⟨v8, h9, h⟩ := bind_of h
  refine W_cutK (Q' := (exQ .normal (law_HardWeights_s29 a0 a1 r1)) v8) ?_ ?_
  · replace h := h9
    refine W_seq (by kernel_rfl) ?_
    refine W_run 9 [] [0, 1, 5, 6, 7, 8, 34] [] (fr' := [(0, aI a0), (1, aD (.slice (.pair (.slice tI) (.slice tI))) a1), (5, aD (.slice tI) r1.1), (6, aI r1.2.1), (7, aI r1.2.2), (8, aI r3), (34, aB ((r3 == (0 : Int)) && (decide ((w64 (a0 + (List.length a1 : Int))) > (5 : Int)))))]) (L' := []) (obs := []) (by kernel_rfl) (by kernel_rfl) (by kernel_rfl) allP0 ?_
    refine seqQ_norm ?_
    refine W_cond (o := .tmp 34) (b := (r3 == (0 : Int)) && (decide ((w64 (a0 + (List.length a1 : Int))) > (5 : Int)))) (by kernel_rfl) (by kernel_rfl) (fun h7 => ?_) (fun h7 => ?_)
    · replace h := ofT h7 h
      obtain rfl := Option.some.inj h
      refine W_run 1 [] [0, 1, 5, 6, 7, 8] [] (fr' := [(0, aI a0), (1, aD (.slice (.pair (.slice tI) (.slice tI))) a1), (5, aD (.slice tI) r1.1), (6, aI r1.2.1), (7, aI r1.2.2), (8, aI (1 : Int))]) (L' := []) (obs := []) (by kernel_rfl) (by kernel_rfl) (by kernel_rfl) allP0 ?_
      exact exQ_mk (by kernel_rfl) (by kernel_rfl)
    · replace h := ofF h7 h
      obtain rfl := Option.some.inj h
      refine W_skip [0, 1, 5, 6, 7, 8] [] (fr' := [(0, aI a0), (1, aD (.slice (.pair (.slice tI) (.slice tI))) a1), (5, aD (.slice tI) r1.1), (6, aI r1.2.1), (7, aI r1.2.2), (8, aI r3)]) (L' := []) (by kernel_rfl) (by kernel_rfl) ?_
      exact exQ_mk (by kernel_rfl) (by kernel_rfl)
  · intro e fr L hJ
    obtain ⟨rfl, rfl, rfl⟩ := hJ
    refine LT_keep [0, 1, 5, 6, 7, 8] [] (fr' := [(0, aI a0), (1, aD (.slice (.pair (.slice tI) (.slice tI))) a1), (5, aD (.slice tI) r1.1), (6, aI r1.2.1), (7, aI r1.2.2), (8, aI v8)]) (L' := []) (by kernel_rfl) ?_
    refine seqQ_norm ?_
    refine W_seq (by kernel_rfl) ?_
    refine W_seq (by kernel_rfl) ?_
    refine W_run 2 [] [0, 1, 5, 6, 7, 8, 36] [] (fr' := [(0, aI a0), (1, aD (.slice (.pair (.slice tI) (.slice tI))) a1), (5, aD (.slice tI) r1.1), (6, aI r1.2.1), (7, aI r1.2.2), (8, aI v8), (36, aB (v8 != (0 : Int)))]) (L' := []) (obs := []) (by kernel_rfl) (by kernel_rfl) (by kernel_rfl) allP0 ?_
    refine seqQ_norm ?_
    refine W_cond (o := .tmp 36) (b := v8 != (0 : Int)) (by kernel_rfl) (by kernel_rfl) (fun h10 => ?_) (fun h10 => ?_)
    · replace h := ofT h10 h
      refine W_seq (by kernel_rfl) ?_
      refine W_run 13 [] [4] [] (fr' := [(4, aB (((r1.2.2 == v8) && ((List.length r1.1 : Int) == (0 : Int))) && (r1.2.1 == (0 : Int))))]) (L' := []) (obs := []) (by kernel_rfl) (by kernel_rfl) (by kernel_rfl) allP0 ?_
      refine seqQ_norm ?_
      obtain rfl := Option.some.inj h
      refine W_ret [4] [] (fr' := [(4, aB (((r1.2.2 == v8) && ((List.length r1.1 : Int) == (0 : Int))) && (r1.2.1 == (0 : Int))))]) (L' := []) (by kernel_rfl) (by kernel_rfl) ?_
      refine seqQ_ret ?_
      exact retQ_mk (by kernel_rfl) (by kernel_rfl) (by kernel_rfl)
    · replace h := ofF h10 h
      refine W_skip [0, 1, 5, 6, 7] [] (fr' := [(0, aI a0), (1, aD (.slice (.pair (.slice tI) (.slice tI))) a1), (5, aD (.slice tI) r1.1), (6, aI r1.2.1), (7, aI r1.2.2)]) (L' := []) (by kernel_rfl) (by kernel_rfl) ?_
      refine seqQ_norm ?_
      refine W_seq (by kernel_rfl) ?_
      refine W_seq (by kernel_rfl) ?_
      refine W_run 13 [] [0, 1, 5, 6, 61] [] (fr' := [(0, aI a0), (1, aD (.slice (.pair (.slice tI) (.slice tI))) a1), (5, aD (.slice tI) r1.1), (6, aI r1.2.1), (61, aB ((r1.2.2 != (0 : Int)) || ((List.length r1.1 : Int) != (w64 ((w64 ((2 : Int) * a0)) + (w64 ((2 : Int) * (List.length a1 : Int))))))))]) (L' := []) (obs := []) (by kernel_rfl) (by kernel_rfl) (by kernel_rfl) allP0 ?_
      refine seqQ_norm ?_
      refine W_cond (o := .tmp 61) (b := (r1.2.2 != (0 : Int)) || ((List.length r1.1 : Int) != (w64 ((w64 ((2 : Int) * a0)) + (w64 ((2 : Int) * (List.length a1 : Int))))))) (by kernel_rfl) (by kernel_rfl) (fun h11 => ?_) (fun h11 => ?_)
      · replace h := ofT h11 h
        refine W_seq (by kernel_rfl) ?_
        refine W_run 1 [] [4] [] (fr' := [(4, aB false)]) (L' := []) (obs := []) (by kernel_rfl) (by kernel_rfl) (by kernel_rfl) allP0 ?_
        refine seqQ_norm ?_
        obtain rfl := Option.some.inj h
        refine W_ret [4] [] (fr' := [(4, aB false)]) (L' := []) (by kernel_rfl) (by kernel_rfl) ?_
        refine seqQ_ret ?_
        exact retQ_mk (by kernel_rfl) (by kernel_rfl) (by kernel_rfl)
      · replace h := ofF h11 h
        refine W_skip [0, 1, 5, 6] [] (fr' := [(0, aI a0), (1, aD (.slice (.pair (.slice tI) (.slice tI))) a1), (5, aD (.slice tI) r1.1), (6, aI r1.2.1)]) (L' := []) (by kernel_rfl) (by kernel_rfl) ?_
        refine seqQ_norm ?_
        refine W_seq (by kernel_rfl) ?_
        refine W_seq (by kernel_rfl) ?_
        refine W_run 3 [] [0, 1, 5, 6, 62, 63, 64] [] (fr' := [(0, aI a0), (1, aD (.slice (.pair (.slice tI) (.slice tI))) a1), (5, aD (.slice tI) r1.1), (6, aI r1.2.1), (62, aD (.slice tI) r1.1), (63, aI (List.length r1.1 : Int)), (64, aI (0 : Int))]) (L' := []) (obs := []) (by kernel_rfl) (by kernel_rfl) (by kernel_rfl) allP0 ?_
        refine seqQ_norm ?_
        refine W_block (id := 0) (by kernel_rfl) ?_
        obtain ⟨v63, h64, h⟩ := bind_of h
        refine W_len (t := 62) (u := tI) (xs := r1.1) (by kernel_rfl) (fun h67 => ?_)
        obtain ⟨h65, h66⟩ := forL_iter h67 h64
        refine W_weaken [0, 1, 5, 6, 62, 63, 64] [] (fr' := ((law_HardWeights_s5 a0 a1 r1) ((0 : Int), ())).1) (L' := ((law_HardWeights_s5 a0 a1 r1) ((0 : Int), ())).2) (by kernel_rfl) ?_
        refine W_cutK (W_loop (S := (law_HardWeights_s5 a0 a1 r1)) (J := (escQ (exQ .ret law_HardWeights_s6) (exQ (.exit 0) (law_HardWeights_s7 a0 a1 r1)))) (by kernel_rfl) ?_ h65 _ v63 h66) ?_
        · rintro ⟨i44, x45⟩ s h
          refine W_seq (by kernel_rfl) ?_
          refine W_run 1 [] [0, 1, 5, 6, 62, 63, 64, 65] [] (fr' := [(0, aI a0), (1, aD (.slice (.pair (.slice tI) (.slice tI))) a1), (5, aD (.slice tI) r1.1), (6, aI r1.2.1), (62, aD (.slice tI) r1.1), (63, aI (List.length r1.1 : Int)), (64, aI i44), (65, aB (decide (i44 < (List.length r1.1 : Int))))]) (L' := []) (obs := []) (by kernel_rfl) (by kernel_rfl) (by kernel_rfl) allP0 ?_
          refine seqQ_norm ?_
          refine W_seq (by kernel_rfl) ?_
          refine W_cond (o := .tmp 65) (b := decide (i44 < (List.length r1.1 : Int))) (by kernel_rfl) (by kernel_rfl) (fun h49 => ?_) (fun h49 => ?_)
          · replace h := stepL_true h49 h
            obtain ⟨v47, _, h48, h, rfl⟩ := h
            refine W_skip [0, 1, 5, 6, 62, 63, 64] [] (fr' := [(0, aI a0), (1, aD (.slice (.pair (.slice tI) (.slice tI))) a1), (5, aD (.slice tI) r1.1), (6, aI r1.2.1), (62, aD (.slice tI) r1.1), (63, aI (List.length r1.1 : Int)), (64, aI i44)]) (L' := []) (by kernel_rfl) (by kernel_rfl) ?_
            refine seqQ_norm ?_
            refine W_seq (by kernel_rfl) ?_
            refine W_block (id := 1) (by kernel_rfl) ?_
            refine W_seq (by kernel_rfl) ?_
            refine W_run 3 [(1, .val (.dat tI v47))] [0, 1, 5, 6, 10, 62, 63, 64] [] (fr' := [(0, aI a0), (1, aD (.slice (.pair (.slice tI) (.slice tI))) a1), (5, aD (.slice tI) r1.1), (6, aI r1.2.1), (10, aI v47), (62, aD (.slice tI) r1.1), (63, aI (List.length r1.1 : Int)), (64, aI i44)]) (L' := []) (obs := [Idx r1.1 i44 v47]) (by kernel_rfl) (by kernel_rfl) (by kernel_rfl) (allP1 (Idx.of h48)) ?_
            refine seqQ_norm ?_
            refine W_seq (by kernel_rfl) ?_
            obtain ⟨v59, h60, h⟩ := bind_of h
            refine W_cutK (Q' := (exQ .normal (law_HardWeights_s3 a0 a1 r1 i44)) v59) ?_ ?_
            · replace h := h60
              refine W_region (by kernel_rfl) ?_
              refine WO_run (j := 3) (k := 3) (orcs := []) (kF := [0, 1, 5, 6, 10, 62, 63, 64, 70]) (kL := []) (fr' := [(0, aI a0), (1, aD (.slice (.pair (.slice tI) (.slice tI))) a1), (5, aD (.slice tI) r1.1), (6, aI r1.2.1), (10, aI v47), (62, aD (.slice tI) r1.1), (63, aI (List.length r1.1 : Int)), (64, aI i44), (70, aB (decide (v47 < (0 : Int))))]) (L' := []) (obs := []) rfl (by kernel_rfl) allP0 ?_
              rcases Bool.eq_false_or_eq_true (decide (v47 < (0 : Int))) with h56 | h56
              · replace h := ofT h56 h
                refine WO_run (j := 11) (k := 8) (orcs := [(6, .known true), (8, .known true), (10, .known true), (12, .known true), (14, .known true), (16, .known true), (18, .known true), (21, .val (.dat .bool true))]) (kF := [0, 1, 5, 6, 62, 63, 64, 78]) (kL := []) (fr' := [(0, aI a0), (1, aD (.slice (.pair (.slice tI) (.slice tI))) a1), (5, aD (.slice tI) r1.1), (6, aI r1.2.1), (62, aD (.slice tI) r1.1), (63, aI (List.length r1.1 : Int)), (64, aI i44), (78, aB true)]) (L' := []) (obs := [((decide (v47 < (0 : Int))) = true), ((decide (v47 < (0 : Int))) = true), ((decide (v47 < (0 : Int))) = true), ((decide (v47 < (0 : Int))) = true), ((decide (v47 < (0 : Int))) = true), ((decide (v47 < (0 : Int))) = true), ((decide (v47 < (0 : Int))) = true), ((decide (v47 < (0 : Int))) = true)]) rfl (by kernel_rfl) (allP2 h56 (allP2 h56 (allP2 h56 (allP2 h56 (allP2 h56 (allP2 h56 (allP2 h56 (allP1 h56)))))))) ?_
                obtain rfl := Option.some.inj h
                refine WO_fin [0, 1, 5, 6, 62, 63, 64, 78] [] (fr' := [(0, aI a0), (1, aD (.slice (.pair (.slice tI) (.slice tI))) a1), (5, aD (.slice tI) r1.1), (6, aI r1.2.1), (62, aD (.slice tI) r1.1), (63, aI (List.length r1.1 : Int)), (64, aI i44), (78, aB true)]) (L' := []) (by kernel_rfl) (by kernel_rfl) ?_
                exact exQ_mk (by kernel_rfl) (by kernel_rfl)
              · replace h := ofF h56 h
                refine WO_run (j := 8) (k := 5) (orcs := [(6, .known false), (8, .known false), (10, .known false), (12, .known false), (14, .known false)]) (kF := [0, 1, 5, 6, 62, 63, 64, 70, 71, 75]) (kL := []) (fr' := [(0, aI a0), (1, aD (.slice (.pair (.slice tI) (.slice tI))) a1), (5, aD (.slice tI) r1.1), (6, aI r1.2.1), (62, aD (.slice tI) r1.1), (63, aI (List.length r1.1 : Int)), (64, aI i44), (70, aB (decide (v47 < (0 : Int)))), (71, aI v47), (75, aI (w64 (a0 + (List.length a1 : Int))))]) (L' := []) (obs := [((decide (v47 < (0 : Int))) = false), ((decide (v47 < (0 : Int))) = false), ((decide (v47 < (0 : Int))) = false), ((decide (v47 < (0 : Int))) = false), ((decide (v47 < (0 : Int))) = false)]) rfl (by kernel_rfl) (allP2 h56 (allP2 h56 (allP2 h56 (allP2 h56 (allP1 h56))))) ?_
                obtain ⟨r57, h58, h⟩ := bind_of h
                refine WO_call0 (us := [none, none]) (d := 76) (p := ((decide (v47 < (0 : Int))) = false)) (j := 9) rfl ⟨by kernel_rfl, by kernel_rfl, by kernel_rfl⟩ h56 (ref_Power_ok h58) (by kernel_rfl) ?_
                refine WO_run (j := 11) (k := 2) (orcs := [(18, .known false), (21, .val (.dat .bool false))]) (kF := [0, 1, 5, 6, 62, 63, 64, 78]) (kL := []) (fr' := [(0, aI a0), (1, aD (.slice (.pair (.slice tI) (.slice tI))) a1), (5, aD (.slice tI) r1.1), (6, aI r1.2.1), (62, aD (.slice tI) r1.1), (63, aI (List.length r1.1 : Int)), (64, aI i44), (78, aB (decide (v47 ≥ r57)))]) (L' := []) (obs := [((decide (v47 < (0 : Int))) = false), ((decide (v47 < (0 : Int))) = false)]) rfl (by kernel_rfl) (allP2 h56 (allP1 h56)) ?_
                obtain rfl := Option.some.inj h
                refine WO_fin [0, 1, 5, 6, 62, 63, 64, 78] [] (fr' := [(0, aI a0), (1, aD (.slice (.pair (.slice tI) (.slice tI))) a1), (5, aD (.slice tI) r1.1), (6, aI r1.2.1), (62, aD (.slice tI) r1.1), (63, aI (List.length r1.1 : Int)), (64, aI i44), (78, aB (decide (v47 ≥ r57)))]) (L' := []) (by kernel_rfl) (by kernel_rfl) ?_
                exact exQ_mk (by kernel_rfl) (by kernel_rfl)
            · intro e fr L hJ
              obtain ⟨rfl, rfl, rfl⟩ := hJ
              refine LT_keep [0, 1, 5, 6, 62, 63, 64, 78] [] (fr' := [(0, aI a0), (1, aD (.slice (.pair (.slice tI) (.slice tI))) a1), (5, aD (.slice tI) r1.1), (6, aI r1.2.1), (62, aD (.slice tI) r1.1), (63, aI (List.length r1.1 : Int)), (64, aI i44), (78, aB v59)]) (L' := []) (by kernel_rfl) ?_
              refine seqQ_norm ?_
              refine W_cond (o := .tmp 78) (b := v59) (by kernel_rfl) (by kernel_rfl) (fun h61 => ?_) (fun h61 => ?_)
              · replace h := ofT h61 h
                refine W_seq (by kernel_rfl) ?_
                refine W_run 1 [] [4] [] (fr' := [(4, aB false)]) (L' := []) (obs := []) (by kernel_rfl) (by kernel_rfl) (by kernel_rfl) allP0 ?_
                refine seqQ_norm ?_
                obtain rfl := Option.some.inj h
                refine W_ret [4] [] (fr' := [(4, aB false)]) (L' := []) (by kernel_rfl) (by kernel_rfl) ?_
                refine blockQ_ret ?_
                refine seqQ_ret ?_
                refine round_ret ?_
                refine escQ_ret ?_
                exact exQ_mk (by kernel_rfl) (by kernel_rfl)
              · replace h := ofF h61 h
                refine W_skip [0, 1, 5, 6, 62, 63, 64] [] (fr' := [(0, aI a0), (1, aD (.slice (.pair (.slice tI) (.slice tI))) a1), (5, aD (.slice tI) r1.1), (6, aI r1.2.1), (62, aD (.slice tI) r1.1), (63, aI (List.length r1.1 : Int)), (64, aI i44)]) (L' := []) (by kernel_rfl) (by kernel_rfl) ?_
                refine blockQ_norm ?_
                refine seqQ_norm ?_
                obtain rfl := Option.some.inj h
                refine W_run 2 [] [0, 1, 5, 6, 62, 63, 64] [] (fr' := [(0, aI a0), (1, aD (.slice (.pair (.slice tI) (.slice tI))) a1), (5, aD (.slice tI) r1.1), (6, aI r1.2.1), (62, aD (.slice tI) r1.1), (63, aI (List.length r1.1 : Int)), (64, aI (w64 (i44 + (1 : Int))))]) (L' := []) (obs := []) (by kernel_rfl) (by kernel_rfl) (by kernel_rfl) allP0 ?_
                exact round_next' (by kernel_rfl) (by kernel_rfl)
          · obtain rfl := stepL_false h49 h
            refine W_exit (id := 0) [0, 1, 5, 6] [] (fr' := [(0, aI a0), (1, aD (.slice (.pair (.slice tI) (.slice tI))) a1), (5, aD (.slice tI) r1.1), (6, aI r1.2.1)]) (L' := []) (by kernel_rfl) (by kernel_rfl) ?_
            refine seqQ_exit ?_
            refine round_exit ?_
            refine escQ_brk ?_
            exact exQ_mk (by kernel_rfl) (by kernel_rfl)
        · intro e fr L hJ
          rcases v63 with v68 | v69
          · obtain ⟨rfl, rfl, rfl⟩ := hJ
            obtain rfl := Option.some.inj h
            refine LT_keep [4] [] (fr' := [(4, aB v68)]) (L' := []) (by kernel_rfl) ?_
            refine blockQ_ret ?_
            refine seqQ_ret ?_
            exact retQ_mk (by kernel_rfl) (by kernel_rfl) (by kernel_rfl)
          · obtain ⟨rfl, rfl, rfl⟩ := hJ
            refine LT_keep [0, 1, 5, 6] [] (fr' := [(0, aI a0), (1, aD (.slice (.pair (.slice tI) (.slice tI))) a1), (5, aD (.slice tI) r1.1), (6, aI r1.2.1)]) (L' := []) (by kernel_rfl) ?_
            refine blockQ_hit ?_
            refine seqQ_norm ?_
            refine W_seq (by kernel_rfl) ?_
            refine W_run 1 [] [0, 1, 5, 6, 11] [] (fr' := [(0, aI a0), (1, aD (.slice (.pair (.slice tI) (.slice tI))) a1), (5, aD (.slice tI) r1.1), (6, aI r1.2.1), (11, aB false)]) (L' := []) (obs := []) (by kernel_rfl) (by kernel_rfl) (by kernel_rfl) allP0 ?_
            refine seqQ_norm ?_
            refine W_seq (by kernel_rfl) ?_
            refine W_seq (by kernel_rfl) ?_
            refine W_run 1 [] [0, 1, 5, 6, 11, 12] [] (fr' := [(0, aI a0), (1, aD (.slice (.pair (.slice tI) (.slice tI))) a1), (5, aD (.slice tI) r1.1), (6, aI r1.2.1), (11, aB false), (12, aI (0 : Int))]) (L' := []) (obs := []) (by kernel_rfl) (by kernel_rfl) (by kernel_rfl) allP0 ?_
            refine seqQ_norm ?_
            refine W_block (id := 2) (by kernel_rfl) ?_
            obtain ⟨v261, h262, h⟩ := bind_of h
            refine W_weaken [0, 1, 5, 6, 11, 12] [] (fr' := ((law_HardWeights_s27 a0 a1 r1) (false, (0 : Int))).1) (L' := ((law_HardWeights_s27 a0 a1 r1) (false, (0 : Int))).2) (by kernel_rfl) ?_
            refine W_cutK (W_loop (S := (law_HardWeights_s27 a0 a1 r1)) (J := (exQ (.exit 2) (law_HardWeights_s28 a0 a1))) (by kernel_rfl) ?_ fuel _ v261 h262) ?_
            · rintro x134 s h
              refine W_seq (by kernel_rfl) ?_
              refine W_seq (by kernel_rfl) ?_
              obtain ⟨_, h198, h⟩ := bind_of h
              replace h198 := ck_some h198
              refine W_run 6 [] [0, 1, 5, 6, 11, 12, 85] [] (fr' := [(0, aI a0), (1, aD (.slice (.pair (.slice tI) (.slice tI))) a1), (5, aD (.slice tI) r1.1), (6, aI r1.2.1), (11, aB x134.1), (12, aI x134.2), (85, aB (decide (x134.2 < (bShl .i64 (1 : Int) (IntKind.wrap .u64 ((List.length r1.1 : Int)))))))]) (L' := []) (obs := [(0 ≤ IntKind.wrap .u64 ((List.length r1.1 : Int)))]) (by kernel_rfl) (by kernel_rfl) (by kernel_rfl) (allP1 h198) ?_
              refine seqQ_norm ?_
              refine W_cond (o := .tmp 85) (b := decide (x134.2 < (bShl .i64 (1 : Int) (IntKind.wrap .u64 ((List.length r1.1 : Int)))))) (by kernel_rfl) (by kernel_rfl) (fun h199 => ?_) (fun h199 => ?_)
              · replace h := ofT h199 h
                refine W_skip [0, 1, 5, 6, 11, 12] [] (fr' := [(0, aI a0), (1, aD (.slice (.pair (.slice tI) (.slice tI))) a1), (5, aD (.slice tI) r1.1), (6, aI r1.2.1), (11, aB x134.1), (12, aI x134.2)]) (L' := []) (by kernel_rfl) (by kernel_rfl) ?_
                refine seqQ_norm ?_
                refine W_seq (by kernel_rfl) ?_
                refine W_block (id := 3) (by kernel_rfl) ?_
                refine W_seq (by kernel_rfl) ?_
                refine W_run 1 [] [0, 1, 5, 6, 11, 12, 13] [] (fr' := [(0, aI a0), (1, aD (.slice (.pair (.slice tI) (.slice tI))) a1), (5, aD (.slice tI) r1.1), (6, aI r1.2.1), (11, aB x134.1), (12, aI x134.2), (13, aI (0 : Int))]) (L' := []) (obs := []) (by kernel_rfl) (by kernel_rfl) (by kernel_rfl) allP0 ?_
                refine seqQ_norm ?_
                refine W_seq (by kernel_rfl) ?_
                refine W_seq (by kernel_rfl) ?_
                refine W_run 3 [] [0, 1, 5, 6, 11, 12, 13, 88, 89, 90] [] (fr' := [(0, aI a0), (1, aD (.slice (.pair (.slice tI) (.slice tI))) a1), (5, aD (.slice tI) r1.1), (6, aI r1.2.1), (11, aB x134.1), (12, aI x134.2), (13, aI (0 : Int)), (88, aD (.slice tI) r1.1), (89, aI (List.length r1.1 : Int)), (90, aI (0 : Int))]) (L' := []) (obs := []) (by kernel_rfl) (by kernel_rfl) (by kernel_rfl) allP0 ?_
                refine seqQ_norm ?_
                refine W_block (id := 4) (by kernel_rfl) ?_
                obtain ⟨v256, h257, h⟩ := bind_of h
                refine W_len (t := 88) (u := tI) (xs := r1.1) (by kernel_rfl) (fun h260 => ?_)
                obtain ⟨h258, h259⟩ := forL_iter h260 h257
                refine W_weaken [0, 1, 5, 6, 11, 12, 13, 88, 89, 90] [] (fr' := ((law_HardWeights_s24 a0 a1 r1 x134) ((0 : Int), (0 : Int))).1) (L' := ((law_HardWeights_s24 a0 a1 r1 x134) ((0 : Int), (0 : Int))).2) (by kernel_rfl) ?_
                refine W_cutK (W_loop (S := (law_HardWeights_s24 a0 a1 r1 x134)) (J := (exQ (.exit 4) (law_HardWeights_s25 a0 a1 r1 x134))) (by kernel_rfl) ?_ h258 _ v256 h259) ?_
                · rintro ⟨i238, x239⟩ s h
                  refine W_seq (by kernel_rfl) ?_
                  refine W_run 1 [] [0, 1, 5, 6, 11, 12, 13, 88, 89, 90, 91] [] (fr' := [(0, aI a0), (1, aD (.slice (.pair (.slice tI) (.slice tI))) a1), (5, aD (.slice tI) r1.1), (6, aI r1.2.1), (11, aB x134.1), (12, aI x134.2), (13, aI x239), (88, aD (.slice tI) r1.1), (89, aI (List.length r1.1 : Int)), (90, aI i238), (91, aB (decide (i238 < (List.length r1.1 : Int))))]) (L' := []) (obs := []) (by kernel_rfl) (by kernel_rfl) (by kernel_rfl) allP0 ?_
                  refine seqQ_norm ?_
                  refine W_seq (by kernel_rfl) ?_
                  refine W_cond (o := .tmp 91) (b := decide (i238 < (List.length r1.1 : Int))) (by kernel_rfl) (by kernel_rfl) (fun h243 => ?_) (fun h243 => ?_)
                  · replace h := stepL_true h243 h
                    obtain ⟨v241, _, h242, h, rfl⟩ := h
                    refine W_skip [0, 1, 5, 6, 11, 12, 13, 88, 89, 90] [] (fr' := [(0, aI a0), (1, aD (.slice (.pair (.slice tI) (.slice tI))) a1), (5, aD (.slice tI) r1.1), (6, aI r1.2.1), (11, aB x134.1), (12, aI x134.2), (13, aI x239), (88, aD (.slice tI) r1.1), (89, aI (List.length r1.1 : Int)), (90, aI i238)]) (L' := []) (by kernel_rfl) (by kernel_rfl) ?_
                    refine seqQ_norm ?_
                    refine W_seq (by kernel_rfl) ?_
                    obtain ⟨v253, h254, h⟩ := bind_of h
                    refine W_cutK (Q' := (exQ .normal (law_HardWeights_s22 a0 a1 r1 x134 i238)) v253) ?_ ?_
                    · replace h := h254
                      refine W_block (id := 5) (by kernel_rfl) ?_
                      refine W_seq (by kernel_rfl) ?_
                      refine W_run 5 [(3, .val (.dat tI v241))] [0, 1, 5, 6, 11, 12, 13, 14, 15, 88, 89, 90] [] (fr' := [(0, aI a0), (1, aD (.slice (.pair (.slice tI) (.slice tI))) a1), (5, aD (.slice tI) r1.1), (6, aI r1.2.1), (11, aB x134.1), (12, aI x134.2), (13, aI x239), (14, aI i238), (15, aI v241), (88, aD (.slice tI) r1.1), (89, aI (List.length r1.1 : Int)), (90, aI i238)]) (L' := []) (obs := [Idx r1.1 i238 v241]) (by kernel_rfl) (by kernel_rfl) (by kernel_rfl) (allP1 (Idx.of h242)) ?_
                      refine seqQ_norm ?_
                      refine W_seq (by kernel_rfl) ?_
                      refine W_region (by kernel_rfl) ?_
                      refine WO_run (j := 2) (k := 2) (orcs := []) (kF := [0, 1, 5, 6, 11, 12, 13, 15, 88, 89, 90, 95, 96]) (kL := []) (fr' := [(0, aI a0), (1, aD (.slice (.pair (.slice tI) (.slice tI))) a1), (5, aD (.slice tI) r1.1), (6, aI r1.2.1), (11, aB x134.1), (12, aI x134.2), (13, aI x239), (15, aI v241), (88, aD (.slice tI) r1.1), (89, aI (List.length r1.1 : Int)), (90, aI i238), (95, aI x134.2), (96, aI i238)]) (L' := []) (obs := []) rfl (by kernel_rfl) allP0 ?_
                      obtain ⟨r250, h251, h⟩ := bind_of h
                      refine WO_call0 (us := [none, none]) (d := 97) (p := True) (j := 3) rfl ⟨by kernel_rfl, by kernel_rfl, by kernel_rfl⟩ trivial (ref_Bit_ok h251) (by kernel_rfl) ?_
                      refine WO_fin [0, 1, 5, 6, 11, 12, 13, 15, 88, 89, 90, 97] [] (fr' := [(0, aI a0), (1, aD (.slice (.pair (.slice tI) (.slice tI))) a1), (5, aD (.slice tI) r1.1), (6, aI r1.2.1), (11, aB x134.1), (12, aI x134.2), (13, aI x239), (15, aI v241), (88, aD (.slice tI) r1.1), (89, aI (List.length r1.1 : Int)), (90, aI i238), (97, aB r250)]) (L' := []) (by kernel_rfl) (by kernel_rfl) ?_
                      refine seqQ_norm ?_
                      refine W_cond (o := .tmp 97) (b := r250) (by kernel_rfl) (by kernel_rfl) (fun h252 => ?_) (fun h252 => ?_)
                      · replace h := ofT h252 h
                        obtain rfl := Option.some.inj h
                        refine W_run 4 [] [0, 1, 5, 6, 11, 12, 13, 88, 89, 90] [] (fr' := [(0, aI a0), (1, aD (.slice (.pair (.slice tI) (.slice tI))) a1), (5, aD (.slice tI) r1.1), (6, aI r1.2.1), (11, aB x134.1), (12, aI x134.2), (13, aI (w64 (x239 + v241))), (88, aD (.slice tI) r1.1), (89, aI (List.length r1.1 : Int)), (90, aI i238)]) (L' := []) (obs := []) (by kernel_rfl) (by kernel_rfl) (by kernel_rfl) allP0 ?_
                        refine blockQ_norm ?_
                        exact exQ_mk (by kernel_rfl) (by kernel_rfl)
                      · replace h := ofF h252 h
                        obtain rfl := Option.some.inj h
                        refine W_skip [0, 1, 5, 6, 11, 12, 13, 88, 89, 90] [] (fr' := [(0, aI a0), (1, aD (.slice (.pair (.slice tI) (.slice tI))) a1), (5, aD (.slice tI) r1.1), (6, aI r1.2.1), (11, aB x134.1), (12, aI x134.2), (13, aI x239), (88, aD (.slice tI) r1.1), (89, aI (List.length r1.1 : Int)), (90, aI i238)]) (L' := []) (by kernel_rfl) (by kernel_rfl) ?_
                        refine blockQ_norm ?_
                        exact exQ_mk (by kernel_rfl) (by kernel_rfl)
                    · intro e fr L hJ
                      obtain ⟨rfl, rfl, rfl⟩ := hJ
                      refine LT_keep [0, 1, 5, 6, 11, 12, 13, 88, 89, 90] [] (fr' := [(0, aI a0), (1, aD (.slice (.pair (.slice tI) (.slice tI))) a1), (5, aD (.slice tI) r1.1), (6, aI r1.2.1), (11, aB x134.1), (12, aI x134.2), (13, aI v253), (88, aD (.slice tI) r1.1), (89, aI (List.length r1.1 : Int)), (90, aI i238)]) (L' := []) (by kernel_rfl) ?_
                      refine seqQ_norm ?_
                      obtain rfl := Option.some.inj h
                      refine W_run 2 [] [0, 1, 5, 6, 11, 12, 13, 88, 89, 90] [] (fr' := [(0, aI a0), (1, aD (.slice (.pair (.slice tI) (.slice tI))) a1), (5, aD (.slice tI) r1.1), (6, aI r1.2.1), (11, aB x134.1), (12, aI x134.2), (13, aI v253), (88, aD (.slice tI) r1.1), (89, aI (List.length r1.1 : Int)), (90, aI (w64 (i238 + (1 : Int))))]) (L' := []) (obs := []) (by kernel_rfl) (by kernel_rfl) (by kernel_rfl) allP0 ?_
                      exact round_next' (by kernel_rfl) (by kernel_rfl)
                  · obtain rfl := stepL_false h243 h
                    refine W_exit (id := 4) [0, 1, 5, 6, 11, 12, 13] [] (fr' := [(0, aI a0), (1, aD (.slice (.pair (.slice tI) (.slice tI))) a1), (5, aD (.slice tI) r1.1), (6, aI r1.2.1), (11, aB x134.1), (12, aI x134.2), (13, aI x239)]) (L' := []) (by kernel_rfl) (by kernel_rfl) ?_
                    refine seqQ_exit ?_
                    refine round_exit ?_
                    exact exQ_mk (by kernel_rfl) (by kernel_rfl)
                · intro e fr L hJ
                  obtain ⟨rfl, rfl, rfl⟩ := hJ
                  refine LT_keep [0, 1, 5, 6, 11, 12, 13] [] (fr' := [(0, aI a0), (1, aD (.slice (.pair (.slice tI) (.slice tI))) a1), (5, aD (.slice tI) r1.1), (6, aI r1.2.1), (11, aB x134.1), (12, aI x134.2), (13, aI v256)]) (L' := []) (by kernel_rfl) ?_
                  refine blockQ_hit ?_
                  refine seqQ_norm ?_
                  refine W_run 7 [] [0, 1, 5, 6, 11, 12] [] (fr' := [(0, aI a0), (1, aD (.slice (.pair (.slice tI) (.slice tI))) a1), (5, aD (.slice tI) r1.1), (6, aI r1.2.1), (11, aB (x134.1 || (v256 == r1.2.1))), (12, aI x134.2)]) (L' := []) (obs := []) (by kernel_rfl) (by kernel_rfl) (by kernel_rfl) allP0 ?_
                  refine blockQ_norm ?_
                  refine seqQ_norm ?_
                  obtain rfl := Option.some.inj h
                  refine W_run 3 [] [0, 1, 5, 6, 11, 12] [] (fr' := [(0, aI a0), (1, aD (.slice (.pair (.slice tI) (.slice tI))) a1), (5, aD (.slice tI) r1.1), (6, aI r1.2.1), (11, aB (x134.1 || (v256 == r1.2.1))), (12, aI (w64 (x134.2 + (1 : Int))))]) (L' := []) (obs := []) (by kernel_rfl) (by kernel_rfl) (by kernel_rfl) allP0 ?_
                  exact round_next' (by kernel_rfl) (by kernel_rfl)
              · replace h := ofF h199 h
                obtain rfl := Option.some.inj h
                refine W_exit (id := 2) [0, 1, 11] [] (fr' := [(0, aI a0), (1, aD (.slice (.pair (.slice tI) (.slice tI))) a1), (11, aB x134.1)]) (L' := []) (by kernel_rfl) (by kernel_rfl) ?_
                refine seqQ_exit ?_
                refine round_exit ?_
                exact exQ_mk (by kernel_rfl) (by kernel_rfl)
            · intro e fr L hJ
              obtain ⟨rfl, rfl, rfl⟩ := hJ
              refine LT_keep [0, 1, 11] [] (fr' := [(0, aI a0), (1, aD (.slice (.pair (.slice tI) (.slice tI))) a1), (11, aB v261)]) (L' := []) (by kernel_rfl) ?_
              refine blockQ_hit ?_
              refine seqQ_norm ?_
              refine W_seq (by kernel_rfl) ?_
              refine W_region (by kernel_rfl) ?_
              refine WO_run (j := 3) (k := 3) (orcs := []) (kF := [108, 109, 110]) (kL := []) (fr' := [(108, aB v261), (109, aI a0), (110, aD (.slice (.pair (.slice tI) (.slice tI))) a1)]) (L' := []) (obs := []) rfl (by kernel_rfl) allP0 ?_
              obtain ⟨r265, h266, h⟩ := bind_of h
              refine WO_call0 (us := [none, none]) (d := 111) (p := True) (j := 4) rfl ⟨by kernel_rfl, by kernel_rfl, by kernel_rfl⟩ trivial (ref_Many_ok h266) (by kernel_rfl) ?_
              refine WO_run (j := 7) (k := 3) (orcs := []) (kF := [4]) (kL := []) (fr' := [(4, aB (v261 == (decide (r265 > (0 : Int)))))]) (L' := []) (obs := []) rfl (by kernel_rfl) allP0 ?_
              refine WO_fin [4] [] (fr' := [(4, aB (v261 == (decide (r265 > (0 : Int)))))]) (L' := []) (by kernel_rfl) (by kernel_rfl) ?_
              refine seqQ_norm ?_
              obtain rfl := Option.some.inj h
              refine W_ret [4] [] (fr' := [(4, aB (v261 == (decide (r265 > (0 : Int)))))]) (L' := []) (by kernel_rfl) (by kernel_rfl) ?_
              exact retQ_mk (by kernel_rfl) (by kernel_rfl) (by kernel_rfl)
end Go.Proofs.Ytcallckeeohoaaa.hardWeights
