/- What the functions that HardDots calls compute, as models, and that they compute it: written by a program of mine. -/
import Derived.Test.YtmmlochcobihpaaProg
import Derived.Test.YtmmlochcobihpaaSl3
set_option linter.all false
set_option maxRecDepth 100000
namespace Go.Proofs.Ytmmlochcobihpaa.hardDots
open Go Go.Sl
def hard_wrong_1 (a0 : Int) (c0 : Int) : Option Bool :=
some ((decide (a0 < (0 : Int))) || (decide (a0 ≥ c0)))
theorem hard_wrong_1_ok {a0 : Int} {c0 : Int} {r : Bool} (h : hard_wrong_1 a0 c0 = some r) : FnC Try.prog 80 [aI a0, .one (.ptr 1000 0)] [(1000, .cells [.dat tI c0])] (aB r) [(1000, .cells [.dat tI c0])] := by
  refine fnC_of_W (B := bodyOf Try.f80) (n := 11) Try.func80 (by kernel_rfl) (by kernel_rfl) (by kernel_rfl) (by kernel_rfl) (by kernel_rfl) ?_
  intro K
  refine W_seq (by kernel_rfl) ?_
  refine W_run 1 [] [0, 1] [1000] (fr' := [(0, aI a0), (1, .one (.ptr 1000 0))]) (L' := [(1000, .cells [.dat tI c0])]) (obs := []) (by kernel_rfl) (by kernel_rfl) (by kernel_rfl) allP0 ?_
  refine seqQ_norm ?_
  refine W_seq (by kernel_rfl) ?_
  refine W_run 8 [] [3] [1000] (fr' := [(3, aB ((decide (a0 < (0 : Int))) || (decide (a0 ≥ c0))))]) (L' := [(1000, .cells [.dat tI c0])]) (obs := []) (by kernel_rfl) (by kernel_rfl) (by kernel_rfl) allP0 ?_
  refine seqQ_norm ?_
  obtain rfl := Option.some.inj h
  refine W_ret [3] [1000] (fr' := [(3, aB ((decide (a0 < (0 : Int))) || (decide (a0 ≥ c0))))]) (L' := [(1000, .cells [.dat tI c0])]) (by kernel_rfl) (by kernel_rfl) ?_
  exact retQ_mk (by kernel_rfl) (by kernel_rfl) (by kernel_rfl)

def slices_IndexFunc_Lintint_with_hard_wrong_1_b1 (c0 : Int) (i15 : Int) (v18 : Int) (x16 : Unit) : Option (Flow Unit (Esc Int Unit)) :=
(hard_wrong_1 v18 c0).bind fun r21 =>
bif r21 then
(some (.done (.ret i15)))
else
(some (.next ()))
@[reducible] def slices_IndexFunc_Lintint_with_hard_wrong_1_s2 (a0 : (List Int)) (c0 : Int) (v : Int × Unit) : Fr × LL := ([(0, aD (.slice tI) a0), (1, .one (.fn 80 [(1000, 0)])), (7, aI (List.length a0 : Int)), (8, aI v.1)], [(1000, .cells [.dat tI c0])])
@[reducible] def slices_IndexFunc_Lintint_with_hard_wrong_1_s3 (c0 : Int) (v : Int) : Fr × LL := ([(4, aI v)], [(1000, .cells [.dat tI c0])])
@[reducible] def slices_IndexFunc_Lintint_with_hard_wrong_1_s4 (c0 : Int) (v : Unit) : Fr × LL := ([], [(1000, .cells [.dat tI c0])])
def slices_IndexFunc_Lintint_with_hard_wrong_1 (a0 : (List Int)) (c0 : Int) : Option Int :=
(forL (slices_IndexFunc_Lintint_with_hard_wrong_1_b1 c0) (fun x16 => (.brk ())) a0 0 ()).bind fun v25 =>
match v25 with
| .ret v30 =>
(some v30)
| .brk v31 =>
(some (-1 : Int))
theorem slices_IndexFunc_Lintint_with_hard_wrong_1_ok {a0 : (List Int)} {c0 : Int} {r : Int} (h : slices_IndexFunc_Lintint_with_hard_wrong_1 a0 c0 = some r) : FnC Try.prog 79 [aD (.slice tI) a0, .one (.fn 80 [(1000, 0)])] [(1000, .cells [.dat tI c0])] (aI r) [(1000, .cells [.dat tI c0])] := by
  refine fnC_of_W (B := bodyOf Try.f79) (n := 19) Try.func79 (by kernel_rfl) (by kernel_rfl) (by kernel_rfl) (by kernel_rfl) (by kernel_rfl) ?_
  intro K
  refine W_seq (by kernel_rfl) ?_
  refine W_run 1 [] [0, 1] [1000] (fr' := [(0, aD (.slice tI) a0), (1, .one (.fn 80 [(1000, 0)]))]) (L' := [(1000, .cells [.dat tI c0])]) (obs := []) (by kernel_rfl) (by kernel_rfl) (by kernel_rfl) allP0 ?_
  refine seqQ_norm ?_
  refine W_seq (by kernel_rfl) ?_
  refine W_seq (by kernel_rfl) ?_
  refine W_run 3 [] [0, 1, 7, 8] [1000] (fr' := [(0, aD (.slice tI) a0), (1, .one (.fn 80 [(1000, 0)])), (7, aI (List.length a0 : Int)), (8, aI (0 : Int))]) (L' := [(1000, .cells [.dat tI c0])]) (obs := []) (by kernel_rfl) (by kernel_rfl) (by kernel_rfl) allP0 ?_
  refine seqQ_norm ?_
  refine W_block (id := 0) (by kernel_rfl) ?_
  obtain ⟨v25, h26, h⟩ := bind_of h
  refine W_len (t := 0) (u := tI) (xs := a0) (by kernel_rfl) (fun h29 => ?_)
  obtain ⟨h27, h28⟩ := forL_iter h29 h26
  refine W_weaken [0, 1, 7, 8] [1000] (fr' := ((slices_IndexFunc_Lintint_with_hard_wrong_1_s2 a0 c0) ((0 : Int), ())).1) (L' := ((slices_IndexFunc_Lintint_with_hard_wrong_1_s2 a0 c0) ((0 : Int), ())).2) (by kernel_rfl) ?_
  refine W_cutK (W_loop (S := (slices_IndexFunc_Lintint_with_hard_wrong_1_s2 a0 c0)) (J := (escQ (exQ .ret (slices_IndexFunc_Lintint_with_hard_wrong_1_s3 c0)) (exQ (.exit 0) (slices_IndexFunc_Lintint_with_hard_wrong_1_s4 c0)))) (by kernel_rfl) ?_ h27 _ v25 h28) ?_
  · rintro ⟨i15, x16⟩ s h
    refine W_seq (by kernel_rfl) ?_
    refine W_run 1 [] [0, 1, 7, 8, 9] [1000] (fr' := [(0, aD (.slice tI) a0), (1, .one (.fn 80 [(1000, 0)])), (7, aI (List.length a0 : Int)), (8, aI i15), (9, aB (decide (i15 < (List.length a0 : Int))))]) (L' := [(1000, .cells [.dat tI c0])]) (obs := []) (by kernel_rfl) (by kernel_rfl) (by kernel_rfl) allP0 ?_
    refine seqQ_norm ?_
    refine W_seq (by kernel_rfl) ?_
    refine W_cond (o := .tmp 9) (b := decide (i15 < (List.length a0 : Int))) (by kernel_rfl) (by kernel_rfl) (fun h20 => ?_) (fun h20 => ?_)
    · replace h := stepL_true h20 h
      obtain ⟨v18, _, h19, h, rfl⟩ := h
      refine W_skip [0, 1, 7, 8] [1000] (fr' := [(0, aD (.slice tI) a0), (1, .one (.fn 80 [(1000, 0)])), (7, aI (List.length a0 : Int)), (8, aI i15)]) (L' := [(1000, .cells [.dat tI c0])]) (by kernel_rfl) (by kernel_rfl) ?_
      refine seqQ_norm ?_
      refine W_seq (by kernel_rfl) ?_
      refine W_block (id := 1) (by kernel_rfl) ?_
      refine W_seq (by kernel_rfl) ?_
      refine W_run 2 [] [0, 1, 5, 7, 8] [1000] (fr' := [(0, aD (.slice tI) a0), (1, .one (.fn 80 [(1000, 0)])), (5, aI i15), (7, aI (List.length a0 : Int)), (8, aI i15)]) (L' := [(1000, .cells [.dat tI c0])]) (obs := []) (by kernel_rfl) (by kernel_rfl) (by kernel_rfl) allP0 ?_
      refine seqQ_norm ?_
      refine W_seq (by kernel_rfl) ?_
      refine W_region (by kernel_rfl) ?_
      refine WO_run (j := 5) (k := 5) (orcs := [(7, .val (.dat tI v18))]) (kF := [0, 1, 5, 7, 8, 11, 15]) (kL := [1000]) (fr' := [(0, aD (.slice tI) a0), (1, .one (.fn 80 [(1000, 0)])), (5, aI i15), (7, aI (List.length a0 : Int)), (8, aI i15), (11, .one (.fn 80 [(1000, 0)])), (15, aI v18)]) (L' := [(1000, .cells [.dat tI c0])]) (obs := [Idx a0 i15 v18]) rfl (by kernel_rfl) (allP1 (Idx.of h19)) ?_
      obtain ⟨r21, h22, h⟩ := bind_of h
      refine WO_lend [(1000, 1000)] (us := [none, none]) (d := 16) (p := True) (j := 6) rfl ⟨by kernel_rfl, by kernel_rfl, by kernel_rfl⟩ trivial (hard_wrong_1_ok h22) (by kernel_rfl) (by kernel_rfl) ?_
      refine WO_fin [0, 1, 5, 7, 8, 16] [1000] (fr' := [(0, aD (.slice tI) a0), (1, .one (.fn 80 [(1000, 0)])), (5, aI i15), (7, aI (List.length a0 : Int)), (8, aI i15), (16, aB r21)]) (L' := [(1000, .cells [.dat tI c0])]) (by kernel_rfl) (by kernel_rfl) ?_
      refine seqQ_norm ?_
      refine W_cond (o := .tmp 16) (b := r21) (by kernel_rfl) (by kernel_rfl) (fun h23 => ?_) (fun h23 => ?_)
      · replace h := ofT h23 h
        refine W_seq (by kernel_rfl) ?_
        refine W_run 2 [] [4] [1000] (fr' := [(4, aI i15)]) (L' := [(1000, .cells [.dat tI c0])]) (obs := []) (by kernel_rfl) (by kernel_rfl) (by kernel_rfl) allP0 ?_
        refine seqQ_norm ?_
        obtain rfl := Option.some.inj h
        refine W_ret [4] [1000] (fr' := [(4, aI i15)]) (L' := [(1000, .cells [.dat tI c0])]) (by kernel_rfl) (by kernel_rfl) ?_
        refine blockQ_ret ?_
        refine seqQ_ret ?_
        refine round_ret ?_
        refine escQ_ret ?_
        exact exQ_mk (by kernel_rfl) (by kernel_rfl)
      · replace h := ofF h23 h
        refine W_skip [0, 1, 7, 8] [1000] (fr' := [(0, aD (.slice tI) a0), (1, .one (.fn 80 [(1000, 0)])), (7, aI (List.length a0 : Int)), (8, aI i15)]) (L' := [(1000, .cells [.dat tI c0])]) (by kernel_rfl) (by kernel_rfl) ?_
        refine blockQ_norm ?_
        refine seqQ_norm ?_
        obtain rfl := Option.some.inj h
        refine W_run 2 [] [0, 1, 7, 8] [1000] (fr' := [(0, aD (.slice tI) a0), (1, .one (.fn 80 [(1000, 0)])), (7, aI (List.length a0 : Int)), (8, aI (w64 (i15 + (1 : Int))))]) (L' := [(1000, .cells [.dat tI c0])]) (obs := []) (by kernel_rfl) (by kernel_rfl) (by kernel_rfl) allP0 ?_
        exact round_next' (by kernel_rfl) (by kernel_rfl)
    · obtain rfl := stepL_false h20 h
      refine W_exit (id := 0) [] [1000] (fr' := []) (L' := [(1000, .cells [.dat tI c0])]) (by kernel_rfl) (by kernel_rfl) ?_
      refine seqQ_exit ?_
      refine round_exit ?_
      refine escQ_brk ?_
      exact exQ_mk (by kernel_rfl) (by kernel_rfl)
  · intro e fr L hJ
    rcases v25 with v30 | v31
    · obtain ⟨rfl, rfl, rfl⟩ := hJ
      obtain rfl := Option.some.inj h
      refine LT_keep [4] [1000] (fr' := [(4, aI v30)]) (L' := [(1000, .cells [.dat tI c0])]) (by kernel_rfl) ?_
      refine blockQ_ret ?_
      refine seqQ_ret ?_
      exact retQ_mk (by kernel_rfl) (by kernel_rfl) (by kernel_rfl)
    · obtain ⟨rfl, rfl, rfl⟩ := hJ
      refine LT_keep [] [1000] (fr' := []) (L' := [(1000, .cells [.dat tI c0])]) (by kernel_rfl) ?_
      refine blockQ_hit ?_
      refine seqQ_norm ?_
      refine W_seq (by kernel_rfl) ?_
      refine W_run 1 [] [4] [1000] (fr' := [(4, aI (-1 : Int))]) (L' := [(1000, .cells [.dat tI c0])]) (obs := []) (by kernel_rfl) (by kernel_rfl) (by kernel_rfl) allP0 ?_
      refine seqQ_norm ?_
      obtain rfl := Option.some.inj h
      refine W_ret [4] [1000] (fr' := [(4, aI (-1 : Int))]) (L' := [(1000, .cells [.dat tI c0])]) (by kernel_rfl) (by kernel_rfl) ?_
      exact retQ_mk (by kernel_rfl) (by kernel_rfl) (by kernel_rfl)

def slices_ContainsFunc_Lintint_with_hard_wrong_1 (a0 : (List Int)) (c0 : Int) : Option Bool :=
(slices_IndexFunc_Lintint_with_hard_wrong_1 a0 c0).bind fun r1 =>
some (decide (r1 ≥ (0 : Int)))
theorem slices_ContainsFunc_Lintint_with_hard_wrong_1_ok {a0 : (List Int)} {c0 : Int} {r : Bool} (h : slices_ContainsFunc_Lintint_with_hard_wrong_1 a0 c0 = some r) : FnC Try.prog 59 [aD (.slice tI) a0, .one (.fn 80 [(1000, 0)])] [(1000, .cells [.dat tI c0])] (aB r) [(1000, .cells [.dat tI c0])] := by
  refine fnC_of_W (B := bodyOf Try.f59) (n := 9) Try.func59 (by kernel_rfl) (by kernel_rfl) (by kernel_rfl) (by kernel_rfl) (by kernel_rfl) ?_
  intro K
  refine W_seq (by kernel_rfl) ?_
  refine W_run 1 [] [0, 1] [1000] (fr' := [(0, aD (.slice tI) a0), (1, .one (.fn 80 [(1000, 0)]))]) (L' := [(1000, .cells [.dat tI c0])]) (obs := []) (by kernel_rfl) (by kernel_rfl) (by kernel_rfl) allP0 ?_
  refine seqQ_norm ?_
  refine W_seq (by kernel_rfl) ?_
  refine W_region (by kernel_rfl) ?_
  refine WO_run (j := 2) (k := 2) (orcs := []) (kF := [5, 6]) (kL := [1000]) (fr' := [(5, aD (.slice tI) a0), (6, .one (.fn 80 [(1000, 0)]))]) (L' := [(1000, .cells [.dat tI c0])]) (obs := []) rfl (by kernel_rfl) allP0 ?_
  obtain ⟨r1, h2, h⟩ := bind_of h
  refine WO_lend [(1000, 1000)] (us := [none, none]) (d := 7) (p := True) (j := 3) rfl ⟨by kernel_rfl, by kernel_rfl, by kernel_rfl⟩ trivial (slices_IndexFunc_Lintint_with_hard_wrong_1_ok h2) (by kernel_rfl) (by kernel_rfl) ?_
  refine WO_run (j := 5) (k := 2) (orcs := []) (kF := [4]) (kL := [1000]) (fr' := [(4, aB (decide (r1 ≥ (0 : Int))))]) (L' := [(1000, .cells [.dat tI c0])]) (obs := []) rfl (by kernel_rfl) allP0 ?_
  refine WO_fin [4] [1000] (fr' := [(4, aB (decide (r1 ≥ (0 : Int))))]) (L' := [(1000, .cells [.dat tI c0])]) (by kernel_rfl) (by kernel_rfl) ?_
  refine seqQ_norm ?_
  obtain rfl := Option.some.inj h
  refine W_ret [4] [1000] (fr' := [(4, aB (decide (r1 ≥ (0 : Int))))]) (L' := [(1000, .cells [.dat tI c0])]) (by kernel_rfl) (by kernel_rfl) ?_
  exact retQ_mk (by kernel_rfl) (by kernel_rfl) (by kernel_rfl)

def hard_wrong_g5 (v31 : ((List Int) × (List Int))) : Option Bool :=
bif decide ((List.length v31.1 : Int) > (3 : Int)) then
(some true)
else
(bif decide ((List.length v31.2 : Int) > (3 : Int)) then
(some true)
else
(some (decide ((w64 ((List.length v31.1 : Int) + (List.length v31.2 : Int))) > (3 : Int)))))
@[reducible] def hard_wrong_s6 (a0 : Int) (a1 : (List ((List Int) × (List Int)))) (i28 : Int) (v : Bool) : Fr × LL := ([(1, aD (.slice (.pair (.slice tI) (.slice tI))) a1), (5, .one (.fn 80 [(2, 0)])), (22, aD (.slice (.pair (.slice tI) (.slice tI))) a1), (23, aI (List.length a1 : Int)), (24, aI i28), (47, aB v)], [(2, .cells [.dat tI a0])])
def hard_wrong_b7 (i28 : Int) (v31 : ((List Int) × (List Int))) (x29 : Unit) : Option (Flow Unit (Esc Int Unit)) :=
(hard_wrong_g5 v31).bind fun v40 =>
bif v40 then
(some (.done (.ret (1 : Int))))
else
(some (.next ()))
@[reducible] def hard_wrong_s8 (a0 : Int) (a1 : (List ((List Int) × (List Int)))) (v : Int × Unit) : Fr × LL := ([(1, aD (.slice (.pair (.slice tI) (.slice tI))) a1), (5, .one (.fn 80 [(2, 0)])), (22, aD (.slice (.pair (.slice tI) (.slice tI))) a1), (23, aI (List.length a1 : Int)), (24, aI v.1)], [(2, .cells [.dat tI a0])])
@[reducible] def hard_wrong_s9 (v : Int) : Fr × LL := ([(4, aI v)], [])
@[reducible] def hard_wrong_s10 (a0 : Int) (a1 : (List ((List Int) × (List Int)))) (v : Unit) : Fr × LL := ([(1, aD (.slice (.pair (.slice tI) (.slice tI))) a1), (5, .one (.fn 80 [(2, 0)]))], [(2, .cells [.dat tI a0])])
def hard_wrong_g15 (a0 : Int) (v98 : ((List Int) × (List Int))) : Option Bool :=
(slices_ContainsFunc_Lintint_with_hard_wrong_1 v98.1 a0).bind fun r111 =>
bif r111 then
(some true)
else
((slices_ContainsFunc_Lintint_with_hard_wrong_1 v98.2 a0).bind fun r114 =>
some r114)
@[reducible] def hard_wrong_s16 (a0 : Int) (a1 : (List ((List Int) × (List Int)))) (i95 : Int) (v : Bool) : Fr × LL := ([(5, .one (.fn 80 [(2, 0)])), (49, aD (.slice (.pair (.slice tI) (.slice tI))) a1), (50, aI (List.length a1 : Int)), (51, aI i95), (64, aB v)], [(2, .cells [.dat tI a0])])
def hard_wrong_b17 (a0 : Int) (i95 : Int) (v98 : ((List Int) × (List Int))) (x96 : Unit) : Option (Flow Unit (Esc Int Unit)) :=
(hard_wrong_g15 a0 v98).bind fun v116 =>
bif v116 then
(some (.done (.ret (2 : Int))))
else
(some (.next ()))
@[reducible] def hard_wrong_s18 (a0 : Int) (a1 : (List ((List Int) × (List Int)))) (v : Int × Unit) : Fr × LL := ([(5, .one (.fn 80 [(2, 0)])), (49, aD (.slice (.pair (.slice tI) (.slice tI))) a1), (50, aI (List.length a1 : Int)), (51, aI v.1)], [(2, .cells [.dat tI a0])])
@[reducible] def hard_wrong_s19 (v : Int) : Fr × LL := ([(4, aI v)], [])
@[reducible] def hard_wrong_s20 (v : Unit) : Fr × LL := ([], [])
def hard_wrong (a0 : Int) (a1 : (List ((List Int) × (List Int)))) : Option Int :=
bif ((decide (a0 < (0 : Int))) || (decide (a0 > (8 : Int)))) || (decide ((List.length a1 : Int) > (12 : Int))) then
(some (1 : Int))
else
((forL hard_wrong_b7 (fun x29 => (.brk ())) a1 0 ()).bind fun v44 =>
match v44 with
| .ret v49 =>
(some v49)
| .brk v50 =>
((forL (hard_wrong_b17 a0) (fun x96 => (.brk ())) a1 0 ()).bind fun v120 =>
match v120 with
| .ret v125 =>
(some v125)
| .brk v126 =>
(some (0 : Int))))
theorem hard_wrong_ok {a0 : Int} {a1 : (List ((List Int) × (List Int)))} {r : Int} (h : hard_wrong a0 a1 = some r) : FnC Try.prog 62 [aI a0, aD (.slice (.pair (.slice tI) (.slice tI))) a1] [] (aI r) [] := by
  refine fnC_of_W (B := bodyOf Try.f62) (n := 66) Try.func62 (by kernel_rfl) (by kernel_rfl) (by kernel_rfl) (by kernel_rfl) (by kernel_rfl) ?_
  intro K
  refine W_seq (by kernel_rfl) ?_
  refine W_run 2 [] [1, 2] [2] (fr' := [(1, aD (.slice (.pair (.slice tI) (.slice tI))) a1), (2, .one (.ptr 2 0))]) (L' := [(2, .cells [.dat tI a0])]) (obs := []) (by kernel_rfl) (by kernel_rfl) (by kernel_rfl) allP0 ?_
  refine seqQ_norm ?_
  refine W_seq (by kernel_rfl) ?_
  refine W_seq (by kernel_rfl) ?_
  refine W_run 11 [] [1, 2, 20] [2] (fr' := [(1, aD (.slice (.pair (.slice tI) (.slice tI))) a1), (2, .one (.ptr 2 0)), (20, aB (((decide (a0 < (0 : Int))) || (decide (a0 > (8 : Int)))) || (decide ((List.length a1 : Int) > (12 : Int)))))]) (L' := [(2, .cells [.dat tI a0])]) (obs := []) (by kernel_rfl) (by kernel_rfl) (by kernel_rfl) allP0 ?_
  refine seqQ_norm ?_
  refine W_cond (o := .tmp 20) (b := ((decide (a0 < (0 : Int))) || (decide (a0 > (8 : Int)))) || (decide ((List.length a1 : Int) > (12 : Int)))) (by kernel_rfl) (by kernel_rfl) (fun h1 => ?_) (fun h1 => ?_)
  · replace h := ofT h1 h
    refine W_seq (by kernel_rfl) ?_
    refine W_run 1 [] [4] [] (fr' := [(4, aI (1 : Int))]) (L' := []) (obs := []) (by kernel_rfl) (by kernel_rfl) (by kernel_rfl) allP0 ?_
    refine seqQ_norm ?_
    obtain rfl := Option.some.inj h
    refine W_ret [4] [] (fr' := [(4, aI (1 : Int))]) (L' := []) (by kernel_rfl) (by kernel_rfl) ?_
    refine seqQ_ret ?_
    exact retQ_mk (by kernel_rfl) (by kernel_rfl) (by kernel_rfl)
  · replace h := ofF h1 h
    refine W_skip [1, 2] [2] (fr' := [(1, aD (.slice (.pair (.slice tI) (.slice tI))) a1), (2, .one (.ptr 2 0))]) (L' := [(2, .cells [.dat tI a0])]) (by kernel_rfl) (by kernel_rfl) ?_
    refine seqQ_norm ?_
    refine W_seq (by kernel_rfl) ?_
    refine W_run 2 [] [1, 5] [2] (fr' := [(1, aD (.slice (.pair (.slice tI) (.slice tI))) a1), (5, .one (.fn 80 [(2, 0)]))]) (L' := [(2, .cells [.dat tI a0])]) (obs := []) (by kernel_rfl) (by kernel_rfl) (by kernel_rfl) allP0 ?_
    refine seqQ_norm ?_
    refine W_seq (by kernel_rfl) ?_
    refine W_seq (by kernel_rfl) ?_
    refine W_run 3 [] [1, 5, 22, 23, 24] [2] (fr' := [(1, aD (.slice (.pair (.slice tI) (.slice tI))) a1), (5, .one (.fn 80 [(2, 0)])), (22, aD (.slice (.pair (.slice tI) (.slice tI))) a1), (23, aI (List.length a1 : Int)), (24, aI (0 : Int))]) (L' := [(2, .cells [.dat tI a0])]) (obs := []) (by kernel_rfl) (by kernel_rfl) (by kernel_rfl) allP0 ?_
    refine seqQ_norm ?_
    refine W_block (id := 0) (by kernel_rfl) ?_
    obtain ⟨v44, h45, h⟩ := bind_of h
    refine W_len (t := 22) (u := (.pair (.slice tI) (.slice tI))) (xs := a1) (by kernel_rfl) (fun h48 => ?_)
    obtain ⟨h46, h47⟩ := forL_iter h48 h45
    refine W_weaken [1, 5, 22, 23, 24] [2] (fr' := ((hard_wrong_s8 a0 a1) ((0 : Int), ())).1) (L' := ((hard_wrong_s8 a0 a1) ((0 : Int), ())).2) (by kernel_rfl) ?_
    refine W_cutK (W_loop (S := (hard_wrong_s8 a0 a1)) (J := (escQ (exQ .ret hard_wrong_s9) (exQ (.exit 0) (hard_wrong_s10 a0 a1)))) (by kernel_rfl) ?_ h46 _ v44 h47) ?_
    · rintro ⟨i28, x29⟩ s h
      refine W_seq (by kernel_rfl) ?_
      refine W_run 1 [] [1, 5, 22, 23, 24, 25] [2] (fr' := [(1, aD (.slice (.pair (.slice tI) (.slice tI))) a1), (5, .one (.fn 80 [(2, 0)])), (22, aD (.slice (.pair (.slice tI) (.slice tI))) a1), (23, aI (List.length a1 : Int)), (24, aI i28), (25, aB (decide (i28 < (List.length a1 : Int))))]) (L' := [(2, .cells [.dat tI a0])]) (obs := []) (by kernel_rfl) (by kernel_rfl) (by kernel_rfl) allP0 ?_
      refine seqQ_norm ?_
      refine W_seq (by kernel_rfl) ?_
      refine W_cond (o := .tmp 25) (b := decide (i28 < (List.length a1 : Int))) (by kernel_rfl) (by kernel_rfl) (fun h33 => ?_) (fun h33 => ?_)
      · replace h := stepL_true h33 h
        obtain ⟨v31, _, h32, h, rfl⟩ := h
        refine W_skip [1, 5, 22, 23, 24] [2] (fr' := [(1, aD (.slice (.pair (.slice tI) (.slice tI))) a1), (5, .one (.fn 80 [(2, 0)])), (22, aD (.slice (.pair (.slice tI) (.slice tI))) a1), (23, aI (List.length a1 : Int)), (24, aI i28)]) (L' := [(2, .cells [.dat tI a0])]) (by kernel_rfl) (by kernel_rfl) ?_
        refine seqQ_norm ?_
        refine W_seq (by kernel_rfl) ?_
        refine W_block (id := 1) (by kernel_rfl) ?_
        refine W_seq (by kernel_rfl) ?_
        refine W_run 4 [(1, .val (.dat (.pair (.slice tI) (.slice tI)) v31)), (5, .typed)] [1, 5, 7, 22, 23, 24] [2, 7] (fr' := [(1, aD (.slice (.pair (.slice tI) (.slice tI))) a1), (5, .one (.fn 80 [(2, 0)])), (7, .one (.ptr 7 0)), (22, aD (.slice (.pair (.slice tI) (.slice tI))) a1), (23, aI (List.length a1 : Int)), (24, aI i28)]) (L' := [(2, .cells [.dat tI a0]), (7, .one (.pair (.slice tI) (.slice tI)) v31)]) (obs := [Idx a1 i28 v31, True]) (by kernel_rfl) (by kernel_rfl) (by kernel_rfl) (allP2 (Idx.of h32) (allP1 trivial)) ?_
        refine seqQ_norm ?_
        refine W_seq (by kernel_rfl) ?_
        obtain ⟨v40, h41, h⟩ := bind_of h
        refine W_cutK (Q' := (exQ .normal (hard_wrong_s6 a0 a1 i28)) v40) ?_ ?_
        · replace h := h41
          refine W_region (by kernel_rfl) ?_
          refine WO_run (j := 5) (k := 5) (orcs := []) (kF := [1, 5, 7, 22, 23, 24, 32]) (kL := [2, 7]) (fr' := [(1, aD (.slice (.pair (.slice tI) (.slice tI))) a1), (5, .one (.fn 80 [(2, 0)])), (7, .one (.ptr 7 0)), (22, aD (.slice (.pair (.slice tI) (.slice tI))) a1), (23, aI (List.length a1 : Int)), (24, aI i28), (32, aB (decide ((List.length v31.1 : Int) > (3 : Int))))]) (L' := [(2, .cells [.dat tI a0]), (7, .one (.pair (.slice tI) (.slice tI)) v31)]) (obs := []) rfl (by kernel_rfl) allP0 ?_
          rcases Bool.eq_false_or_eq_true (decide ((List.length v31.1 : Int) > (3 : Int))) with h38 | h38
          · replace h := ofT h38 h
            refine WO_run (j := 20) (k := 15) (orcs := [(10, .known true), (12, .known true), (14, .known true), (16, .known true), (19, .val (.dat .bool true)), (22, .known true), (24, .known true), (26, .known true), (28, .known true), (30, .known true), (32, .known true), (34, .known true), (36, .known true), (39, .val (.dat .bool true))]) (kF := [1, 5, 22, 23, 24, 47]) (kL := [2, 7]) (fr' := [(1, aD (.slice (.pair (.slice tI) (.slice tI))) a1), (5, .one (.fn 80 [(2, 0)])), (22, aD (.slice (.pair (.slice tI) (.slice tI))) a1), (23, aI (List.length a1 : Int)), (24, aI i28), (47, aB true)]) (L' := [(2, .cells [.dat tI a0]), (7, .one (.pair (.slice tI) (.slice tI)) v31)]) (obs := [((decide ((List.length v31.1 : Int) > (3 : Int))) = true), ((decide ((List.length v31.1 : Int) > (3 : Int))) = true), ((decide ((List.length v31.1 : Int) > (3 : Int))) = true), ((decide ((List.length v31.1 : Int) > (3 : Int))) = true), ((decide ((List.length v31.1 : Int) > (3 : Int))) = true), (true = true), (true = true), (true = true), (true = true), (true = true), (true = true), (true = true), (true = true), (true = true)]) rfl (by kernel_rfl) (allP2 h38 (allP2 h38 (allP2 h38 (allP2 h38 (allP2 h38 (allP2 rfl (allP2 rfl (allP2 rfl (allP2 rfl (allP2 rfl (allP2 rfl (allP2 rfl (allP2 rfl (allP1 rfl)))))))))))))) ?_
            obtain rfl := Option.some.inj h
            refine WO_fin [1, 5, 22, 23, 24, 47] [2] (fr' := [(1, aD (.slice (.pair (.slice tI) (.slice tI))) a1), (5, .one (.fn 80 [(2, 0)])), (22, aD (.slice (.pair (.slice tI) (.slice tI))) a1), (23, aI (List.length a1 : Int)), (24, aI i28), (47, aB true)]) (L' := [(2, .cells [.dat tI a0])]) (by kernel_rfl) (by kernel_rfl) ?_
            exact exQ_mk (by kernel_rfl) (by kernel_rfl)
          · replace h := ofF h38 h
            refine WO_run (j := 11) (k := 6) (orcs := [(10, .known false), (12, .known false), (14, .known false), (16, .known false), (19, .val (.dat .bool false))]) (kF := [1, 5, 7, 22, 23, 24, 38]) (kL := [2, 7]) (fr' := [(1, aD (.slice (.pair (.slice tI) (.slice tI))) a1), (5, .one (.fn 80 [(2, 0)])), (7, .one (.ptr 7 0)), (22, aD (.slice (.pair (.slice tI) (.slice tI))) a1), (23, aI (List.length a1 : Int)), (24, aI i28), (38, aB (decide ((List.length v31.2 : Int) > (3 : Int))))]) (L' := [(2, .cells [.dat tI a0]), (7, .one (.pair (.slice tI) (.slice tI)) v31)]) (obs := [((decide ((List.length v31.1 : Int) > (3 : Int))) = false), ((decide ((List.length v31.1 : Int) > (3 : Int))) = false), ((decide ((List.length v31.1 : Int) > (3 : Int))) = false), ((decide ((List.length v31.1 : Int) > (3 : Int))) = false), ((decide ((List.length v31.1 : Int) > (3 : Int))) = false)]) rfl (by kernel_rfl) (allP2 h38 (allP2 h38 (allP2 h38 (allP2 h38 (allP1 h38))))) ?_
            rcases Bool.eq_false_or_eq_true (decide ((List.length v31.2 : Int) > (3 : Int))) with h39 | h39
            · replace h := ofT h39 h
              refine WO_run (j := 20) (k := 9) (orcs := [(22, .known true), (24, .known true), (26, .known true), (28, .known true), (30, .known true), (32, .known true), (34, .known true), (36, .known true), (39, .val (.dat .bool true))]) (kF := [1, 5, 22, 23, 24, 47]) (kL := [2, 7]) (fr' := [(1, aD (.slice (.pair (.slice tI) (.slice tI))) a1), (5, .one (.fn 80 [(2, 0)])), (22, aD (.slice (.pair (.slice tI) (.slice tI))) a1), (23, aI (List.length a1 : Int)), (24, aI i28), (47, aB true)]) (L' := [(2, .cells [.dat tI a0]), (7, .one (.pair (.slice tI) (.slice tI)) v31)]) (obs := [((decide ((List.length v31.2 : Int) > (3 : Int))) = true), ((decide ((List.length v31.2 : Int) > (3 : Int))) = true), ((decide ((List.length v31.2 : Int) > (3 : Int))) = true), ((decide ((List.length v31.2 : Int) > (3 : Int))) = true), ((decide ((List.length v31.2 : Int) > (3 : Int))) = true), ((decide ((List.length v31.2 : Int) > (3 : Int))) = true), ((decide ((List.length v31.2 : Int) > (3 : Int))) = true), ((decide ((List.length v31.2 : Int) > (3 : Int))) = true), ((decide ((List.length v31.2 : Int) > (3 : Int))) = true)]) rfl (by kernel_rfl) (allP2 h39 (allP2 h39 (allP2 h39 (allP2 h39 (allP2 h39 (allP2 h39 (allP2 h39 (allP2 h39 (allP1 h39))))))))) ?_
              obtain rfl := Option.some.inj h
              refine WO_fin [1, 5, 22, 23, 24, 47] [2] (fr' := [(1, aD (.slice (.pair (.slice tI) (.slice tI))) a1), (5, .one (.fn 80 [(2, 0)])), (22, aD (.slice (.pair (.slice tI) (.slice tI))) a1), (23, aI (List.length a1 : Int)), (24, aI i28), (47, aB true)]) (L' := [(2, .cells [.dat tI a0])]) (by kernel_rfl) (by kernel_rfl) ?_
              exact exQ_mk (by kernel_rfl) (by kernel_rfl)
            · replace h := ofF h39 h
              refine WO_run (j := 20) (k := 9) (orcs := [(22, .known false), (24, .known false), (26, .known false), (28, .known false), (30, .known false), (32, .known false), (34, .known false), (36, .known false), (39, .val (.dat .bool false))]) (kF := [1, 5, 22, 23, 24, 47]) (kL := [2, 7]) (fr' := [(1, aD (.slice (.pair (.slice tI) (.slice tI))) a1), (5, .one (.fn 80 [(2, 0)])), (22, aD (.slice (.pair (.slice tI) (.slice tI))) a1), (23, aI (List.length a1 : Int)), (24, aI i28), (47, aB (decide ((w64 ((List.length v31.1 : Int) + (List.length v31.2 : Int))) > (3 : Int))))]) (L' := [(2, .cells [.dat tI a0]), (7, .one (.pair (.slice tI) (.slice tI)) v31)]) (obs := [((decide ((List.length v31.2 : Int) > (3 : Int))) = false), ((decide ((List.length v31.2 : Int) > (3 : Int))) = false), ((decide ((List.length v31.2 : Int) > (3 : Int))) = false), ((decide ((List.length v31.2 : Int) > (3 : Int))) = false), ((decide ((List.length v31.2 : Int) > (3 : Int))) = false), ((decide ((List.length v31.2 : Int) > (3 : Int))) = false), ((decide ((List.length v31.2 : Int) > (3 : Int))) = false), ((decide ((List.length v31.2 : Int) > (3 : Int))) = false), ((decide ((List.length v31.2 : Int) > (3 : Int))) = false)]) rfl (by kernel_rfl) (allP2 h39 (allP2 h39 (allP2 h39 (allP2 h39 (allP2 h39 (allP2 h39 (allP2 h39 (allP2 h39 (allP1 h39))))))))) ?_
              obtain rfl := Option.some.inj h
              refine WO_fin [1, 5, 22, 23, 24, 47] [2] (fr' := [(1, aD (.slice (.pair (.slice tI) (.slice tI))) a1), (5, .one (.fn 80 [(2, 0)])), (22, aD (.slice (.pair (.slice tI) (.slice tI))) a1), (23, aI (List.length a1 : Int)), (24, aI i28), (47, aB (decide ((w64 ((List.length v31.1 : Int) + (List.length v31.2 : Int))) > (3 : Int))))]) (L' := [(2, .cells [.dat tI a0])]) (by kernel_rfl) (by kernel_rfl) ?_
              exact exQ_mk (by kernel_rfl) (by kernel_rfl)
        · intro e fr L hJ
          obtain ⟨rfl, rfl, rfl⟩ := hJ
          refine LT_keep [1, 5, 22, 23, 24, 47] [2] (fr' := [(1, aD (.slice (.pair (.slice tI) (.slice tI))) a1), (5, .one (.fn 80 [(2, 0)])), (22, aD (.slice (.pair (.slice tI) (.slice tI))) a1), (23, aI (List.length a1 : Int)), (24, aI i28), (47, aB v40)]) (L' := [(2, .cells [.dat tI a0])]) (by kernel_rfl) ?_
          refine seqQ_norm ?_
          refine W_cond (o := .tmp 47) (b := v40) (by kernel_rfl) (by kernel_rfl) (fun h42 => ?_) (fun h42 => ?_)
          · replace h := ofT h42 h
            refine W_seq (by kernel_rfl) ?_
            refine W_run 1 [] [4] [] (fr' := [(4, aI (1 : Int))]) (L' := []) (obs := []) (by kernel_rfl) (by kernel_rfl) (by kernel_rfl) allP0 ?_
            refine seqQ_norm ?_
            obtain rfl := Option.some.inj h
            refine W_ret [4] [] (fr' := [(4, aI (1 : Int))]) (L' := []) (by kernel_rfl) (by kernel_rfl) ?_
            refine blockQ_ret ?_
            refine seqQ_ret ?_
            refine round_ret ?_
            refine escQ_ret ?_
            exact exQ_mk (by kernel_rfl) (by kernel_rfl)
          · replace h := ofF h42 h
            refine W_skip [1, 5, 22, 23, 24] [2] (fr' := [(1, aD (.slice (.pair (.slice tI) (.slice tI))) a1), (5, .one (.fn 80 [(2, 0)])), (22, aD (.slice (.pair (.slice tI) (.slice tI))) a1), (23, aI (List.length a1 : Int)), (24, aI i28)]) (L' := [(2, .cells [.dat tI a0])]) (by kernel_rfl) (by kernel_rfl) ?_
            refine blockQ_norm ?_
            refine seqQ_norm ?_
            obtain rfl := Option.some.inj h
            refine W_run 2 [] [1, 5, 22, 23, 24] [2] (fr' := [(1, aD (.slice (.pair (.slice tI) (.slice tI))) a1), (5, .one (.fn 80 [(2, 0)])), (22, aD (.slice (.pair (.slice tI) (.slice tI))) a1), (23, aI (List.length a1 : Int)), (24, aI (w64 (i28 + (1 : Int))))]) (L' := [(2, .cells [.dat tI a0])]) (obs := []) (by kernel_rfl) (by kernel_rfl) (by kernel_rfl) allP0 ?_
            exact round_next' (by kernel_rfl) (by kernel_rfl)
      · obtain rfl := stepL_false h33 h
        refine W_exit (id := 0) [1, 5] [2] (fr' := [(1, aD (.slice (.pair (.slice tI) (.slice tI))) a1), (5, .one (.fn 80 [(2, 0)]))]) (L' := [(2, .cells [.dat tI a0])]) (by kernel_rfl) (by kernel_rfl) ?_
        refine seqQ_exit ?_
        refine round_exit ?_
        refine escQ_brk ?_
        exact exQ_mk (by kernel_rfl) (by kernel_rfl)
    · intro e fr L hJ
      rcases v44 with v49 | v50
      · obtain ⟨rfl, rfl, rfl⟩ := hJ
        obtain rfl := Option.some.inj h
        refine LT_keep [4] [] (fr' := [(4, aI v49)]) (L' := []) (by kernel_rfl) ?_
        refine blockQ_ret ?_
        refine seqQ_ret ?_
        exact retQ_mk (by kernel_rfl) (by kernel_rfl) (by kernel_rfl)
      · obtain ⟨rfl, rfl, rfl⟩ := hJ
        refine LT_keep [1, 5] [2] (fr' := [(1, aD (.slice (.pair (.slice tI) (.slice tI))) a1), (5, .one (.fn 80 [(2, 0)]))]) (L' := [(2, .cells [.dat tI a0])]) (by kernel_rfl) ?_
        refine blockQ_hit ?_
        refine seqQ_norm ?_
        refine W_seq (by kernel_rfl) ?_
        refine W_seq (by kernel_rfl) ?_
        refine W_run 3 [] [5, 49, 50, 51] [2] (fr' := [(5, .one (.fn 80 [(2, 0)])), (49, aD (.slice (.pair (.slice tI) (.slice tI))) a1), (50, aI (List.length a1 : Int)), (51, aI (0 : Int))]) (L' := [(2, .cells [.dat tI a0])]) (obs := []) (by kernel_rfl) (by kernel_rfl) (by kernel_rfl) allP0 ?_
        refine seqQ_norm ?_
        refine W_block (id := 2) (by kernel_rfl) ?_
        obtain ⟨v120, h121, h⟩ := bind_of h
        refine W_len (t := 49) (u := (.pair (.slice tI) (.slice tI))) (xs := a1) (by kernel_rfl) (fun h124 => ?_)
        obtain ⟨h122, h123⟩ := forL_iter h124 h121
        refine W_weaken [5, 49, 50, 51] [2] (fr' := ((hard_wrong_s18 a0 a1) ((0 : Int), ())).1) (L' := ((hard_wrong_s18 a0 a1) ((0 : Int), ())).2) (by kernel_rfl) ?_
        refine W_cutK (W_loop (S := (hard_wrong_s18 a0 a1)) (J := (escQ (exQ .ret hard_wrong_s19) (exQ (.exit 2) hard_wrong_s20))) (by kernel_rfl) ?_ h122 _ v120 h123) ?_
        · rintro ⟨i95, x96⟩ s h
          refine W_seq (by kernel_rfl) ?_
          refine W_run 1 [] [5, 49, 50, 51, 52] [2] (fr' := [(5, .one (.fn 80 [(2, 0)])), (49, aD (.slice (.pair (.slice tI) (.slice tI))) a1), (50, aI (List.length a1 : Int)), (51, aI i95), (52, aB (decide (i95 < (List.length a1 : Int))))]) (L' := [(2, .cells [.dat tI a0])]) (obs := []) (by kernel_rfl) (by kernel_rfl) (by kernel_rfl) allP0 ?_
          refine seqQ_norm ?_
          refine W_seq (by kernel_rfl) ?_
          refine W_cond (o := .tmp 52) (b := decide (i95 < (List.length a1 : Int))) (by kernel_rfl) (by kernel_rfl) (fun h100 => ?_) (fun h100 => ?_)
          · replace h := stepL_true h100 h
            obtain ⟨v98, _, h99, h, rfl⟩ := h
            refine W_skip [5, 49, 50, 51] [2] (fr' := [(5, .one (.fn 80 [(2, 0)])), (49, aD (.slice (.pair (.slice tI) (.slice tI))) a1), (50, aI (List.length a1 : Int)), (51, aI i95)]) (L' := [(2, .cells [.dat tI a0])]) (by kernel_rfl) (by kernel_rfl) ?_
            refine seqQ_norm ?_
            refine W_seq (by kernel_rfl) ?_
            refine W_block (id := 3) (by kernel_rfl) ?_
            refine W_seq (by kernel_rfl) ?_
            refine W_run 4 [(1, .val (.dat (.pair (.slice tI) (.slice tI)) v98)), (5, .typed)] [5, 9, 49, 50, 51] [2, 9] (fr' := [(5, .one (.fn 80 [(2, 0)])), (9, .one (.ptr 9 0)), (49, aD (.slice (.pair (.slice tI) (.slice tI))) a1), (50, aI (List.length a1 : Int)), (51, aI i95)]) (L' := [(2, .cells [.dat tI a0]), (9, .one (.pair (.slice tI) (.slice tI)) v98)]) (obs := [Idx a1 i95 v98, True]) (by kernel_rfl) (by kernel_rfl) (by kernel_rfl) (allP2 (Idx.of h99) (allP1 trivial)) ?_
            refine seqQ_norm ?_
            refine W_seq (by kernel_rfl) ?_
            obtain ⟨v116, h117, h⟩ := bind_of h
            refine W_cutK (Q' := (exQ .normal (hard_wrong_s16 a0 a1 i95)) v116) ?_ ?_
            · replace h := h117
              refine W_region (by kernel_rfl) ?_
              refine WO_run (j := 3) (k := 3) (orcs := []) (kF := [5, 9, 49, 50, 51, 56, 57]) (kL := [2, 9]) (fr' := [(5, .one (.fn 80 [(2, 0)])), (9, .one (.ptr 9 0)), (49, aD (.slice (.pair (.slice tI) (.slice tI))) a1), (50, aI (List.length a1 : Int)), (51, aI i95), (56, aD (.slice tI) v98.1), (57, .one (.fn 80 [(2, 0)]))]) (L' := [(2, .cells [.dat tI a0]), (9, .one (.pair (.slice tI) (.slice tI)) v98)]) (obs := []) rfl (by kernel_rfl) allP0 ?_
              obtain ⟨r111, h112, h⟩ := bind_of h
              refine WO_lend [(1000, 2)] (us := [none, none]) (d := 58) (p := True) (j := 4) rfl ⟨by kernel_rfl, by kernel_rfl, by kernel_rfl⟩ trivial (slices_ContainsFunc_Lintint_with_hard_wrong_1_ok h112) (by kernel_rfl) (by kernel_rfl) ?_
              refine WO_run (j := 5) (k := 1) (orcs := []) (kF := [5, 9, 49, 50, 51, 59]) (kL := [2, 9]) (fr' := [(5, .one (.fn 80 [(2, 0)])), (9, .one (.ptr 9 0)), (49, aD (.slice (.pair (.slice tI) (.slice tI))) a1), (50, aI (List.length a1 : Int)), (51, aI i95), (59, aB r111)]) (L' := [(2, .cells [.dat tI a0]), (9, .one (.pair (.slice tI) (.slice tI)) v98)]) (obs := []) rfl (by kernel_rfl) allP0 ?_
              rcases Bool.eq_false_or_eq_true (r111) with h113 | h113
              · replace h := ofT h113 h
                refine WO_run (j := 10) (k := 5) (orcs := [(10, .known true), (12, .known true), (14, .known true), (16, .known true), (19, .val (.dat .bool true))]) (kF := [5, 49, 50, 51, 64]) (kL := [2, 9]) (fr' := [(5, .one (.fn 80 [(2, 0)])), (49, aD (.slice (.pair (.slice tI) (.slice tI))) a1), (50, aI (List.length a1 : Int)), (51, aI i95), (64, aB true)]) (L' := [(2, .cells [.dat tI a0]), (9, .one (.pair (.slice tI) (.slice tI)) v98)]) (obs := [(r111 = true), (r111 = true), (r111 = true), (r111 = true), (r111 = true)]) rfl (by kernel_rfl) (allP2 h113 (allP2 h113 (allP2 h113 (allP2 h113 (allP1 h113))))) ?_
                obtain rfl := Option.some.inj h
                refine WO_fin [5, 49, 50, 51, 64] [2] (fr' := [(5, .one (.fn 80 [(2, 0)])), (49, aD (.slice (.pair (.slice tI) (.slice tI))) a1), (50, aI (List.length a1 : Int)), (51, aI i95), (64, aB true)]) (L' := [(2, .cells [.dat tI a0])]) (by kernel_rfl) (by kernel_rfl) ?_
                exact exQ_mk (by kernel_rfl) (by kernel_rfl)
              · replace h := ofF h113 h
                refine WO_run (j := 8) (k := 3) (orcs := [(10, .known false), (12, .known false), (14, .known false)]) (kF := [5, 49, 50, 51, 59, 61, 62]) (kL := [2, 9]) (fr' := [(5, .one (.fn 80 [(2, 0)])), (49, aD (.slice (.pair (.slice tI) (.slice tI))) a1), (50, aI (List.length a1 : Int)), (51, aI i95), (59, aB r111), (61, aD (.slice tI) v98.2), (62, .one (.fn 80 [(2, 0)]))]) (L' := [(2, .cells [.dat tI a0]), (9, .one (.pair (.slice tI) (.slice tI)) v98)]) (obs := [(r111 = false), (r111 = false), (r111 = false)]) rfl (by kernel_rfl) (allP2 h113 (allP2 h113 (allP1 h113))) ?_
                obtain ⟨r114, h115, h⟩ := bind_of h
                refine WO_lend [(1000, 2)] (us := [none, none]) (d := 63) (p := (r111 = false)) (j := 9) rfl ⟨by kernel_rfl, by kernel_rfl, by kernel_rfl⟩ h113 (slices_ContainsFunc_Lintint_with_hard_wrong_1_ok h115) (by kernel_rfl) (by kernel_rfl) ?_
                refine WO_run (j := 10) (k := 1) (orcs := [(19, .val (.dat .bool false))]) (kF := [5, 49, 50, 51, 64]) (kL := [2, 9]) (fr' := [(5, .one (.fn 80 [(2, 0)])), (49, aD (.slice (.pair (.slice tI) (.slice tI))) a1), (50, aI (List.length a1 : Int)), (51, aI i95), (64, aB r114)]) (L' := [(2, .cells [.dat tI a0]), (9, .one (.pair (.slice tI) (.slice tI)) v98)]) (obs := [(r111 = false)]) rfl (by kernel_rfl) (allP1 h113) ?_
                obtain rfl := Option.some.inj h
                refine WO_fin [5, 49, 50, 51, 64] [2] (fr' := [(5, .one (.fn 80 [(2, 0)])), (49, aD (.slice (.pair (.slice tI) (.slice tI))) a1), (50, aI (List.length a1 : Int)), (51, aI i95), (64, aB r114)]) (L' := [(2, .cells [.dat tI a0])]) (by kernel_rfl) (by kernel_rfl) ?_
                exact exQ_mk (by kernel_rfl) (by kernel_rfl)
            · intro e fr L hJ
              obtain ⟨rfl, rfl, rfl⟩ := hJ
              refine LT_keep [5, 49, 50, 51, 64] [2] (fr' := [(5, .one (.fn 80 [(2, 0)])), (49, aD (.slice (.pair (.slice tI) (.slice tI))) a1), (50, aI (List.length a1 : Int)), (51, aI i95), (64, aB v116)]) (L' := [(2, .cells [.dat tI a0])]) (by kernel_rfl) ?_
              refine seqQ_norm ?_
              refine W_cond (o := .tmp 64) (b := v116) (by kernel_rfl) (by kernel_rfl) (fun h118 => ?_) (fun h118 => ?_)
              · replace h := ofT h118 h
                refine W_seq (by kernel_rfl) ?_
                refine W_run 1 [] [4] [] (fr' := [(4, aI (2 : Int))]) (L' := []) (obs := []) (by kernel_rfl) (by kernel_rfl) (by kernel_rfl) allP0 ?_
                refine seqQ_norm ?_
                obtain rfl := Option.some.inj h
                refine W_ret [4] [] (fr' := [(4, aI (2 : Int))]) (L' := []) (by kernel_rfl) (by kernel_rfl) ?_
                refine blockQ_ret ?_
                refine seqQ_ret ?_
                refine round_ret ?_
                refine escQ_ret ?_
                exact exQ_mk (by kernel_rfl) (by kernel_rfl)
              · replace h := ofF h118 h
                refine W_skip [5, 49, 50, 51] [2] (fr' := [(5, .one (.fn 80 [(2, 0)])), (49, aD (.slice (.pair (.slice tI) (.slice tI))) a1), (50, aI (List.length a1 : Int)), (51, aI i95)]) (L' := [(2, .cells [.dat tI a0])]) (by kernel_rfl) (by kernel_rfl) ?_
                refine blockQ_norm ?_
                refine seqQ_norm ?_
                obtain rfl := Option.some.inj h
                refine W_run 2 [] [5, 49, 50, 51] [2] (fr' := [(5, .one (.fn 80 [(2, 0)])), (49, aD (.slice (.pair (.slice tI) (.slice tI))) a1), (50, aI (List.length a1 : Int)), (51, aI (w64 (i95 + (1 : Int))))]) (L' := [(2, .cells [.dat tI a0])]) (obs := []) (by kernel_rfl) (by kernel_rfl) (by kernel_rfl) allP0 ?_
                exact round_next' (by kernel_rfl) (by kernel_rfl)
          · obtain rfl := stepL_false h100 h
            refine W_exit (id := 2) [] [] (fr' := []) (L' := []) (by kernel_rfl) (by kernel_rfl) ?_
            refine seqQ_exit ?_
            refine round_exit ?_
            refine escQ_brk ?_
            exact exQ_mk (by kernel_rfl) (by kernel_rfl)
        · intro e fr L hJ
          rcases v120 with v125 | v126
          · obtain ⟨rfl, rfl, rfl⟩ := hJ
            obtain rfl := Option.some.inj h
            refine LT_keep [4] [] (fr' := [(4, aI v125)]) (L' := []) (by kernel_rfl) ?_
            refine blockQ_ret ?_
            refine seqQ_ret ?_
            exact retQ_mk (by kernel_rfl) (by kernel_rfl) (by kernel_rfl)
          · obtain ⟨rfl, rfl, rfl⟩ := hJ
            refine LT_keep [] [] (fr' := []) (L' := []) (by kernel_rfl) ?_
            refine blockQ_hit ?_
            refine seqQ_norm ?_
            refine W_seq (by kernel_rfl) ?_
            refine W_run 1 [] [4] [] (fr' := [(4, aI (0 : Int))]) (L' := []) (obs := []) (by kernel_rfl) (by kernel_rfl) (by kernel_rfl) allP0 ?_
            refine seqQ_norm ?_
            obtain rfl := Option.some.inj h
            refine W_ret [4] [] (fr' := [(4, aI (0 : Int))]) (L' := []) (by kernel_rfl) (by kernel_rfl) ?_
            exact retQ_mk (by kernel_rfl) (by kernel_rfl) (by kernel_rfl)

def hard_dots_b13 (i100 : Int) (i116 : Int) (v119 : Int) (x117 : (List (Int × (Int × Bool)))) : Option (Flow (List (Int × (Int × Bool))) (List (Int × (Int × Bool)))) :=
(ck ((List.length x117 : Int) + 1 ≤ 4294967296)).bind fun _ =>
some (.next (x117 ++ [(i100, v119, true)]))
@[reducible] def hard_dots_s14 (a0 : (List ((List Int) × (List Int)))) (i100 : Int) (v103 : ((List Int) × (List Int))) (v : Int × (List (Int × (Int × Bool)))) : Fr × LL := ([(3, .one (.slc 29)), (4, aI i100), (5, .one (.ptr 5 0)), (10, aD (.slice (.pair (.slice tI) (.slice tI))) a0), (11, aI (List.length a0 : Int)), (12, aI i100), (18, aD (.slice tI) v103.1), (19, aI (List.length v103.1 : Int)), (20, aI v.1)], [(29, .seq (.pair tI (.pair tI .bool)) v.2), (5, .one (.pair (.slice tI) (.slice tI)) v103)])
@[reducible] def hard_dots_s15 (a0 : (List ((List Int) × (List Int)))) (i100 : Int) (v103 : ((List Int) × (List Int))) (v : (List (Int × (Int × Bool)))) : Fr × LL := ([(3, .one (.slc 29)), (4, aI i100), (5, .one (.ptr 5 0)), (10, aD (.slice (.pair (.slice tI) (.slice tI))) a0), (11, aI (List.length a0 : Int)), (12, aI i100)], [(29, .seq (.pair tI (.pair tI .bool)) v), (5, .one (.pair (.slice tI) (.slice tI)) v103)])
def hard_dots_b16 (i100 : Int) (i139 : Int) (v142 : Int) (x140 : (List (Int × (Int × Bool)))) : Option (Flow (List (Int × (Int × Bool))) (List (Int × (Int × Bool)))) :=
(ck ((List.length x140 : Int) + 1 ≤ 4294967296)).bind fun _ =>
some (.next (x140 ++ [(i100, v142, false)]))
@[reducible] def hard_dots_s17 (a0 : (List ((List Int) × (List Int)))) (i100 : Int) (v103 : ((List Int) × (List Int))) (v : Int × (List (Int × (Int × Bool)))) : Fr × LL := ([(3, .one (.slc 29)), (4, aI i100), (10, aD (.slice (.pair (.slice tI) (.slice tI))) a0), (11, aI (List.length a0 : Int)), (12, aI i100), (32, aD (.slice tI) v103.2), (33, aI (List.length v103.2 : Int)), (34, aI v.1)], [(29, .seq (.pair tI (.pair tI .bool)) v.2)])
@[reducible] def hard_dots_s18 (a0 : (List ((List Int) × (List Int)))) (i100 : Int) (v : (List (Int × (Int × Bool)))) : Fr × LL := ([(3, .one (.slc 29)), (10, aD (.slice (.pair (.slice tI) (.slice tI))) a0), (11, aI (List.length a0 : Int)), (12, aI i100)], [(29, .seq (.pair tI (.pair tI .bool)) v)])
def hard_dots_b19 (i100 : Int) (v103 : ((List Int) × (List Int))) (x101 : (List (Int × (Int × Bool)))) : Option (Flow (List (Int × (Int × Bool))) (List (Int × (Int × Bool)))) :=
(forL (hard_dots_b13 i100) (fun x117 => x117) v103.1 0 x101).bind fun v124 =>
(forL (hard_dots_b16 i100) (fun x140 => x140) v103.2 0 v124).bind fun v147 =>
some (.next v147)
@[reducible] def hard_dots_s20 (a0 : (List ((List Int) × (List Int)))) (v : Int × (List (Int × (Int × Bool)))) : Fr × LL := ([(3, .one (.slc 29)), (10, aD (.slice (.pair (.slice tI) (.slice tI))) a0), (11, aI (List.length a0 : Int)), (12, aI v.1)], [(29, .seq (.pair tI (.pair tI .bool)) v.2)])
@[reducible] def hard_dots_s21 (v : (List (Int × (Int × Bool)))) : Fr × LL := ([(3, .one (.slc 29))], [(29, .seq (.pair tI (.pair tI .bool)) v)])
def hard_dots (a0 : (List ((List Int) × (List Int)))) : Option (List (Int × (Int × Bool))) :=
(forL hard_dots_b19 (fun x101 => x101) a0 0 []).bind fun v153 =>
some v153
theorem hard_dots_ok {a0 : (List ((List Int) × (List Int)))} {r : (List (Int × (Int × Bool)))} (h : hard_dots a0 = some r) : FnC Try.prog 63 [aD (.slice (.pair (.slice tI) (.slice tI))) a0] [] (aD (.slice (.pair tI (.pair tI .bool))) r) [] := by
  refine fnC_of_W (B := bodyOf Try.f63) (n := 47) Try.func63 (by kernel_rfl) (by kernel_rfl) (by kernel_rfl) (by kernel_rfl) (by kernel_rfl) ?_
  intro K
  refine W_seq (by kernel_rfl) ?_
  refine W_run 1 [] [0] [] (fr' := [(0, aD (.slice (.pair (.slice tI) (.slice tI))) a0)]) (L' := []) (obs := []) (by kernel_rfl) (by kernel_rfl) (by kernel_rfl) allP0 ?_
  refine seqQ_norm ?_
  refine W_seq (by kernel_rfl) ?_
  refine W_run 1 [] [0, 3] [] (fr' := [(0, aD (.slice (.pair (.slice tI) (.slice tI))) a0), (3, .one (.nilS))]) (L' := []) (obs := []) (by kernel_rfl) (by kernel_rfl) (by kernel_rfl) allP0 ?_
  refine seqQ_norm ?_
  refine W_seq (by kernel_rfl) ?_
  refine W_seq (by kernel_rfl) ?_
  refine W_run 3 [] [3, 10, 11, 12] [] (fr' := [(3, .one (.nilS)), (10, aD (.slice (.pair (.slice tI) (.slice tI))) a0), (11, aI (List.length a0 : Int)), (12, aI (0 : Int))]) (L' := []) (obs := []) (by kernel_rfl) (by kernel_rfl) (by kernel_rfl) allP0 ?_
  refine seqQ_norm ?_
  refine W_block (id := 0) (by kernel_rfl) ?_
  obtain ⟨v153, h154, h⟩ := bind_of h
  refine W_len (t := 10) (u := (.pair (.slice tI) (.slice tI))) (xs := a0) (by kernel_rfl) (fun h157 => ?_)
  obtain ⟨h155, h156⟩ := forL_iter h157 h154
  refine W_mine 3 29 (.pair tI (.pair tI .bool)) (by kernel_rfl) ?_
  refine W_weaken [3, 10, 11, 12] [29] (fr' := ((hard_dots_s20 a0) ((0 : Int), [])).1) (L' := ((hard_dots_s20 a0) ((0 : Int), [])).2) (by kernel_rfl) ?_
  refine W_cutK (W_loop (S := (hard_dots_s20 a0)) (J := (exQ (.exit 0) hard_dots_s21)) (by kernel_rfl) ?_ h155 _ v153 h156) ?_
  · rintro ⟨i100, x101⟩ s h
    refine W_seq (by kernel_rfl) ?_
    refine W_run 1 [] [3, 10, 11, 12, 13] [29] (fr' := [(3, .one (.slc 29)), (10, aD (.slice (.pair (.slice tI) (.slice tI))) a0), (11, aI (List.length a0 : Int)), (12, aI i100), (13, aB (decide (i100 < (List.length a0 : Int))))]) (L' := [(29, .seq (.pair tI (.pair tI .bool)) x101)]) (obs := []) (by kernel_rfl) (by kernel_rfl) (by kernel_rfl) allP0 ?_
    refine seqQ_norm ?_
    refine W_seq (by kernel_rfl) ?_
    refine W_cond (o := .tmp 13) (b := decide (i100 < (List.length a0 : Int))) (by kernel_rfl) (by kernel_rfl) (fun h105 => ?_) (fun h105 => ?_)
    · replace h := stepL_true h105 h
      obtain ⟨v103, _, h104, h, rfl⟩ := h
      refine W_skip [3, 10, 11, 12] [29] (fr' := [(3, .one (.slc 29)), (10, aD (.slice (.pair (.slice tI) (.slice tI))) a0), (11, aI (List.length a0 : Int)), (12, aI i100)]) (L' := [(29, .seq (.pair tI (.pair tI .bool)) x101)]) (by kernel_rfl) (by kernel_rfl) ?_
      refine seqQ_norm ?_
      refine W_seq (by kernel_rfl) ?_
      refine W_block (id := 1) (by kernel_rfl) ?_
      refine W_seq (by kernel_rfl) ?_
      refine W_run 6 [(3, .val (.dat (.pair (.slice tI) (.slice tI)) v103)), (7, .typed)] [3, 4, 5, 10, 11, 12] [29, 5] (fr' := [(3, .one (.slc 29)), (4, aI i100), (5, .one (.ptr 5 0)), (10, aD (.slice (.pair (.slice tI) (.slice tI))) a0), (11, aI (List.length a0 : Int)), (12, aI i100)]) (L' := [(29, .seq (.pair tI (.pair tI .bool)) x101), (5, .one (.pair (.slice tI) (.slice tI)) v103)]) (obs := [Idx a0 i100 v103, True]) (by kernel_rfl) (by kernel_rfl) (by kernel_rfl) (allP2 (Idx.of h104) (allP1 trivial)) ?_
      refine seqQ_norm ?_
      refine W_seq (by kernel_rfl) ?_
      refine W_seq (by kernel_rfl) ?_
      refine W_run 4 [] [3, 4, 5, 10, 11, 12, 18, 19, 20] [29, 5] (fr' := [(3, .one (.slc 29)), (4, aI i100), (5, .one (.ptr 5 0)), (10, aD (.slice (.pair (.slice tI) (.slice tI))) a0), (11, aI (List.length a0 : Int)), (12, aI i100), (18, aD (.slice tI) v103.1), (19, aI (List.length v103.1 : Int)), (20, aI (0 : Int))]) (L' := [(29, .seq (.pair tI (.pair tI .bool)) x101), (5, .one (.pair (.slice tI) (.slice tI)) v103)]) (obs := []) (by kernel_rfl) (by kernel_rfl) (by kernel_rfl) allP0 ?_
      refine seqQ_norm ?_
      refine W_block (id := 2) (by kernel_rfl) ?_
      obtain ⟨v124, h125, h⟩ := bind_of h
      refine W_len (t := 18) (u := tI) (xs := v103.1) (by kernel_rfl) (fun h128 => ?_)
      obtain ⟨h126, h127⟩ := forL_iter h128 h125
      refine W_weaken [3, 4, 5, 10, 11, 12, 18, 19, 20] [29, 5] (fr' := ((hard_dots_s14 a0 i100 v103) ((0 : Int), x101)).1) (L' := ((hard_dots_s14 a0 i100 v103) ((0 : Int), x101)).2) (by kernel_rfl) ?_
      refine W_cutK (W_loop (S := (hard_dots_s14 a0 i100 v103)) (J := (exQ (.exit 2) (hard_dots_s15 a0 i100 v103))) (by kernel_rfl) ?_ h126 _ v124 h127) ?_
      · rintro ⟨i116, x117⟩ s h
        refine W_seq (by kernel_rfl) ?_
        refine W_run 1 [] [3, 4, 5, 10, 11, 12, 18, 19, 20, 21] [29, 5] (fr' := [(3, .one (.slc 29)), (4, aI i100), (5, .one (.ptr 5 0)), (10, aD (.slice (.pair (.slice tI) (.slice tI))) a0), (11, aI (List.length a0 : Int)), (12, aI i100), (18, aD (.slice tI) v103.1), (19, aI (List.length v103.1 : Int)), (20, aI i116), (21, aB (decide (i116 < (List.length v103.1 : Int))))]) (L' := [(29, .seq (.pair tI (.pair tI .bool)) x117), (5, .one (.pair (.slice tI) (.slice tI)) v103)]) (obs := []) (by kernel_rfl) (by kernel_rfl) (by kernel_rfl) allP0 ?_
        refine seqQ_norm ?_
        refine W_seq (by kernel_rfl) ?_
        refine W_cond (o := .tmp 21) (b := decide (i116 < (List.length v103.1 : Int))) (by kernel_rfl) (by kernel_rfl) (fun h121 => ?_) (fun h121 => ?_)
        · replace h := stepL_true h121 h
          obtain ⟨v119, _, h120, h, rfl⟩ := h
          refine W_skip [3, 4, 5, 10, 11, 12, 18, 19, 20] [29, 5] (fr' := [(3, .one (.slc 29)), (4, aI i100), (5, .one (.ptr 5 0)), (10, aD (.slice (.pair (.slice tI) (.slice tI))) a0), (11, aI (List.length a0 : Int)), (12, aI i100), (18, aD (.slice tI) v103.1), (19, aI (List.length v103.1 : Int)), (20, aI i116)]) (L' := [(29, .seq (.pair tI (.pair tI .bool)) x117), (5, .one (.pair (.slice tI) (.slice tI)) v103)]) (by kernel_rfl) (by kernel_rfl) ?_
          refine seqQ_norm ?_
          refine W_seq (by kernel_rfl) ?_
          refine W_block (id := 3) (by kernel_rfl) ?_
          refine W_seq (by kernel_rfl) ?_
          refine W_run 3 [(1, .val (.dat tI v119))] [3, 4, 5, 7, 10, 11, 12, 18, 19, 20] [29, 5] (fr' := [(3, .one (.slc 29)), (4, aI i100), (5, .one (.ptr 5 0)), (7, aI v119), (10, aD (.slice (.pair (.slice tI) (.slice tI))) a0), (11, aI (List.length a0 : Int)), (12, aI i100), (18, aD (.slice tI) v103.1), (19, aI (List.length v103.1 : Int)), (20, aI i116)]) (L' := [(29, .seq (.pair tI (.pair tI .bool)) x117), (5, .one (.pair (.slice tI) (.slice tI)) v103)]) (obs := [Idx v103.1 i116 v119]) (by kernel_rfl) (by kernel_rfl) (by kernel_rfl) (allP1 (Idx.of h120)) ?_
          refine seqQ_norm ?_
          obtain ⟨_, h122, h⟩ := bind_of h
          replace h122 := ck_some h122
          refine W_run 7 [] [3, 4, 5, 10, 11, 12, 18, 19, 20] [29, 5] (fr' := [(3, .one (.slc 29)), (4, aI i100), (5, .one (.ptr 5 0)), (10, aD (.slice (.pair (.slice tI) (.slice tI))) a0), (11, aI (List.length a0 : Int)), (12, aI i100), (18, aD (.slice tI) v103.1), (19, aI (List.length v103.1 : Int)), (20, aI i116)]) (L' := [(29, .seq (.pair tI (.pair tI .bool)) (x117 ++ [(i100, v119, true)])), (5, .one (.pair (.slice tI) (.slice tI)) v103)]) (obs := [SmallLen (List.length x117 + List.length [(i100, v119, true)])]) (by kernel_rfl) (by kernel_rfl) (by kernel_rfl) (allP1 h122) ?_
          refine blockQ_norm ?_
          refine seqQ_norm ?_
          obtain rfl := Option.some.inj h
          refine W_run 2 [] [3, 4, 5, 10, 11, 12, 18, 19, 20] [29, 5] (fr' := [(3, .one (.slc 29)), (4, aI i100), (5, .one (.ptr 5 0)), (10, aD (.slice (.pair (.slice tI) (.slice tI))) a0), (11, aI (List.length a0 : Int)), (12, aI i100), (18, aD (.slice tI) v103.1), (19, aI (List.length v103.1 : Int)), (20, aI (w64 (i116 + (1 : Int))))]) (L' := [(29, .seq (.pair tI (.pair tI .bool)) (x117 ++ [(i100, v119, true)])), (5, .one (.pair (.slice tI) (.slice tI)) v103)]) (obs := []) (by kernel_rfl) (by kernel_rfl) (by kernel_rfl) allP0 ?_
          exact round_next' (by kernel_rfl) (by kernel_rfl)
        · obtain rfl := stepL_false h121 h
          refine W_exit (id := 2) [3, 4, 5, 10, 11, 12] [29, 5] (fr' := [(3, .one (.slc 29)), (4, aI i100), (5, .one (.ptr 5 0)), (10, aD (.slice (.pair (.slice tI) (.slice tI))) a0), (11, aI (List.length a0 : Int)), (12, aI i100)]) (L' := [(29, .seq (.pair tI (.pair tI .bool)) x117), (5, .one (.pair (.slice tI) (.slice tI)) v103)]) (by kernel_rfl) (by kernel_rfl) ?_
          refine seqQ_exit ?_
          refine round_exit ?_
          exact exQ_mk (by kernel_rfl) (by kernel_rfl)
      · intro e fr L hJ
        obtain ⟨rfl, rfl, rfl⟩ := hJ
        refine LT_keep [3, 4, 5, 10, 11, 12] [29, 5] (fr' := [(3, .one (.slc 29)), (4, aI i100), (5, .one (.ptr 5 0)), (10, aD (.slice (.pair (.slice tI) (.slice tI))) a0), (11, aI (List.length a0 : Int)), (12, aI i100)]) (L' := [(29, .seq (.pair tI (.pair tI .bool)) v124), (5, .one (.pair (.slice tI) (.slice tI)) v103)]) (by kernel_rfl) ?_
        refine blockQ_hit ?_
        refine seqQ_norm ?_
        refine W_seq (by kernel_rfl) ?_
        refine W_run 4 [] [3, 4, 10, 11, 12, 32, 33, 34] [29] (fr' := [(3, .one (.slc 29)), (4, aI i100), (10, aD (.slice (.pair (.slice tI) (.slice tI))) a0), (11, aI (List.length a0 : Int)), (12, aI i100), (32, aD (.slice tI) v103.2), (33, aI (List.length v103.2 : Int)), (34, aI (0 : Int))]) (L' := [(29, .seq (.pair tI (.pair tI .bool)) v124)]) (obs := []) (by kernel_rfl) (by kernel_rfl) (by kernel_rfl) allP0 ?_
        refine seqQ_norm ?_
        refine W_block (id := 4) (by kernel_rfl) ?_
        obtain ⟨v147, h148, h⟩ := bind_of h
        refine W_len (t := 32) (u := tI) (xs := v103.2) (by kernel_rfl) (fun h151 => ?_)
        obtain ⟨h149, h150⟩ := forL_iter h151 h148
        refine W_weaken [3, 4, 10, 11, 12, 32, 33, 34] [29] (fr' := ((hard_dots_s17 a0 i100 v103) ((0 : Int), v124)).1) (L' := ((hard_dots_s17 a0 i100 v103) ((0 : Int), v124)).2) (by kernel_rfl) ?_
        refine W_cutK (W_loop (S := (hard_dots_s17 a0 i100 v103)) (J := (exQ (.exit 4) (hard_dots_s18 a0 i100))) (by kernel_rfl) ?_ h149 _ v147 h150) ?_
        · rintro ⟨i139, x140⟩ s h
          refine W_seq (by kernel_rfl) ?_
          refine W_run 1 [] [3, 4, 10, 11, 12, 32, 33, 34, 35] [29] (fr' := [(3, .one (.slc 29)), (4, aI i100), (10, aD (.slice (.pair (.slice tI) (.slice tI))) a0), (11, aI (List.length a0 : Int)), (12, aI i100), (32, aD (.slice tI) v103.2), (33, aI (List.length v103.2 : Int)), (34, aI i139), (35, aB (decide (i139 < (List.length v103.2 : Int))))]) (L' := [(29, .seq (.pair tI (.pair tI .bool)) x140)]) (obs := []) (by kernel_rfl) (by kernel_rfl) (by kernel_rfl) allP0 ?_
          refine seqQ_norm ?_
          refine W_seq (by kernel_rfl) ?_
          refine W_cond (o := .tmp 35) (b := decide (i139 < (List.length v103.2 : Int))) (by kernel_rfl) (by kernel_rfl) (fun h144 => ?_) (fun h144 => ?_)
          · replace h := stepL_true h144 h
            obtain ⟨v142, _, h143, h, rfl⟩ := h
            refine W_skip [3, 4, 10, 11, 12, 32, 33, 34] [29] (fr' := [(3, .one (.slc 29)), (4, aI i100), (10, aD (.slice (.pair (.slice tI) (.slice tI))) a0), (11, aI (List.length a0 : Int)), (12, aI i100), (32, aD (.slice tI) v103.2), (33, aI (List.length v103.2 : Int)), (34, aI i139)]) (L' := [(29, .seq (.pair tI (.pair tI .bool)) x140)]) (by kernel_rfl) (by kernel_rfl) ?_
            refine seqQ_norm ?_
            refine W_seq (by kernel_rfl) ?_
            refine W_block (id := 5) (by kernel_rfl) ?_
            refine W_seq (by kernel_rfl) ?_
            refine W_run 3 [(1, .val (.dat tI v142))] [3, 4, 9, 10, 11, 12, 32, 33, 34] [29] (fr' := [(3, .one (.slc 29)), (4, aI i100), (9, aI v142), (10, aD (.slice (.pair (.slice tI) (.slice tI))) a0), (11, aI (List.length a0 : Int)), (12, aI i100), (32, aD (.slice tI) v103.2), (33, aI (List.length v103.2 : Int)), (34, aI i139)]) (L' := [(29, .seq (.pair tI (.pair tI .bool)) x140)]) (obs := [Idx v103.2 i139 v142]) (by kernel_rfl) (by kernel_rfl) (by kernel_rfl) (allP1 (Idx.of h143)) ?_
            refine seqQ_norm ?_
            obtain ⟨_, h145, h⟩ := bind_of h
            replace h145 := ck_some h145
            refine W_run 7 [] [3, 4, 10, 11, 12, 32, 33, 34] [29] (fr' := [(3, .one (.slc 29)), (4, aI i100), (10, aD (.slice (.pair (.slice tI) (.slice tI))) a0), (11, aI (List.length a0 : Int)), (12, aI i100), (32, aD (.slice tI) v103.2), (33, aI (List.length v103.2 : Int)), (34, aI i139)]) (L' := [(29, .seq (.pair tI (.pair tI .bool)) (x140 ++ [(i100, v142, false)]))]) (obs := [SmallLen (List.length x140 + List.length [(i100, v142, false)])]) (by kernel_rfl) (by kernel_rfl) (by kernel_rfl) (allP1 h145) ?_
            refine blockQ_norm ?_
            refine seqQ_norm ?_
            obtain rfl := Option.some.inj h
            refine W_run 2 [] [3, 4, 10, 11, 12, 32, 33, 34] [29] (fr' := [(3, .one (.slc 29)), (4, aI i100), (10, aD (.slice (.pair (.slice tI) (.slice tI))) a0), (11, aI (List.length a0 : Int)), (12, aI i100), (32, aD (.slice tI) v103.2), (33, aI (List.length v103.2 : Int)), (34, aI (w64 (i139 + (1 : Int))))]) (L' := [(29, .seq (.pair tI (.pair tI .bool)) (x140 ++ [(i100, v142, false)]))]) (obs := []) (by kernel_rfl) (by kernel_rfl) (by kernel_rfl) allP0 ?_
            exact round_next' (by kernel_rfl) (by kernel_rfl)
          · obtain rfl := stepL_false h144 h
            refine W_exit (id := 4) [3, 10, 11, 12] [29] (fr' := [(3, .one (.slc 29)), (10, aD (.slice (.pair (.slice tI) (.slice tI))) a0), (11, aI (List.length a0 : Int)), (12, aI i100)]) (L' := [(29, .seq (.pair tI (.pair tI .bool)) x140)]) (by kernel_rfl) (by kernel_rfl) ?_
            refine seqQ_exit ?_
            refine round_exit ?_
            exact exQ_mk (by kernel_rfl) (by kernel_rfl)
        · intro e fr L hJ
          obtain ⟨rfl, rfl, rfl⟩ := hJ
          refine LT_keep [3, 10, 11, 12] [29] (fr' := [(3, .one (.slc 29)), (10, aD (.slice (.pair (.slice tI) (.slice tI))) a0), (11, aI (List.length a0 : Int)), (12, aI i100)]) (L' := [(29, .seq (.pair tI (.pair tI .bool)) v147)]) (by kernel_rfl) ?_
          refine blockQ_hit ?_
          refine blockQ_norm ?_
          refine seqQ_norm ?_
          obtain rfl := Option.some.inj h
          refine W_run 2 [] [3, 10, 11, 12] [29] (fr' := [(3, .one (.slc 29)), (10, aD (.slice (.pair (.slice tI) (.slice tI))) a0), (11, aI (List.length a0 : Int)), (12, aI (w64 (i100 + (1 : Int))))]) (L' := [(29, .seq (.pair tI (.pair tI .bool)) v147)]) (obs := []) (by kernel_rfl) (by kernel_rfl) (by kernel_rfl) allP0 ?_
          exact round_next' (by kernel_rfl) (by kernel_rfl)
    · obtain rfl := stepL_false h105 h
      refine W_exit (id := 0) [3] [29] (fr' := [(3, .one (.slc 29))]) (L' := [(29, .seq (.pair tI (.pair tI .bool)) x101)]) (by kernel_rfl) (by kernel_rfl) ?_
      refine seqQ_exit ?_
      refine round_exit ?_
      exact exQ_mk (by kernel_rfl) (by kernel_rfl)
  · intro e fr L hJ
    obtain ⟨rfl, rfl, rfl⟩ := hJ
    refine LT_keep [3] [29] (fr' := [(3, .one (.slc 29))]) (L' := [(29, .seq (.pair tI (.pair tI .bool)) v153)]) (by kernel_rfl) ?_
    refine blockQ_hit ?_
    refine seqQ_norm ?_
    refine W_seq (by kernel_rfl) ?_
    refine W_run 2 [] [2] [29] (fr' := [(2, .one (.slc 29))]) (L' := [(29, .seq (.pair tI (.pair tI .bool)) v153)]) (obs := []) (by kernel_rfl) (by kernel_rfl) (by kernel_rfl) allP0 ?_
    refine seqQ_norm ?_
    obtain rfl := Option.some.inj h
    refine W_frz 29 (by kernel_rfl) ?_
    refine W_ret [2] [] (fr' := [(2, aD (.slice (.pair tI (.pair tI .bool))) v153)]) (L' := []) (by kernel_rfl) (by kernel_rfl) ?_
    exact retQ_mk (by kernel_rfl) (by kernel_rfl) (by kernel_rfl)

def hard_Dots_g74 (i317 : Int) (v320 : (Int × (Int × Bool))) (i421 : Int) (v424 : (Int × (Int × Bool))) : Option Bool :=
bif decide (i317 < i421) then
(bif v320.1 == v424.1 then
(some true)
else
(bif v320.2.1 == v424.2.1 then
(some (!(v320.2.2 == v424.2.2)))
else
(some false)))
else
(some false)
@[reducible] def hard_Dots_s75 (r4 : (List (Int × (Int × Bool)))) (i317 : Int) (v320 : (Int × (Int × Bool))) (i421 : Int) (x422 : (List (List Int))) (v : Bool) : Fr × LL := ([(8, aD (.slice (.pair tI (.pair tI .bool))) r4), (9, .one (.slc 65)), (10, aI i317), (11, .one (.ptr 11 0)), (12, aI i421), (22, aD (.slice (.pair tI (.pair tI .bool))) r4), (23, aI (List.length r4 : Int)), (24, aI i317), (29, aD (.slice (.pair tI (.pair tI .bool))) r4), (30, aI (List.length r4 : Int)), (31, aI i421), (59, aB v)], [(65, .seq (.arr 2 tI) x422), (11, .one (.pair tI (.pair tI .bool)) v320)])
def hard_Dots_g76 (i317 : Int) (v320 : (Int × (Int × Bool))) (i421 : Int) (x422 : (List (List Int))) (v424 : (Int × (Int × Bool))) : Option (List (List Int)) :=
(hard_Dots_g74 i317 v320 i421 v424).bind fun v462 =>
bif v462 then
((ck ((List.length x422 : Int) + 1 ≤ 4294967296)).bind fun _ =>
some (x422 ++ [[i317, i421]]))
else
(some x422)
@[reducible] def hard_Dots_s77 (r4 : (List (Int × (Int × Bool)))) (i317 : Int) (v320 : (Int × (Int × Bool))) (i421 : Int) (v : (List (List Int))) : Fr × LL := ([(8, aD (.slice (.pair tI (.pair tI .bool))) r4), (9, .one (.slc 65)), (10, aI i317), (11, .one (.ptr 11 0)), (22, aD (.slice (.pair tI (.pair tI .bool))) r4), (23, aI (List.length r4 : Int)), (24, aI i317), (29, aD (.slice (.pair tI (.pair tI .bool))) r4), (30, aI (List.length r4 : Int)), (31, aI i421)], [(65, .seq (.arr 2 tI) v), (11, .one (.pair tI (.pair tI .bool)) v320)])
def hard_Dots_b78 (i317 : Int) (v320 : (Int × (Int × Bool))) (i421 : Int) (v424 : (Int × (Int × Bool))) (x422 : (List (List Int))) : Option (Flow (List (List Int)) (List (List Int))) :=
(hard_Dots_g76 i317 v320 i421 x422 v424).bind fun v466 =>
some (.next v466)
@[reducible] def hard_Dots_s79 (r4 : (List (Int × (Int × Bool)))) (i317 : Int) (v320 : (Int × (Int × Bool))) (v : Int × (List (List Int))) : Fr × LL := ([(8, aD (.slice (.pair tI (.pair tI .bool))) r4), (9, .one (.slc 65)), (10, aI i317), (11, .one (.ptr 11 0)), (22, aD (.slice (.pair tI (.pair tI .bool))) r4), (23, aI (List.length r4 : Int)), (24, aI i317), (29, aD (.slice (.pair tI (.pair tI .bool))) r4), (30, aI (List.length r4 : Int)), (31, aI v.1)], [(65, .seq (.arr 2 tI) v.2), (11, .one (.pair tI (.pair tI .bool)) v320)])
@[reducible] def hard_Dots_s80 (r4 : (List (Int × (Int × Bool)))) (i317 : Int) (v : (List (List Int))) : Fr × LL := ([(8, aD (.slice (.pair tI (.pair tI .bool))) r4), (9, .one (.slc 65)), (22, aD (.slice (.pair tI (.pair tI .bool))) r4), (23, aI (List.length r4 : Int)), (24, aI i317)], [(65, .seq (.arr 2 tI) v)])
def hard_Dots_b81 (r4 : (List (Int × (Int × Bool)))) (i317 : Int) (v320 : (Int × (Int × Bool))) (x318 : (List (List Int))) : Option (Flow (List (List Int)) (List (List Int))) :=
(forL (hard_Dots_b78 i317 v320) (fun x422 => x422) r4 0 x318).bind fun v469 =>
some (.next v469)
@[reducible] def hard_Dots_s82 (r4 : (List (Int × (Int × Bool)))) (v : Int × (List (List Int))) : Fr × LL := ([(8, aD (.slice (.pair tI (.pair tI .bool))) r4), (9, .one (.slc 65)), (22, aD (.slice (.pair tI (.pair tI .bool))) r4), (23, aI (List.length r4 : Int)), (24, aI v.1)], [(65, .seq (.arr 2 tI) v.2)])
@[reducible] def hard_Dots_s83 (r4 : (List (Int × (Int × Bool)))) (v : (List (List Int))) : Fr × LL := ([(8, aD (.slice (.pair tI (.pair tI .bool))) r4), (9, .one (.slc 65))], [(65, .seq (.arr 2 tI) v)])
def hard_Dots (a0 : Int) (a1 : (List ((List Int) × (List Int)))) : Option (Int × (List (List Int)) × Int) :=
(hard_wrong a0 a1).bind fun r1 =>
bif r1 != (0 : Int) then
(some ((0 : Int), [], r1))
else
((hard_dots a1).bind fun r4 =>
(forL (hard_Dots_b81 r4) (fun x318 => x318) r4 0 []).bind fun v475 =>
some ((List.length r4 : Int), v475, (0 : Int)))
theorem hard_Dots_ok {a0 : Int} {a1 : (List ((List Int) × (List Int)))} {r : (Int × (List (List Int)) × Int)} (h : hard_Dots a0 a1 = some r) : FnC Try.prog 38 [aI a0, aD (.slice (.pair (.slice tI) (.slice tI))) a1] [] (.tup [.dat tI r.1, .dat (.slice (.arr 2 tI)) r.2.1, .dat tI r.2.2]) [] := by
  refine fnC_of_W (B := bodyOf Try.f38) (n := 71) Try.func38 (by kernel_rfl) (by kernel_rfl) (by kernel_rfl) (by kernel_rfl) (by kernel_rfl) ?_
  intro K
  refine W_seq (by kernel_rfl) ?_
  refine W_run 3 [] [0, 1] [] (fr' := [(0, aI a0), (1, aD (.slice (.pair (.slice tI) (.slice tI))) a1)]) (L' := []) (obs := []) (by kernel_rfl) (by kernel_rfl) (by kernel_rfl) allP0 ?_
  refine seqQ_norm ?_
  refine W_seq (by kernel_rfl) ?_
  refine W_seq (by kernel_rfl) ?_
  refine W_region (by kernel_rfl) ?_
  refine WO_run (j := 2) (k := 2) (orcs := []) (kF := [1, 14, 15]) (kL := []) (fr' := [(1, aD (.slice (.pair (.slice tI) (.slice tI))) a1), (14, aI a0), (15, aD (.slice (.pair (.slice tI) (.slice tI))) a1)]) (L' := []) (obs := []) rfl (by kernel_rfl) allP0 ?_
  obtain ⟨r1, h2, h⟩ := bind_of h
  refine WO_call0 (us := [none, none]) (d := 16) (p := True) (j := 3) rfl ⟨by kernel_rfl, by kernel_rfl, by kernel_rfl⟩ trivial (hard_wrong_ok h2) (by kernel_rfl) ?_
  refine WO_run (j := 4) (k := 1) (orcs := []) (kF := [1, 7]) (kL := []) (fr' := [(1, aD (.slice (.pair (.slice tI) (.slice tI))) a1), (7, aI r1)]) (L' := []) (obs := []) rfl (by kernel_rfl) allP0 ?_
  refine WO_fin [1, 7] [] (fr' := [(1, aD (.slice (.pair (.slice tI) (.slice tI))) a1), (7, aI r1)]) (L' := []) (by kernel_rfl) (by kernel_rfl) ?_
  refine seqQ_norm ?_
  refine W_seq (by kernel_rfl) ?_
  refine W_run 2 [] [1, 7, 18] [] (fr' := [(1, aD (.slice (.pair (.slice tI) (.slice tI))) a1), (7, aI r1), (18, aB (r1 != (0 : Int)))]) (L' := []) (obs := []) (by kernel_rfl) (by kernel_rfl) (by kernel_rfl) allP0 ?_
  refine seqQ_norm ?_
  refine W_cond (o := .tmp 18) (b := r1 != (0 : Int)) (by kernel_rfl) (by kernel_rfl) (fun h3 => ?_) (fun h3 => ?_)
  · replace h := ofT h3 h
    refine W_seq (by kernel_rfl) ?_
    refine W_run 4 [] [4, 5, 6] [] (fr' := [(4, aI (0 : Int)), (5, .one (.nilS)), (6, aI r1)]) (L' := []) (obs := []) (by kernel_rfl) (by kernel_rfl) (by kernel_rfl) allP0 ?_
    refine seqQ_norm ?_
    obtain rfl := Option.some.inj h
    refine W_cnv 5 (.slice (.arr 2 tI)) (by kernel_rfl) ?_
    refine W_ret [4, 5, 6] [] (fr' := [(4, aI (0 : Int)), (5, aD (.slice (.arr 2 tI)) []), (6, aI r1)]) (L' := []) (by kernel_rfl) (by kernel_rfl) ?_
    refine seqQ_ret ?_
    exact retQ_mk (by kernel_rfl) (by kernel_rfl) (by kernel_rfl)
  · replace h := ofF h3 h
    refine W_skip [1] [] (fr' := [(1, aD (.slice (.pair (.slice tI) (.slice tI))) a1)]) (L' := []) (by kernel_rfl) (by kernel_rfl) ?_
    refine seqQ_norm ?_
    refine W_seq (by kernel_rfl) ?_
    refine W_region (by kernel_rfl) ?_
    refine WO_run (j := 1) (k := 1) (orcs := []) (kF := [20]) (kL := []) (fr' := [(20, aD (.slice (.pair (.slice tI) (.slice tI))) a1)]) (L' := []) (obs := []) rfl (by kernel_rfl) allP0 ?_
    obtain ⟨r4, h5, h⟩ := bind_of h
    refine WO_call0 (us := [none]) (d := 21) (p := True) (j := 2) rfl ⟨by kernel_rfl, by kernel_rfl, by kernel_rfl⟩ trivial (hard_dots_ok h5) (by kernel_rfl) ?_
    refine WO_run (j := 3) (k := 1) (orcs := []) (kF := [8]) (kL := []) (fr' := [(8, aD (.slice (.pair tI (.pair tI .bool))) r4)]) (L' := []) (obs := []) rfl (by kernel_rfl) allP0 ?_
    refine WO_fin [8] [] (fr' := [(8, aD (.slice (.pair tI (.pair tI .bool))) r4)]) (L' := []) (by kernel_rfl) (by kernel_rfl) ?_
    refine seqQ_norm ?_
    refine W_seq (by kernel_rfl) ?_
    refine W_run 1 [] [8, 9] [] (fr' := [(8, aD (.slice (.pair tI (.pair tI .bool))) r4), (9, .one (.nilS))]) (L' := []) (obs := []) (by kernel_rfl) (by kernel_rfl) (by kernel_rfl) allP0 ?_
    refine seqQ_norm ?_
    refine W_seq (by kernel_rfl) ?_
    refine W_seq (by kernel_rfl) ?_
    refine W_run 3 [] [8, 9, 22, 23, 24] [] (fr' := [(8, aD (.slice (.pair tI (.pair tI .bool))) r4), (9, .one (.nilS)), (22, aD (.slice (.pair tI (.pair tI .bool))) r4), (23, aI (List.length r4 : Int)), (24, aI (0 : Int))]) (L' := []) (obs := []) (by kernel_rfl) (by kernel_rfl) (by kernel_rfl) allP0 ?_
    refine seqQ_norm ?_
    refine W_block (id := 0) (by kernel_rfl) ?_
    obtain ⟨v475, h476, h⟩ := bind_of h
    refine W_len (t := 22) (u := (.pair tI (.pair tI .bool))) (xs := r4) (by kernel_rfl) (fun h479 => ?_)
    obtain ⟨h477, h478⟩ := forL_iter h479 h476
    refine W_mine 9 65 (.arr 2 tI) (by kernel_rfl) ?_
    refine W_weaken [8, 9, 22, 23, 24] [65] (fr' := ((hard_Dots_s82 r4) ((0 : Int), [])).1) (L' := ((hard_Dots_s82 r4) ((0 : Int), [])).2) (by kernel_rfl) ?_
    refine W_cutK (W_loop (S := (hard_Dots_s82 r4)) (J := (exQ (.exit 0) (hard_Dots_s83 r4))) (by kernel_rfl) ?_ h477 _ v475 h478) ?_
    · rintro ⟨i317, x318⟩ s h
      refine W_seq (by kernel_rfl) ?_
      refine W_run 1 [] [8, 9, 22, 23, 24, 25] [65] (fr' := [(8, aD (.slice (.pair tI (.pair tI .bool))) r4), (9, .one (.slc 65)), (22, aD (.slice (.pair tI (.pair tI .bool))) r4), (23, aI (List.length r4 : Int)), (24, aI i317), (25, aB (decide (i317 < (List.length r4 : Int))))]) (L' := [(65, .seq (.arr 2 tI) x318)]) (obs := []) (by kernel_rfl) (by kernel_rfl) (by kernel_rfl) allP0 ?_
      refine seqQ_norm ?_
      refine W_seq (by kernel_rfl) ?_
      refine W_cond (o := .tmp 25) (b := decide (i317 < (List.length r4 : Int))) (by kernel_rfl) (by kernel_rfl) (fun h322 => ?_) (fun h322 => ?_)
      · replace h := stepL_true h322 h
        obtain ⟨v320, _, h321, h, rfl⟩ := h
        refine W_skip [8, 9, 22, 23, 24] [65] (fr' := [(8, aD (.slice (.pair tI (.pair tI .bool))) r4), (9, .one (.slc 65)), (22, aD (.slice (.pair tI (.pair tI .bool))) r4), (23, aI (List.length r4 : Int)), (24, aI i317)]) (L' := [(65, .seq (.arr 2 tI) x318)]) (by kernel_rfl) (by kernel_rfl) ?_
        refine seqQ_norm ?_
        refine W_seq (by kernel_rfl) ?_
        refine W_block (id := 1) (by kernel_rfl) ?_
        refine W_seq (by kernel_rfl) ?_
        refine W_run 6 [(3, .val (.dat (.pair tI (.pair tI .bool)) v320)), (7, .typed)] [8, 9, 10, 11, 22, 23, 24] [65, 11] (fr' := [(8, aD (.slice (.pair tI (.pair tI .bool))) r4), (9, .one (.slc 65)), (10, aI i317), (11, .one (.ptr 11 0)), (22, aD (.slice (.pair tI (.pair tI .bool))) r4), (23, aI (List.length r4 : Int)), (24, aI i317)]) (L' := [(65, .seq (.arr 2 tI) x318), (11, .one (.pair tI (.pair tI .bool)) v320)]) (obs := [Idx r4 i317 v320, True]) (by kernel_rfl) (by kernel_rfl) (by kernel_rfl) (allP2 (Idx.of h321) (allP1 trivial)) ?_
        refine seqQ_norm ?_
        refine W_seq (by kernel_rfl) ?_
        refine W_run 3 [] [8, 9, 10, 11, 22, 23, 24, 29, 30, 31] [65, 11] (fr' := [(8, aD (.slice (.pair tI (.pair tI .bool))) r4), (9, .one (.slc 65)), (10, aI i317), (11, .one (.ptr 11 0)), (22, aD (.slice (.pair tI (.pair tI .bool))) r4), (23, aI (List.length r4 : Int)), (24, aI i317), (29, aD (.slice (.pair tI (.pair tI .bool))) r4), (30, aI (List.length r4 : Int)), (31, aI (0 : Int))]) (L' := [(65, .seq (.arr 2 tI) x318), (11, .one (.pair tI (.pair tI .bool)) v320)]) (obs := []) (by kernel_rfl) (by kernel_rfl) (by kernel_rfl) allP0 ?_
        refine seqQ_norm ?_
        refine W_block (id := 2) (by kernel_rfl) ?_
        obtain ⟨v469, h470, h⟩ := bind_of h
        refine W_len (t := 29) (u := (.pair tI (.pair tI .bool))) (xs := r4) (by kernel_rfl) (fun h473 => ?_)
        obtain ⟨h471, h472⟩ := forL_iter h473 h470
        refine W_weaken [8, 9, 10, 11, 22, 23, 24, 29, 30, 31] [65, 11] (fr' := ((hard_Dots_s79 r4 i317 v320) ((0 : Int), x318)).1) (L' := ((hard_Dots_s79 r4 i317 v320) ((0 : Int), x318)).2) (by kernel_rfl) ?_
        refine W_cutK (W_loop (S := (hard_Dots_s79 r4 i317 v320)) (J := (exQ (.exit 2) (hard_Dots_s80 r4 i317))) (by kernel_rfl) ?_ h471 _ v469 h472) ?_
        · rintro ⟨i421, x422⟩ s h
          refine W_seq (by kernel_rfl) ?_
          refine W_run 1 [] [8, 9, 10, 11, 22, 23, 24, 29, 30, 31, 32] [65, 11] (fr' := [(8, aD (.slice (.pair tI (.pair tI .bool))) r4), (9, .one (.slc 65)), (10, aI i317), (11, .one (.ptr 11 0)), (22, aD (.slice (.pair tI (.pair tI .bool))) r4), (23, aI (List.length r4 : Int)), (24, aI i317), (29, aD (.slice (.pair tI (.pair tI .bool))) r4), (30, aI (List.length r4 : Int)), (31, aI i421), (32, aB (decide (i421 < (List.length r4 : Int))))]) (L' := [(65, .seq (.arr 2 tI) x422), (11, .one (.pair tI (.pair tI .bool)) v320)]) (obs := []) (by kernel_rfl) (by kernel_rfl) (by kernel_rfl) allP0 ?_
          refine seqQ_norm ?_
          refine W_seq (by kernel_rfl) ?_
          refine W_cond (o := .tmp 32) (b := decide (i421 < (List.length r4 : Int))) (by kernel_rfl) (by kernel_rfl) (fun h426 => ?_) (fun h426 => ?_)
          · replace h := stepL_true h426 h
            obtain ⟨v424, _, h425, h, rfl⟩ := h
            refine W_skip [8, 9, 10, 11, 22, 23, 24, 29, 30, 31] [65, 11] (fr' := [(8, aD (.slice (.pair tI (.pair tI .bool))) r4), (9, .one (.slc 65)), (10, aI i317), (11, .one (.ptr 11 0)), (22, aD (.slice (.pair tI (.pair tI .bool))) r4), (23, aI (List.length r4 : Int)), (24, aI i317), (29, aD (.slice (.pair tI (.pair tI .bool))) r4), (30, aI (List.length r4 : Int)), (31, aI i421)]) (L' := [(65, .seq (.arr 2 tI) x422), (11, .one (.pair tI (.pair tI .bool)) v320)]) (by kernel_rfl) (by kernel_rfl) ?_
            refine seqQ_norm ?_
            refine W_seq (by kernel_rfl) ?_
            obtain ⟨v466, h467, h⟩ := bind_of h
            refine W_cutK (Q' := (exQ .normal (hard_Dots_s77 r4 i317 v320 i421)) v466) ?_ ?_
            · replace h := h467
              refine W_block (id := 3) (by kernel_rfl) ?_
              refine W_seq (by kernel_rfl) ?_
              refine W_run 6 [(3, .val (.dat (.pair tI (.pair tI .bool)) v424)), (7, .typed)] [8, 9, 10, 11, 12, 13, 22, 23, 24, 29, 30, 31] [65, 11, 13] (fr' := [(8, aD (.slice (.pair tI (.pair tI .bool))) r4), (9, .one (.slc 65)), (10, aI i317), (11, .one (.ptr 11 0)), (12, aI i421), (13, .one (.ptr 13 0)), (22, aD (.slice (.pair tI (.pair tI .bool))) r4), (23, aI (List.length r4 : Int)), (24, aI i317), (29, aD (.slice (.pair tI (.pair tI .bool))) r4), (30, aI (List.length r4 : Int)), (31, aI i421)]) (L' := [(65, .seq (.arr 2 tI) x422), (11, .one (.pair tI (.pair tI .bool)) v320), (13, .one (.pair tI (.pair tI .bool)) v424)]) (obs := [Idx r4 i421 v424, True]) (by kernel_rfl) (by kernel_rfl) (by kernel_rfl) (allP2 (Idx.of h425) (allP1 trivial)) ?_
              refine seqQ_norm ?_
              refine W_seq (by kernel_rfl) ?_
              obtain ⟨v462, h463, h⟩ := bind_of h
              refine W_cutK (Q' := (exQ .normal (hard_Dots_s75 r4 i317 v320 i421 x422)) v462) ?_ ?_
              · replace h := h463
                refine W_region (by kernel_rfl) ?_
                refine WO_run (j := 4) (k := 4) (orcs := []) (kF := [8, 9, 10, 11, 12, 13, 22, 23, 24, 29, 30, 31, 39]) (kL := [11, 13, 65]) (fr' := [(8, aD (.slice (.pair tI (.pair tI .bool))) r4), (9, .one (.slc 65)), (10, aI i317), (11, .one (.ptr 11 0)), (12, aI i421), (13, .one (.ptr 13 0)), (22, aD (.slice (.pair tI (.pair tI .bool))) r4), (23, aI (List.length r4 : Int)), (24, aI i317), (29, aD (.slice (.pair tI (.pair tI .bool))) r4), (30, aI (List.length r4 : Int)), (31, aI i421), (39, aB (decide (i317 < i421)))]) (L' := [(11, .one (.pair tI (.pair tI .bool)) v320), (13, .one (.pair tI (.pair tI .bool)) v424), (65, .seq (.arr 2 tI) x422)]) (obs := []) rfl (by kernel_rfl) allP0 ?_
                rcases Bool.eq_false_or_eq_true (decide (i317 < i421)) with h459 | h459
                · replace h := ofT h459 h
                  refine WO_run (j := 10) (k := 6) (orcs := [(8, .known true), (10, .known true), (12, .known true), (14, .known true), (16, .known true), (18, .known true)]) (kF := [8, 9, 10, 11, 12, 13, 22, 23, 24, 29, 30, 31, 39, 45]) (kL := [11, 13, 65]) (fr' := [(8, aD (.slice (.pair tI (.pair tI .bool))) r4), (9, .one (.slc 65)), (10, aI i317), (11, .one (.ptr 11 0)), (12, aI i421), (13, .one (.ptr 13 0)), (22, aD (.slice (.pair tI (.pair tI .bool))) r4), (23, aI (List.length r4 : Int)), (24, aI i317), (29, aD (.slice (.pair tI (.pair tI .bool))) r4), (30, aI (List.length r4 : Int)), (31, aI i421), (39, aB (decide (i317 < i421))), (45, aB (v320.1 == v424.1))]) (L' := [(11, .one (.pair tI (.pair tI .bool)) v320), (13, .one (.pair tI (.pair tI .bool)) v424), (65, .seq (.arr 2 tI) x422)]) (obs := [((decide (i317 < i421)) = true), ((decide (i317 < i421)) = true), ((decide (i317 < i421)) = true), ((decide (i317 < i421)) = true), ((decide (i317 < i421)) = true), ((decide (i317 < i421)) = true)]) rfl (by kernel_rfl) (allP2 h459 (allP2 h459 (allP2 h459 (allP2 h459 (allP2 h459 (allP1 h459)))))) ?_
                  rcases Bool.eq_false_or_eq_true (v320.1 == v424.1) with h460 | h460
                  · replace h := ofT h460 h
                    refine WO_run (j := 24) (k := 14) (orcs := [(20, .known true), (22, .known true), (24, .known true), (26, .known true), (28, .known true), (30, .known true), (32, .known true), (34, .known true), (36, .known true), (38, .known true), (40, .known true), (42, .known true), (44, .known true), (45, .val (.dat .bool true)), (47, .val (.dat .bool true))]) (kF := [8, 9, 10, 11, 12, 22, 23, 24, 29, 30, 31, 59]) (kL := [11, 13, 65]) (fr' := [(8, aD (.slice (.pair tI (.pair tI .bool))) r4), (9, .one (.slc 65)), (10, aI i317), (11, .one (.ptr 11 0)), (12, aI i421), (22, aD (.slice (.pair tI (.pair tI .bool))) r4), (23, aI (List.length r4 : Int)), (24, aI i317), (29, aD (.slice (.pair tI (.pair tI .bool))) r4), (30, aI (List.length r4 : Int)), (31, aI i421), (59, aB true)]) (L' := [(11, .one (.pair tI (.pair tI .bool)) v320), (13, .one (.pair tI (.pair tI .bool)) v424), (65, .seq (.arr 2 tI) x422)]) (obs := [((v320.1 == v424.1) = true), ((v320.1 == v424.1) = true), ((v320.1 == v424.1) = true), ((v320.1 == v424.1) = true), ((v320.1 == v424.1) = true), ((v320.1 == v424.1) = true), ((v320.1 == v424.1) = true), ((decide (i317 < i421)) = true), ((v320.1 == v424.1) = true), ((decide (i317 < i421)) = true)]) rfl (by kernel_rfl) (allP2 h460 (allP2 h460 (allP2 h460 (allP2 h460 (allP2 h460 (allP2 h460 (allP2 h460 (allP2 h459 (allP2 h460 (allP1 h459)))))))))) ?_
                    obtain rfl := Option.some.inj h
                    refine WO_fin [8, 9, 10, 11, 12, 22, 23, 24, 29, 30, 31, 59] [65, 11] (fr' := [(8, aD (.slice (.pair tI (.pair tI .bool))) r4), (9, .one (.slc 65)), (10, aI i317), (11, .one (.ptr 11 0)), (12, aI i421), (22, aD (.slice (.pair tI (.pair tI .bool))) r4), (23, aI (List.length r4 : Int)), (24, aI i317), (29, aD (.slice (.pair tI (.pair tI .bool))) r4), (30, aI (List.length r4 : Int)), (31, aI i421), (59, aB true)]) (L' := [(65, .seq (.arr 2 tI) x422), (11, .one (.pair tI (.pair tI .bool)) v320)]) (by kernel_rfl) (by kernel_rfl) ?_
                    exact exQ_mk (by kernel_rfl) (by kernel_rfl)
                  · replace h := ofF h460 h
                    refine WO_run (j := 16) (k := 6) (orcs := [(20, .known false), (22, .known false), (24, .known false), (26, .known false), (28, .known false), (30, .known false)]) (kF := [8, 9, 10, 11, 12, 13, 22, 23, 24, 29, 30, 31, 39, 45, 51]) (kL := [11, 13, 65]) (fr' := [(8, aD (.slice (.pair tI (.pair tI .bool))) r4), (9, .one (.slc 65)), (10, aI i317), (11, .one (.ptr 11 0)), (12, aI i421), (13, .one (.ptr 13 0)), (22, aD (.slice (.pair tI (.pair tI .bool))) r4), (23, aI (List.length r4 : Int)), (24, aI i317), (29, aD (.slice (.pair tI (.pair tI .bool))) r4), (30, aI (List.length r4 : Int)), (31, aI i421), (39, aB (decide (i317 < i421))), (45, aB (v320.1 == v424.1)), (51, aB (v320.2.1 == v424.2.1))]) (L' := [(11, .one (.pair tI (.pair tI .bool)) v320), (13, .one (.pair tI (.pair tI .bool)) v424), (65, .seq (.arr 2 tI) x422)]) (obs := [((v320.1 == v424.1) = false), ((v320.1 == v424.1) = false), ((v320.1 == v424.1) = false), ((v320.1 == v424.1) = false), ((v320.1 == v424.1) = false), ((v320.1 == v424.1) = false)]) rfl (by kernel_rfl) (allP2 h460 (allP2 h460 (allP2 h460 (allP2 h460 (allP2 h460 (allP1 h460)))))) ?_
                    rcases Bool.eq_false_or_eq_true (v320.2.1 == v424.2.1) with h461 | h461
                    · replace h := ofT h461 h
                      refine WO_run (j := 24) (k := 8) (orcs := [(32, .known true), (34, .known true), (36, .known true), (38, .known true), (40, .known true), (42, .known false), (43, .val (.dat .bool true)), (44, .known true), (45, .val (.dat .bool false)), (47, .val (.dat .bool true))]) (kF := [8, 9, 10, 11, 12, 22, 23, 24, 29, 30, 31, 59]) (kL := [11, 13, 65]) (fr' := [(8, aD (.slice (.pair tI (.pair tI .bool))) r4), (9, .one (.slc 65)), (10, aI i317), (11, .one (.ptr 11 0)), (12, aI i421), (22, aD (.slice (.pair tI (.pair tI .bool))) r4), (23, aI (List.length r4 : Int)), (24, aI i317), (29, aD (.slice (.pair tI (.pair tI .bool))) r4), (30, aI (List.length r4 : Int)), (31, aI i421), (59, aB (!(v320.2.2 == v424.2.2)))]) (L' := [(11, .one (.pair tI (.pair tI .bool)) v320), (13, .one (.pair tI (.pair tI .bool)) v424), (65, .seq (.arr 2 tI) x422)]) (obs := [((v320.2.1 == v424.2.1) = true), ((v320.2.1 == v424.2.1) = true), ((v320.2.1 == v424.2.1) = true), ((v320.2.1 == v424.2.1) = true), ((v320.2.1 == v424.2.1) = true), ((v320.1 == v424.1) = false), ((v320.2.1 == v424.2.1) = true), ((decide (i317 < i421)) = true), ((v320.1 == v424.1) = false), ((decide (i317 < i421)) = true)]) rfl (by kernel_rfl) (allP2 h461 (allP2 h461 (allP2 h461 (allP2 h461 (allP2 h461 (allP2 h460 (allP2 h461 (allP2 h459 (allP2 h460 (allP1 h459)))))))))) ?_
                      obtain rfl := Option.some.inj h
                      refine WO_fin [8, 9, 10, 11, 12, 22, 23, 24, 29, 30, 31, 59] [65, 11] (fr' := [(8, aD (.slice (.pair tI (.pair tI .bool))) r4), (9, .one (.slc 65)), (10, aI i317), (11, .one (.ptr 11 0)), (12, aI i421), (22, aD (.slice (.pair tI (.pair tI .bool))) r4), (23, aI (List.length r4 : Int)), (24, aI i317), (29, aD (.slice (.pair tI (.pair tI .bool))) r4), (30, aI (List.length r4 : Int)), (31, aI i421), (59, aB (!(v320.2.2 == v424.2.2)))]) (L' := [(65, .seq (.arr 2 tI) x422), (11, .one (.pair tI (.pair tI .bool)) v320)]) (by kernel_rfl) (by kernel_rfl) ?_
                      exact exQ_mk (by kernel_rfl) (by kernel_rfl)
                    · replace h := ofF h461 h
                      refine WO_run (j := 24) (k := 8) (orcs := [(32, .known false), (34, .known false), (36, .known false), (38, .known false), (40, .known false), (42, .known false), (43, .val (.dat .bool false)), (44, .known true), (45, .val (.dat .bool false)), (47, .val (.dat .bool true))]) (kF := [8, 9, 10, 11, 12, 22, 23, 24, 29, 30, 31, 59]) (kL := [11, 13, 65]) (fr' := [(8, aD (.slice (.pair tI (.pair tI .bool))) r4), (9, .one (.slc 65)), (10, aI i317), (11, .one (.ptr 11 0)), (12, aI i421), (22, aD (.slice (.pair tI (.pair tI .bool))) r4), (23, aI (List.length r4 : Int)), (24, aI i317), (29, aD (.slice (.pair tI (.pair tI .bool))) r4), (30, aI (List.length r4 : Int)), (31, aI i421), (59, aB false)]) (L' := [(11, .one (.pair tI (.pair tI .bool)) v320), (13, .one (.pair tI (.pair tI .bool)) v424), (65, .seq (.arr 2 tI) x422)]) (obs := [((v320.2.1 == v424.2.1) = false), ((v320.2.1 == v424.2.1) = false), ((v320.2.1 == v424.2.1) = false), ((v320.2.1 == v424.2.1) = false), ((v320.2.1 == v424.2.1) = false), ((v320.1 == v424.1) = false), ((v320.2.1 == v424.2.1) = false), ((decide (i317 < i421)) = true), ((v320.1 == v424.1) = false), ((decide (i317 < i421)) = true)]) rfl (by kernel_rfl) (allP2 h461 (allP2 h461 (allP2 h461 (allP2 h461 (allP2 h461 (allP2 h460 (allP2 h461 (allP2 h459 (allP2 h460 (allP1 h459)))))))))) ?_
                      obtain rfl := Option.some.inj h
                      refine WO_fin [8, 9, 10, 11, 12, 22, 23, 24, 29, 30, 31, 59] [65, 11] (fr' := [(8, aD (.slice (.pair tI (.pair tI .bool))) r4), (9, .one (.slc 65)), (10, aI i317), (11, .one (.ptr 11 0)), (12, aI i421), (22, aD (.slice (.pair tI (.pair tI .bool))) r4), (23, aI (List.length r4 : Int)), (24, aI i317), (29, aD (.slice (.pair tI (.pair tI .bool))) r4), (30, aI (List.length r4 : Int)), (31, aI i421), (59, aB false)]) (L' := [(65, .seq (.arr 2 tI) x422), (11, .one (.pair tI (.pair tI .bool)) v320)]) (by kernel_rfl) (by kernel_rfl) ?_
                      exact exQ_mk (by kernel_rfl) (by kernel_rfl)
                · replace h := ofF h459 h
                  refine WO_run (j := 24) (k := 20) (orcs := [(8, .known false), (10, .known false), (12, .known false), (14, .known false), (16, .known false), (18, .known false), (20, .known true), (22, .known true), (24, .known true), (26, .known true), (28, .known true), (30, .known true), (32, .known true), (34, .known true), (36, .known true), (38, .known true), (40, .known true), (42, .known true), (44, .known false), (47, .val (.dat .bool false))]) (kF := [8, 9, 10, 11, 12, 22, 23, 24, 29, 30, 31, 59]) (kL := [11, 13, 65]) (fr' := [(8, aD (.slice (.pair tI (.pair tI .bool))) r4), (9, .one (.slc 65)), (10, aI i317), (11, .one (.ptr 11 0)), (12, aI i421), (22, aD (.slice (.pair tI (.pair tI .bool))) r4), (23, aI (List.length r4 : Int)), (24, aI i317), (29, aD (.slice (.pair tI (.pair tI .bool))) r4), (30, aI (List.length r4 : Int)), (31, aI i421), (59, aB false)]) (L' := [(11, .one (.pair tI (.pair tI .bool)) v320), (13, .one (.pair tI (.pair tI .bool)) v424), (65, .seq (.arr 2 tI) x422)]) (obs := [((decide (i317 < i421)) = false), ((decide (i317 < i421)) = false), ((decide (i317 < i421)) = false), ((decide (i317 < i421)) = false), ((decide (i317 < i421)) = false), ((decide (i317 < i421)) = false), ((decide (i317 < i421)) = false), ((decide (i317 < i421)) = false)]) rfl (by kernel_rfl) (allP2 h459 (allP2 h459 (allP2 h459 (allP2 h459 (allP2 h459 (allP2 h459 (allP2 h459 (allP1 h459)))))))) ?_
                  obtain rfl := Option.some.inj h
                  refine WO_fin [8, 9, 10, 11, 12, 22, 23, 24, 29, 30, 31, 59] [65, 11] (fr' := [(8, aD (.slice (.pair tI (.pair tI .bool))) r4), (9, .one (.slc 65)), (10, aI i317), (11, .one (.ptr 11 0)), (12, aI i421), (22, aD (.slice (.pair tI (.pair tI .bool))) r4), (23, aI (List.length r4 : Int)), (24, aI i317), (29, aD (.slice (.pair tI (.pair tI .bool))) r4), (30, aI (List.length r4 : Int)), (31, aI i421), (59, aB false)]) (L' := [(65, .seq (.arr 2 tI) x422), (11, .one (.pair tI (.pair tI .bool)) v320)]) (by kernel_rfl) (by kernel_rfl) ?_
                  exact exQ_mk (by kernel_rfl) (by kernel_rfl)
              · intro e fr L hJ
                obtain ⟨rfl, rfl, rfl⟩ := hJ
                refine LT_keep [8, 9, 10, 11, 12, 22, 23, 24, 29, 30, 31, 59] [65, 11] (fr' := [(8, aD (.slice (.pair tI (.pair tI .bool))) r4), (9, .one (.slc 65)), (10, aI i317), (11, .one (.ptr 11 0)), (12, aI i421), (22, aD (.slice (.pair tI (.pair tI .bool))) r4), (23, aI (List.length r4 : Int)), (24, aI i317), (29, aD (.slice (.pair tI (.pair tI .bool))) r4), (30, aI (List.length r4 : Int)), (31, aI i421), (59, aB v462)]) (L' := [(65, .seq (.arr 2 tI) x422), (11, .one (.pair tI (.pair tI .bool)) v320)]) (by kernel_rfl) ?_
                refine seqQ_norm ?_
                refine W_cond (o := .tmp 59) (b := v462) (by kernel_rfl) (by kernel_rfl) (fun h464 => ?_) (fun h464 => ?_)
                · replace h := ofT h464 h
                  obtain ⟨_, h465, h⟩ := bind_of h
                  replace h465 := ck_some h465
                  obtain rfl := Option.some.inj h
                  refine W_run 7 [] [8, 9, 10, 11, 22, 23, 24, 29, 30, 31] [65, 11] (fr' := [(8, aD (.slice (.pair tI (.pair tI .bool))) r4), (9, .one (.slc 65)), (10, aI i317), (11, .one (.ptr 11 0)), (22, aD (.slice (.pair tI (.pair tI .bool))) r4), (23, aI (List.length r4 : Int)), (24, aI i317), (29, aD (.slice (.pair tI (.pair tI .bool))) r4), (30, aI (List.length r4 : Int)), (31, aI i421)]) (L' := [(65, .seq (.arr 2 tI) (x422 ++ [[i317, i421]])), (11, .one (.pair tI (.pair tI .bool)) v320)]) (obs := [SmallLen (List.length x422 + List.length [[i317, i421]])]) (by kernel_rfl) (by kernel_rfl) (by kernel_rfl) (allP1 h465) ?_
                  refine blockQ_norm ?_
                  exact exQ_mk (by kernel_rfl) (by kernel_rfl)
                · replace h := ofF h464 h
                  obtain rfl := Option.some.inj h
                  refine W_skip [8, 9, 10, 11, 22, 23, 24, 29, 30, 31] [65, 11] (fr' := [(8, aD (.slice (.pair tI (.pair tI .bool))) r4), (9, .one (.slc 65)), (10, aI i317), (11, .one (.ptr 11 0)), (22, aD (.slice (.pair tI (.pair tI .bool))) r4), (23, aI (List.length r4 : Int)), (24, aI i317), (29, aD (.slice (.pair tI (.pair tI .bool))) r4), (30, aI (List.length r4 : Int)), (31, aI i421)]) (L' := [(65, .seq (.arr 2 tI) x422), (11, .one (.pair tI (.pair tI .bool)) v320)]) (by kernel_rfl) (by kernel_rfl) ?_
                  refine blockQ_norm ?_
                  exact exQ_mk (by kernel_rfl) (by kernel_rfl)
            · intro e fr L hJ
              obtain ⟨rfl, rfl, rfl⟩ := hJ
              refine LT_keep [8, 9, 10, 11, 22, 23, 24, 29, 30, 31] [65, 11] (fr' := [(8, aD (.slice (.pair tI (.pair tI .bool))) r4), (9, .one (.slc 65)), (10, aI i317), (11, .one (.ptr 11 0)), (22, aD (.slice (.pair tI (.pair tI .bool))) r4), (23, aI (List.length r4 : Int)), (24, aI i317), (29, aD (.slice (.pair tI (.pair tI .bool))) r4), (30, aI (List.length r4 : Int)), (31, aI i421)]) (L' := [(65, .seq (.arr 2 tI) v466), (11, .one (.pair tI (.pair tI .bool)) v320)]) (by kernel_rfl) ?_
              refine seqQ_norm ?_
              obtain rfl := Option.some.inj h
              refine W_run 2 [] [8, 9, 10, 11, 22, 23, 24, 29, 30, 31] [65, 11] (fr' := [(8, aD (.slice (.pair tI (.pair tI .bool))) r4), (9, .one (.slc 65)), (10, aI i317), (11, .one (.ptr 11 0)), (22, aD (.slice (.pair tI (.pair tI .bool))) r4), (23, aI (List.length r4 : Int)), (24, aI i317), (29, aD (.slice (.pair tI (.pair tI .bool))) r4), (30, aI (List.length r4 : Int)), (31, aI (w64 (i421 + (1 : Int))))]) (L' := [(65, .seq (.arr 2 tI) v466), (11, .one (.pair tI (.pair tI .bool)) v320)]) (obs := []) (by kernel_rfl) (by kernel_rfl) (by kernel_rfl) allP0 ?_
              exact round_next' (by kernel_rfl) (by kernel_rfl)
          · obtain rfl := stepL_false h426 h
            refine W_exit (id := 2) [8, 9, 22, 23, 24] [65] (fr' := [(8, aD (.slice (.pair tI (.pair tI .bool))) r4), (9, .one (.slc 65)), (22, aD (.slice (.pair tI (.pair tI .bool))) r4), (23, aI (List.length r4 : Int)), (24, aI i317)]) (L' := [(65, .seq (.arr 2 tI) x422)]) (by kernel_rfl) (by kernel_rfl) ?_
            refine seqQ_exit ?_
            refine round_exit ?_
            exact exQ_mk (by kernel_rfl) (by kernel_rfl)
        · intro e fr L hJ
          obtain ⟨rfl, rfl, rfl⟩ := hJ
          refine LT_keep [8, 9, 22, 23, 24] [65] (fr' := [(8, aD (.slice (.pair tI (.pair tI .bool))) r4), (9, .one (.slc 65)), (22, aD (.slice (.pair tI (.pair tI .bool))) r4), (23, aI (List.length r4 : Int)), (24, aI i317)]) (L' := [(65, .seq (.arr 2 tI) v469)]) (by kernel_rfl) ?_
          refine blockQ_hit ?_
          refine blockQ_norm ?_
          refine seqQ_norm ?_
          obtain rfl := Option.some.inj h
          refine W_run 2 [] [8, 9, 22, 23, 24] [65] (fr' := [(8, aD (.slice (.pair tI (.pair tI .bool))) r4), (9, .one (.slc 65)), (22, aD (.slice (.pair tI (.pair tI .bool))) r4), (23, aI (List.length r4 : Int)), (24, aI (w64 (i317 + (1 : Int))))]) (L' := [(65, .seq (.arr 2 tI) v469)]) (obs := []) (by kernel_rfl) (by kernel_rfl) (by kernel_rfl) allP0 ?_
          exact round_next' (by kernel_rfl) (by kernel_rfl)
      · obtain rfl := stepL_false h322 h
        refine W_exit (id := 0) [8, 9] [65] (fr' := [(8, aD (.slice (.pair tI (.pair tI .bool))) r4), (9, .one (.slc 65))]) (L' := [(65, .seq (.arr 2 tI) x318)]) (by kernel_rfl) (by kernel_rfl) ?_
        refine seqQ_exit ?_
        refine round_exit ?_
        exact exQ_mk (by kernel_rfl) (by kernel_rfl)
    · intro e fr L hJ
      obtain ⟨rfl, rfl, rfl⟩ := hJ
      refine LT_keep [8, 9] [65] (fr' := [(8, aD (.slice (.pair tI (.pair tI .bool))) r4), (9, .one (.slc 65))]) (L' := [(65, .seq (.arr 2 tI) v475)]) (by kernel_rfl) ?_
      refine blockQ_hit ?_
      refine seqQ_norm ?_
      refine W_seq (by kernel_rfl) ?_
      refine W_run 6 [] [4, 5, 6] [65] (fr' := [(4, aI (List.length r4 : Int)), (5, .one (.slc 65)), (6, aI (0 : Int))]) (L' := [(65, .seq (.arr 2 tI) v475)]) (obs := []) (by kernel_rfl) (by kernel_rfl) (by kernel_rfl) allP0 ?_
      refine seqQ_norm ?_
      obtain rfl := Option.some.inj h
      refine W_frz 65 (by kernel_rfl) ?_
      refine W_ret [4, 5, 6] [] (fr' := [(4, aI (List.length r4 : Int)), (5, aD (.slice (.arr 2 tI)) v475), (6, aI (0 : Int))]) (L' := []) (by kernel_rfl) (by kernel_rfl) ?_
      exact retQ_mk (by kernel_rfl) (by kernel_rfl) (by kernel_rfl)

def ref_Within (a0 : Int) (a1 : Int) (a2 : Int) : Option Bool :=
some ((decide (a0 ≤ a1)) && (decide (a1 ≤ a2)))
theorem ref_Within_ok {a0 : Int} {a1 : Int} {a2 : Int} {r : Bool} (h : ref_Within a0 a1 a2 = some r) : FnC Try.prog 21 [aI a0, aI a1, aI a2] [] (aB r) [] := by
  refine fnC_of_W (B := bodyOf Try.f21) (n := 15) Try.func21 (by kernel_rfl) (by kernel_rfl) (by kernel_rfl) (by kernel_rfl) (by kernel_rfl) ?_
  intro K
  refine W_seq (by kernel_rfl) ?_
  refine W_run 1 [] [0, 1, 2] [] (fr' := [(0, aI a0), (1, aI a1), (2, aI a2)]) (L' := []) (obs := []) (by kernel_rfl) (by kernel_rfl) (by kernel_rfl) allP0 ?_
  refine seqQ_norm ?_
  refine W_seq (by kernel_rfl) ?_
  refine W_run 9 [] [6] [] (fr' := [(6, aB ((decide (a0 ≤ a1)) && (decide (a1 ≤ a2))))]) (L' := []) (obs := []) (by kernel_rfl) (by kernel_rfl) (by kernel_rfl) allP0 ?_
  refine seqQ_norm ?_
  obtain rfl := Option.some.inj h
  refine W_ret [6] [] (fr' := [(6, aB ((decide (a0 ≤ a1)) && (decide (a1 ≤ a2))))]) (L' := []) (by kernel_rfl) (by kernel_rfl) ?_
  exact retQ_mk (by kernel_rfl) (by kernel_rfl) (by kernel_rfl)

def ref_Inside_b1 (a0 : Int) (i11 : Int) (v14 : Int) (x12 : Unit) : Option (Flow Unit (Esc Bool Unit)) :=
bif (decide (v14 < (0 : Int))) || (decide (v14 ≥ a0)) then
(some (.done (.ret false)))
else
(some (.next ()))
@[reducible] def ref_Inside_s2 (a0 : Int) (a1 : (List Int)) (v : Int × Unit) : Fr × LL := ([(0, aI a0), (7, aD (.slice tI) a1), (8, aI (List.length a1 : Int)), (9, aI v.1)], [])
@[reducible] def ref_Inside_s3 (v : Bool) : Fr × LL := ([(4, aB v)], [])
@[reducible] def ref_Inside_s4 (v : Unit) : Fr × LL := ([], [])
def ref_Inside (a0 : Int) (a1 : (List Int)) : Option Bool :=
(forL (ref_Inside_b1 a0) (fun x12 => (.brk ())) a1 0 ()).bind fun v19 =>
match v19 with
| .ret v24 =>
(some v24)
| .brk v25 =>
(some true)
theorem ref_Inside_ok {a0 : Int} {a1 : (List Int)} {r : Bool} (h : ref_Inside a0 a1 = some r) : FnC Try.prog 22 [aI a0, aD (.slice tI) a1] [] (aB r) [] := by
  refine fnC_of_W (B := bodyOf Try.f22) (n := 21) Try.func22 (by kernel_rfl) (by kernel_rfl) (by kernel_rfl) (by kernel_rfl) (by kernel_rfl) ?_
  intro K
  refine W_seq (by kernel_rfl) ?_
  refine W_run 1 [] [0, 1] [] (fr' := [(0, aI a0), (1, aD (.slice tI) a1)]) (L' := []) (obs := []) (by kernel_rfl) (by kernel_rfl) (by kernel_rfl) allP0 ?_
  refine seqQ_norm ?_
  refine W_seq (by kernel_rfl) ?_
  refine W_seq (by kernel_rfl) ?_
  refine W_run 3 [] [0, 7, 8, 9] [] (fr' := [(0, aI a0), (7, aD (.slice tI) a1), (8, aI (List.length a1 : Int)), (9, aI (0 : Int))]) (L' := []) (obs := []) (by kernel_rfl) (by kernel_rfl) (by kernel_rfl) allP0 ?_
  refine seqQ_norm ?_
  refine W_block (id := 0) (by kernel_rfl) ?_
  obtain ⟨v19, h20, h⟩ := bind_of h
  refine W_len (t := 7) (u := tI) (xs := a1) (by kernel_rfl) (fun h23 => ?_)
  obtain ⟨h21, h22⟩ := forL_iter h23 h20
  refine W_weaken [0, 7, 8, 9] [] (fr' := ((ref_Inside_s2 a0 a1) ((0 : Int), ())).1) (L' := ((ref_Inside_s2 a0 a1) ((0 : Int), ())).2) (by kernel_rfl) ?_
  refine W_cutK (W_loop (S := (ref_Inside_s2 a0 a1)) (J := (escQ (exQ .ret ref_Inside_s3) (exQ (.exit 0) ref_Inside_s4))) (by kernel_rfl) ?_ h21 _ v19 h22) ?_
  · rintro ⟨i11, x12⟩ s h
    refine W_seq (by kernel_rfl) ?_
    refine W_run 1 [] [0, 7, 8, 9, 10] [] (fr' := [(0, aI a0), (7, aD (.slice tI) a1), (8, aI (List.length a1 : Int)), (9, aI i11), (10, aB (decide (i11 < (List.length a1 : Int))))]) (L' := []) (obs := []) (by kernel_rfl) (by kernel_rfl) (by kernel_rfl) allP0 ?_
    refine seqQ_norm ?_
    refine W_seq (by kernel_rfl) ?_
    refine W_cond (o := .tmp 10) (b := decide (i11 < (List.length a1 : Int))) (by kernel_rfl) (by kernel_rfl) (fun h16 => ?_) (fun h16 => ?_)
    · replace h := stepL_true h16 h
      obtain ⟨v14, _, h15, h, rfl⟩ := h
      refine W_skip [0, 7, 8, 9] [] (fr' := [(0, aI a0), (7, aD (.slice tI) a1), (8, aI (List.length a1 : Int)), (9, aI i11)]) (L' := []) (by kernel_rfl) (by kernel_rfl) ?_
      refine seqQ_norm ?_
      refine W_seq (by kernel_rfl) ?_
      refine W_block (id := 1) (by kernel_rfl) ?_
      refine W_seq (by kernel_rfl) ?_
      refine W_run 3 [(1, .val (.dat tI v14))] [0, 6, 7, 8, 9] [] (fr' := [(0, aI a0), (6, aI v14), (7, aD (.slice tI) a1), (8, aI (List.length a1 : Int)), (9, aI i11)]) (L' := []) (obs := [Idx a1 i11 v14]) (by kernel_rfl) (by kernel_rfl) (by kernel_rfl) (allP1 (Idx.of h15)) ?_
      refine seqQ_norm ?_
      refine W_seq (by kernel_rfl) ?_
      refine W_run 7 [] [0, 7, 8, 9, 19] [] (fr' := [(0, aI a0), (7, aD (.slice tI) a1), (8, aI (List.length a1 : Int)), (9, aI i11), (19, aB ((decide (v14 < (0 : Int))) || (decide (v14 ≥ a0))))]) (L' := []) (obs := []) (by kernel_rfl) (by kernel_rfl) (by kernel_rfl) allP0 ?_
      refine seqQ_norm ?_
      refine W_cond (o := .tmp 19) (b := (decide (v14 < (0 : Int))) || (decide (v14 ≥ a0))) (by kernel_rfl) (by kernel_rfl) (fun h17 => ?_) (fun h17 => ?_)
      · replace h := ofT h17 h
        refine W_seq (by kernel_rfl) ?_
        refine W_run 1 [] [4] [] (fr' := [(4, aB false)]) (L' := []) (obs := []) (by kernel_rfl) (by kernel_rfl) (by kernel_rfl) allP0 ?_
        refine seqQ_norm ?_
        obtain rfl := Option.some.inj h
        refine W_ret [4] [] (fr' := [(4, aB false)]) (L' := []) (by kernel_rfl) (by kernel_rfl) ?_
        refine blockQ_ret ?_
        refine seqQ_ret ?_
        refine round_ret ?_
        refine escQ_ret ?_
        exact exQ_mk (by kernel_rfl) (by kernel_rfl)
      · replace h := ofF h17 h
        refine W_skip [0, 7, 8, 9] [] (fr' := [(0, aI a0), (7, aD (.slice tI) a1), (8, aI (List.length a1 : Int)), (9, aI i11)]) (L' := []) (by kernel_rfl) (by kernel_rfl) ?_
        refine blockQ_norm ?_
        refine seqQ_norm ?_
        obtain rfl := Option.some.inj h
        refine W_run 2 [] [0, 7, 8, 9] [] (fr' := [(0, aI a0), (7, aD (.slice tI) a1), (8, aI (List.length a1 : Int)), (9, aI (w64 (i11 + (1 : Int))))]) (L' := []) (obs := []) (by kernel_rfl) (by kernel_rfl) (by kernel_rfl) allP0 ?_
        exact round_next' (by kernel_rfl) (by kernel_rfl)
    · obtain rfl := stepL_false h16 h
      refine W_exit (id := 0) [] [] (fr' := []) (L' := []) (by kernel_rfl) (by kernel_rfl) ?_
      refine seqQ_exit ?_
      refine round_exit ?_
      refine escQ_brk ?_
      exact exQ_mk (by kernel_rfl) (by kernel_rfl)
  · intro e fr L hJ
    rcases v19 with v24 | v25
    · obtain ⟨rfl, rfl, rfl⟩ := hJ
      obtain rfl := Option.some.inj h
      refine LT_keep [4] [] (fr' := [(4, aB v24)]) (L' := []) (by kernel_rfl) ?_
      refine blockQ_ret ?_
      refine seqQ_ret ?_
      exact retQ_mk (by kernel_rfl) (by kernel_rfl) (by kernel_rfl)
    · obtain ⟨rfl, rfl, rfl⟩ := hJ
      refine LT_keep [] [] (fr' := []) (L' := []) (by kernel_rfl) ?_
      refine blockQ_hit ?_
      refine seqQ_norm ?_
      refine W_seq (by kernel_rfl) ?_
      refine W_run 1 [] [4] [] (fr' := [(4, aB true)]) (L' := []) (obs := []) (by kernel_rfl) (by kernel_rfl) (by kernel_rfl) allP0 ?_
      refine seqQ_norm ?_
      obtain rfl := Option.some.inj h
      refine W_ret [4] [] (fr' := [(4, aB true)]) (L' := []) (by kernel_rfl) (by kernel_rfl) ?_
      exact retQ_mk (by kernel_rfl) (by kernel_rfl) (by kernel_rfl)

def ref_HardCheck_g5 (v35 : ((List Int) × (List Int))) : Option Bool :=
bif decide ((w64 ((List.length v35.1 : Int) + (List.length v35.2 : Int))) > (3 : Int)) then
(some true)
else
(bif decide ((List.length v35.1 : Int) > (3 : Int)) then
(some true)
else
(some (decide ((List.length v35.2 : Int) > (3 : Int)))))
@[reducible] def ref_HardCheck_s6 (a0 : Int) (a1 : (List ((List Int) × (List Int)))) (i32 : Int) (v : Bool) : Fr × LL := ([(0, aI a0), (1, aD (.slice (.pair (.slice tI) (.slice tI))) a1), (17, aD (.slice (.pair (.slice tI) (.slice tI))) a1), (18, aI (List.length a1 : Int)), (19, aI i32), (42, aB v)], [])
def ref_HardCheck_b7 (i32 : Int) (v35 : ((List Int) × (List Int))) (x33 : Unit) : Option (Flow Unit (Esc Int Unit)) :=
(ref_HardCheck_g5 v35).bind fun v44 =>
bif v44 then
(some (.done (.ret (1 : Int))))
else
(some (.next ()))
@[reducible] def ref_HardCheck_s8 (a0 : Int) (a1 : (List ((List Int) × (List Int)))) (v : Int × Unit) : Fr × LL := ([(0, aI a0), (1, aD (.slice (.pair (.slice tI) (.slice tI))) a1), (17, aD (.slice (.pair (.slice tI) (.slice tI))) a1), (18, aI (List.length a1 : Int)), (19, aI v.1)], [])
@[reducible] def ref_HardCheck_s9 (v : Int) : Fr × LL := ([(4, aI v)], [])
@[reducible] def ref_HardCheck_s10 (a0 : Int) (a1 : (List ((List Int) × (List Int)))) (v : Unit) : Fr × LL := ([(0, aI a0), (1, aD (.slice (.pair (.slice tI) (.slice tI))) a1)], [])
@[reducible] def ref_HardCheck_s13 (a0 : Int) (a1 : (List ((List Int) × (List Int)))) (i99 : Int) (v : Bool) : Fr × LL := ([(0, aI a0), (44, aD (.slice (.pair (.slice tI) (.slice tI))) a1), (45, aI (List.length a1 : Int)), (46, aI i99), (61, aB v)], [])
def ref_HardCheck_b14 (a0 : Int) (i99 : Int) (v102 : ((List Int) × (List Int))) (x100 : Unit) : Option (Flow Unit (Esc Int Unit)) :=
((ref_Inside a0 v102.1).bind fun r115 =>
bif !r115 then
(some true)
else
((ref_Inside a0 v102.2).bind fun r118 =>
some (!r118))).bind fun v120 =>
bif v120 then
(some (.done (.ret (2 : Int))))
else
(some (.next ()))
@[reducible] def ref_HardCheck_s15 (a0 : Int) (a1 : (List ((List Int) × (List Int)))) (v : Int × Unit) : Fr × LL := ([(0, aI a0), (44, aD (.slice (.pair (.slice tI) (.slice tI))) a1), (45, aI (List.length a1 : Int)), (46, aI v.1)], [])
@[reducible] def ref_HardCheck_s16 (v : Int) : Fr × LL := ([(4, aI v)], [])
@[reducible] def ref_HardCheck_s17 (v : Unit) : Fr × LL := ([], [])
def ref_HardCheck (a0 : Int) (a1 : (List ((List Int) × (List Int)))) : Option Int :=
(ref_Within (0 : Int) a0 (8 : Int)).bind fun r3 =>
bif (!r3) || (decide ((List.length a1 : Int) > (12 : Int))) then
(some (1 : Int))
else
((forL ref_HardCheck_b7 (fun x33 => (.brk ())) a1 0 ()).bind fun v48 =>
match v48 with
| .ret v53 =>
(some v53)
| .brk v54 =>
((forL (ref_HardCheck_b14 a0) (fun x100 => (.brk ())) a1 0 ()).bind fun v124 =>
match v124 with
| .ret v129 =>
(some v129)
| .brk v130 =>
(some (0 : Int))))
theorem ref_HardCheck_ok {a0 : Int} {a1 : (List ((List Int) × (List Int)))} {r : Int} (h : ref_HardCheck a0 a1 = some r) : FnC Try.prog 39 [aI a0, aD (.slice (.pair (.slice tI) (.slice tI))) a1] [] (aI r) [] := by
  refine fnC_of_W (B := bodyOf Try.f39) (n := 63) Try.func39 (by kernel_rfl) (by kernel_rfl) (by kernel_rfl) (by kernel_rfl) (by kernel_rfl) ?_
  intro K
  refine W_seq (by kernel_rfl) ?_
  refine W_run 1 [] [0, 1] [] (fr' := [(0, aI a0), (1, aD (.slice (.pair (.slice tI) (.slice tI))) a1)]) (L' := []) (obs := []) (by kernel_rfl) (by kernel_rfl) (by kernel_rfl) allP0 ?_
  refine seqQ_norm ?_
  refine W_seq (by kernel_rfl) ?_
  refine W_seq (by kernel_rfl) ?_
  refine W_region (by kernel_rfl) ?_
  refine WO_run (j := 1) (k := 1) (orcs := []) (kF := [0, 1, 9]) (kL := []) (fr' := [(0, aI a0), (1, aD (.slice (.pair (.slice tI) (.slice tI))) a1), (9, aI a0)]) (L' := []) (obs := []) rfl (by kernel_rfl) allP0 ?_
  obtain ⟨r3, h4, h⟩ := bind_of h
  refine WO_call0 (us := [none, none, none]) (d := 10) (p := True) (j := 2) rfl ⟨by kernel_rfl, by kernel_rfl, by kernel_rfl⟩ trivial (ref_Within_ok h4) (by kernel_rfl) ?_
  refine WO_run (j := 8) (k := 6) (orcs := []) (kF := [0, 1, 16]) (kL := []) (fr' := [(0, aI a0), (1, aD (.slice (.pair (.slice tI) (.slice tI))) a1), (16, aB ((!r3) || (decide ((List.length a1 : Int) > (12 : Int)))))]) (L' := []) (obs := []) rfl (by kernel_rfl) allP0 ?_
  refine WO_fin [0, 1, 16] [] (fr' := [(0, aI a0), (1, aD (.slice (.pair (.slice tI) (.slice tI))) a1), (16, aB ((!r3) || (decide ((List.length a1 : Int) > (12 : Int)))))]) (L' := []) (by kernel_rfl) (by kernel_rfl) ?_
  refine seqQ_norm ?_
  refine W_cond (o := .tmp 16) (b := (!r3) || (decide ((List.length a1 : Int) > (12 : Int)))) (by kernel_rfl) (by kernel_rfl) (fun h5 => ?_) (fun h5 => ?_)
  · replace h := ofT h5 h
    refine W_seq (by kernel_rfl) ?_
    refine W_run 1 [] [4] [] (fr' := [(4, aI (1 : Int))]) (L' := []) (obs := []) (by kernel_rfl) (by kernel_rfl) (by kernel_rfl) allP0 ?_
    refine seqQ_norm ?_
    obtain rfl := Option.some.inj h
    refine W_ret [4] [] (fr' := [(4, aI (1 : Int))]) (L' := []) (by kernel_rfl) (by kernel_rfl) ?_
    refine seqQ_ret ?_
    exact retQ_mk (by kernel_rfl) (by kernel_rfl) (by kernel_rfl)
  · replace h := ofF h5 h
    refine W_skip [0, 1] [] (fr' := [(0, aI a0), (1, aD (.slice (.pair (.slice tI) (.slice tI))) a1)]) (L' := []) (by kernel_rfl) (by kernel_rfl) ?_
    refine seqQ_norm ?_
    refine W_seq (by kernel_rfl) ?_
    refine W_seq (by kernel_rfl) ?_
    refine W_run 3 [] [0, 1, 17, 18, 19] [] (fr' := [(0, aI a0), (1, aD (.slice (.pair (.slice tI) (.slice tI))) a1), (17, aD (.slice (.pair (.slice tI) (.slice tI))) a1), (18, aI (List.length a1 : Int)), (19, aI (0 : Int))]) (L' := []) (obs := []) (by kernel_rfl) (by kernel_rfl) (by kernel_rfl) allP0 ?_
    refine seqQ_norm ?_
    refine W_block (id := 0) (by kernel_rfl) ?_
    obtain ⟨v48, h49, h⟩ := bind_of h
    refine W_len (t := 17) (u := (.pair (.slice tI) (.slice tI))) (xs := a1) (by kernel_rfl) (fun h52 => ?_)
    obtain ⟨h50, h51⟩ := forL_iter h52 h49
    refine W_weaken [0, 1, 17, 18, 19] [] (fr' := ((ref_HardCheck_s8 a0 a1) ((0 : Int), ())).1) (L' := ((ref_HardCheck_s8 a0 a1) ((0 : Int), ())).2) (by kernel_rfl) ?_
    refine W_cutK (W_loop (S := (ref_HardCheck_s8 a0 a1)) (J := (escQ (exQ .ret ref_HardCheck_s9) (exQ (.exit 0) (ref_HardCheck_s10 a0 a1)))) (by kernel_rfl) ?_ h50 _ v48 h51) ?_
    · rintro ⟨i32, x33⟩ s h
      refine W_seq (by kernel_rfl) ?_
      refine W_run 1 [] [0, 1, 17, 18, 19, 20] [] (fr' := [(0, aI a0), (1, aD (.slice (.pair (.slice tI) (.slice tI))) a1), (17, aD (.slice (.pair (.slice tI) (.slice tI))) a1), (18, aI (List.length a1 : Int)), (19, aI i32), (20, aB (decide (i32 < (List.length a1 : Int))))]) (L' := []) (obs := []) (by kernel_rfl) (by kernel_rfl) (by kernel_rfl) allP0 ?_
      refine seqQ_norm ?_
      refine W_seq (by kernel_rfl) ?_
      refine W_cond (o := .tmp 20) (b := decide (i32 < (List.length a1 : Int))) (by kernel_rfl) (by kernel_rfl) (fun h37 => ?_) (fun h37 => ?_)
      · replace h := stepL_true h37 h
        obtain ⟨v35, _, h36, h, rfl⟩ := h
        refine W_skip [0, 1, 17, 18, 19] [] (fr' := [(0, aI a0), (1, aD (.slice (.pair (.slice tI) (.slice tI))) a1), (17, aD (.slice (.pair (.slice tI) (.slice tI))) a1), (18, aI (List.length a1 : Int)), (19, aI i32)]) (L' := []) (by kernel_rfl) (by kernel_rfl) ?_
        refine seqQ_norm ?_
        refine W_seq (by kernel_rfl) ?_
        refine W_block (id := 1) (by kernel_rfl) ?_
        refine W_seq (by kernel_rfl) ?_
        refine W_run 4 [(1, .val (.dat (.pair (.slice tI) (.slice tI)) v35)), (5, .typed)] [0, 1, 6, 17, 18, 19] [6] (fr' := [(0, aI a0), (1, aD (.slice (.pair (.slice tI) (.slice tI))) a1), (6, .one (.ptr 6 0)), (17, aD (.slice (.pair (.slice tI) (.slice tI))) a1), (18, aI (List.length a1 : Int)), (19, aI i32)]) (L' := [(6, .one (.pair (.slice tI) (.slice tI)) v35)]) (obs := [Idx a1 i32 v35, True]) (by kernel_rfl) (by kernel_rfl) (by kernel_rfl) (allP2 (Idx.of h36) (allP1 trivial)) ?_
        refine seqQ_norm ?_
        refine W_seq (by kernel_rfl) ?_
        obtain ⟨v44, h45, h⟩ := bind_of h
        refine W_cutK (Q' := (exQ .normal (ref_HardCheck_s6 a0 a1 i32)) v44) ?_ ?_
        · replace h := h45
          refine W_region (by kernel_rfl) ?_
          refine WO_run (j := 9) (k := 9) (orcs := []) (kF := [0, 1, 6, 17, 18, 19, 31]) (kL := [6]) (fr' := [(0, aI a0), (1, aD (.slice (.pair (.slice tI) (.slice tI))) a1), (6, .one (.ptr 6 0)), (17, aD (.slice (.pair (.slice tI) (.slice tI))) a1), (18, aI (List.length a1 : Int)), (19, aI i32), (31, aB (decide ((w64 ((List.length v35.1 : Int) + (List.length v35.2 : Int))) > (3 : Int))))]) (L' := [(6, .one (.pair (.slice tI) (.slice tI)) v35)]) (obs := []) rfl (by kernel_rfl) allP0 ?_
          rcases Bool.eq_false_or_eq_true (decide ((w64 ((List.length v35.1 : Int) + (List.length v35.2 : Int))) > (3 : Int))) with h42 | h42
          · replace h := ofT h42 h
            refine WO_run (j := 20) (k := 11) (orcs := [(18, .known true), (20, .known true), (22, .known true), (24, .known true), (27, .val (.dat .bool true)), (30, .known true), (32, .known true), (34, .known true), (36, .known true), (39, .val (.dat .bool true))]) (kF := [0, 1, 17, 18, 19, 42]) (kL := [6]) (fr' := [(0, aI a0), (1, aD (.slice (.pair (.slice tI) (.slice tI))) a1), (17, aD (.slice (.pair (.slice tI) (.slice tI))) a1), (18, aI (List.length a1 : Int)), (19, aI i32), (42, aB true)]) (L' := [(6, .one (.pair (.slice tI) (.slice tI)) v35)]) (obs := [((decide ((w64 ((List.length v35.1 : Int) + (List.length v35.2 : Int))) > (3 : Int))) = true), ((decide ((w64 ((List.length v35.1 : Int) + (List.length v35.2 : Int))) > (3 : Int))) = true), ((decide ((w64 ((List.length v35.1 : Int) + (List.length v35.2 : Int))) > (3 : Int))) = true), ((decide ((w64 ((List.length v35.1 : Int) + (List.length v35.2 : Int))) > (3 : Int))) = true), ((decide ((w64 ((List.length v35.1 : Int) + (List.length v35.2 : Int))) > (3 : Int))) = true), (true = true), (true = true), (true = true), (true = true), (true = true)]) rfl (by kernel_rfl) (allP2 h42 (allP2 h42 (allP2 h42 (allP2 h42 (allP2 h42 (allP2 rfl (allP2 rfl (allP2 rfl (allP2 rfl (allP1 rfl)))))))))) ?_
            obtain rfl := Option.some.inj h
            refine WO_fin [0, 1, 17, 18, 19, 42] [] (fr' := [(0, aI a0), (1, aD (.slice (.pair (.slice tI) (.slice tI))) a1), (17, aD (.slice (.pair (.slice tI) (.slice tI))) a1), (18, aI (List.length a1 : Int)), (19, aI i32), (42, aB true)]) (L' := []) (by kernel_rfl) (by kernel_rfl) ?_
            exact exQ_mk (by kernel_rfl) (by kernel_rfl)
          · replace h := ofF h42 h
            refine WO_run (j := 15) (k := 6) (orcs := [(18, .known false), (20, .known false), (22, .known false), (24, .known false), (27, .val (.dat .bool false))]) (kF := [0, 1, 6, 17, 18, 19, 37]) (kL := [6]) (fr' := [(0, aI a0), (1, aD (.slice (.pair (.slice tI) (.slice tI))) a1), (6, .one (.ptr 6 0)), (17, aD (.slice (.pair (.slice tI) (.slice tI))) a1), (18, aI (List.length a1 : Int)), (19, aI i32), (37, aB (decide ((List.length v35.1 : Int) > (3 : Int))))]) (L' := [(6, .one (.pair (.slice tI) (.slice tI)) v35)]) (obs := [((decide ((w64 ((List.length v35.1 : Int) + (List.length v35.2 : Int))) > (3 : Int))) = false), ((decide ((w64 ((List.length v35.1 : Int) + (List.length v35.2 : Int))) > (3 : Int))) = false), ((decide ((w64 ((List.length v35.1 : Int) + (List.length v35.2 : Int))) > (3 : Int))) = false), ((decide ((w64 ((List.length v35.1 : Int) + (List.length v35.2 : Int))) > (3 : Int))) = false), ((decide ((w64 ((List.length v35.1 : Int) + (List.length v35.2 : Int))) > (3 : Int))) = false)]) rfl (by kernel_rfl) (allP2 h42 (allP2 h42 (allP2 h42 (allP2 h42 (allP1 h42))))) ?_
            rcases Bool.eq_false_or_eq_true (decide ((List.length v35.1 : Int) > (3 : Int))) with h43 | h43
            · replace h := ofT h43 h
              refine WO_run (j := 20) (k := 5) (orcs := [(30, .known true), (32, .known true), (34, .known true), (36, .known true), (39, .val (.dat .bool true))]) (kF := [0, 1, 17, 18, 19, 42]) (kL := [6]) (fr' := [(0, aI a0), (1, aD (.slice (.pair (.slice tI) (.slice tI))) a1), (17, aD (.slice (.pair (.slice tI) (.slice tI))) a1), (18, aI (List.length a1 : Int)), (19, aI i32), (42, aB true)]) (L' := [(6, .one (.pair (.slice tI) (.slice tI)) v35)]) (obs := [((decide ((List.length v35.1 : Int) > (3 : Int))) = true), ((decide ((List.length v35.1 : Int) > (3 : Int))) = true), ((decide ((List.length v35.1 : Int) > (3 : Int))) = true), ((decide ((List.length v35.1 : Int) > (3 : Int))) = true), ((decide ((List.length v35.1 : Int) > (3 : Int))) = true)]) rfl (by kernel_rfl) (allP2 h43 (allP2 h43 (allP2 h43 (allP2 h43 (allP1 h43))))) ?_
              obtain rfl := Option.some.inj h
              refine WO_fin [0, 1, 17, 18, 19, 42] [] (fr' := [(0, aI a0), (1, aD (.slice (.pair (.slice tI) (.slice tI))) a1), (17, aD (.slice (.pair (.slice tI) (.slice tI))) a1), (18, aI (List.length a1 : Int)), (19, aI i32), (42, aB true)]) (L' := []) (by kernel_rfl) (by kernel_rfl) ?_
              exact exQ_mk (by kernel_rfl) (by kernel_rfl)
            · replace h := ofF h43 h
              refine WO_run (j := 20) (k := 5) (orcs := [(30, .known false), (32, .known false), (34, .known false), (36, .known false), (39, .val (.dat .bool false))]) (kF := [0, 1, 17, 18, 19, 42]) (kL := [6]) (fr' := [(0, aI a0), (1, aD (.slice (.pair (.slice tI) (.slice tI))) a1), (17, aD (.slice (.pair (.slice tI) (.slice tI))) a1), (18, aI (List.length a1 : Int)), (19, aI i32), (42, aB (decide ((List.length v35.2 : Int) > (3 : Int))))]) (L' := [(6, .one (.pair (.slice tI) (.slice tI)) v35)]) (obs := [((decide ((List.length v35.1 : Int) > (3 : Int))) = false), ((decide ((List.length v35.1 : Int) > (3 : Int))) = false), ((decide ((List.length v35.1 : Int) > (3 : Int))) = false), ((decide ((List.length v35.1 : Int) > (3 : Int))) = false), ((decide ((List.length v35.1 : Int) > (3 : Int))) = false)]) rfl (by kernel_rfl) (allP2 h43 (allP2 h43 (allP2 h43 (allP2 h43 (allP1 h43))))) ?_
              obtain rfl := Option.some.inj h
              refine WO_fin [0, 1, 17, 18, 19, 42] [] (fr' := [(0, aI a0), (1, aD (.slice (.pair (.slice tI) (.slice tI))) a1), (17, aD (.slice (.pair (.slice tI) (.slice tI))) a1), (18, aI (List.length a1 : Int)), (19, aI i32), (42, aB (decide ((List.length v35.2 : Int) > (3 : Int))))]) (L' := []) (by kernel_rfl) (by kernel_rfl) ?_
              exact exQ_mk (by kernel_rfl) (by kernel_rfl)
        · intro e fr L hJ
          obtain ⟨rfl, rfl, rfl⟩ := hJ
          refine LT_keep [0, 1, 17, 18, 19, 42] [] (fr' := [(0, aI a0), (1, aD (.slice (.pair (.slice tI) (.slice tI))) a1), (17, aD (.slice (.pair (.slice tI) (.slice tI))) a1), (18, aI (List.length a1 : Int)), (19, aI i32), (42, aB v44)]) (L' := []) (by kernel_rfl) ?_
          refine seqQ_norm ?_
          refine W_cond (o := .tmp 42) (b := v44) (by kernel_rfl) (by kernel_rfl) (fun h46 => ?_) (fun h46 => ?_)
          · replace h := ofT h46 h
            refine W_seq (by kernel_rfl) ?_
            refine W_run 1 [] [4] [] (fr' := [(4, aI (1 : Int))]) (L' := []) (obs := []) (by kernel_rfl) (by kernel_rfl) (by kernel_rfl) allP0 ?_
            refine seqQ_norm ?_
            obtain rfl := Option.some.inj h
            refine W_ret [4] [] (fr' := [(4, aI (1 : Int))]) (L' := []) (by kernel_rfl) (by kernel_rfl) ?_
            refine blockQ_ret ?_
            refine seqQ_ret ?_
            refine round_ret ?_
            refine escQ_ret ?_
            exact exQ_mk (by kernel_rfl) (by kernel_rfl)
          · replace h := ofF h46 h
            refine W_skip [0, 1, 17, 18, 19] [] (fr' := [(0, aI a0), (1, aD (.slice (.pair (.slice tI) (.slice tI))) a1), (17, aD (.slice (.pair (.slice tI) (.slice tI))) a1), (18, aI (List.length a1 : Int)), (19, aI i32)]) (L' := []) (by kernel_rfl) (by kernel_rfl) ?_
            refine blockQ_norm ?_
            refine seqQ_norm ?_
            obtain rfl := Option.some.inj h
            refine W_run 2 [] [0, 1, 17, 18, 19] [] (fr' := [(0, aI a0), (1, aD (.slice (.pair (.slice tI) (.slice tI))) a1), (17, aD (.slice (.pair (.slice tI) (.slice tI))) a1), (18, aI (List.length a1 : Int)), (19, aI (w64 (i32 + (1 : Int))))]) (L' := []) (obs := []) (by kernel_rfl) (by kernel_rfl) (by kernel_rfl) allP0 ?_
            exact round_next' (by kernel_rfl) (by kernel_rfl)
      · obtain rfl := stepL_false h37 h
        refine W_exit (id := 0) [0, 1] [] (fr' := [(0, aI a0), (1, aD (.slice (.pair (.slice tI) (.slice tI))) a1)]) (L' := []) (by kernel_rfl) (by kernel_rfl) ?_
        refine seqQ_exit ?_
        refine round_exit ?_
        refine escQ_brk ?_
        exact exQ_mk (by kernel_rfl) (by kernel_rfl)
    · intro e fr L hJ
      rcases v48 with v53 | v54
      · obtain ⟨rfl, rfl, rfl⟩ := hJ
        obtain rfl := Option.some.inj h
        refine LT_keep [4] [] (fr' := [(4, aI v53)]) (L' := []) (by kernel_rfl) ?_
        refine blockQ_ret ?_
        refine seqQ_ret ?_
        exact retQ_mk (by kernel_rfl) (by kernel_rfl) (by kernel_rfl)
      · obtain ⟨rfl, rfl, rfl⟩ := hJ
        refine LT_keep [0, 1] [] (fr' := [(0, aI a0), (1, aD (.slice (.pair (.slice tI) (.slice tI))) a1)]) (L' := []) (by kernel_rfl) ?_
        refine blockQ_hit ?_
        refine seqQ_norm ?_
        refine W_seq (by kernel_rfl) ?_
        refine W_seq (by kernel_rfl) ?_
        refine W_run 3 [] [0, 44, 45, 46] [] (fr' := [(0, aI a0), (44, aD (.slice (.pair (.slice tI) (.slice tI))) a1), (45, aI (List.length a1 : Int)), (46, aI (0 : Int))]) (L' := []) (obs := []) (by kernel_rfl) (by kernel_rfl) (by kernel_rfl) allP0 ?_
        refine seqQ_norm ?_
        refine W_block (id := 2) (by kernel_rfl) ?_
        obtain ⟨v124, h125, h⟩ := bind_of h
        refine W_len (t := 44) (u := (.pair (.slice tI) (.slice tI))) (xs := a1) (by kernel_rfl) (fun h128 => ?_)
        obtain ⟨h126, h127⟩ := forL_iter h128 h125
        refine W_weaken [0, 44, 45, 46] [] (fr' := ((ref_HardCheck_s15 a0 a1) ((0 : Int), ())).1) (L' := ((ref_HardCheck_s15 a0 a1) ((0 : Int), ())).2) (by kernel_rfl) ?_
        refine W_cutK (W_loop (S := (ref_HardCheck_s15 a0 a1)) (J := (escQ (exQ .ret ref_HardCheck_s16) (exQ (.exit 2) ref_HardCheck_s17))) (by kernel_rfl) ?_ h126 _ v124 h127) ?_
        · rintro ⟨i99, x100⟩ s h
          refine W_seq (by kernel_rfl) ?_
          refine W_run 1 [] [0, 44, 45, 46, 47] [] (fr' := [(0, aI a0), (44, aD (.slice (.pair (.slice tI) (.slice tI))) a1), (45, aI (List.length a1 : Int)), (46, aI i99), (47, aB (decide (i99 < (List.length a1 : Int))))]) (L' := []) (obs := []) (by kernel_rfl) (by kernel_rfl) (by kernel_rfl) allP0 ?_
          refine seqQ_norm ?_
          refine W_seq (by kernel_rfl) ?_
          refine W_cond (o := .tmp 47) (b := decide (i99 < (List.length a1 : Int))) (by kernel_rfl) (by kernel_rfl) (fun h104 => ?_) (fun h104 => ?_)
          · replace h := stepL_true h104 h
            obtain ⟨v102, _, h103, h, rfl⟩ := h
            refine W_skip [0, 44, 45, 46] [] (fr' := [(0, aI a0), (44, aD (.slice (.pair (.slice tI) (.slice tI))) a1), (45, aI (List.length a1 : Int)), (46, aI i99)]) (L' := []) (by kernel_rfl) (by kernel_rfl) ?_
            refine seqQ_norm ?_
            refine W_seq (by kernel_rfl) ?_
            refine W_block (id := 3) (by kernel_rfl) ?_
            refine W_seq (by kernel_rfl) ?_
            refine W_run 4 [(1, .val (.dat (.pair (.slice tI) (.slice tI)) v102)), (5, .typed)] [0, 8, 44, 45, 46] [8] (fr' := [(0, aI a0), (8, .one (.ptr 8 0)), (44, aD (.slice (.pair (.slice tI) (.slice tI))) a1), (45, aI (List.length a1 : Int)), (46, aI i99)]) (L' := [(8, .one (.pair (.slice tI) (.slice tI)) v102)]) (obs := [Idx a1 i99 v102, True]) (by kernel_rfl) (by kernel_rfl) (by kernel_rfl) (allP2 (Idx.of h103) (allP1 trivial)) ?_
            refine seqQ_norm ?_
            refine W_seq (by kernel_rfl) ?_
            obtain ⟨v120, h121, h⟩ := bind_of h
            refine W_cutK (Q' := (exQ .normal (ref_HardCheck_s13 a0 a1 i99)) v120) ?_ ?_
            · replace h := h121
              refine W_region (by kernel_rfl) ?_
              refine WO_run (j := 3) (k := 3) (orcs := []) (kF := [0, 8, 44, 45, 46, 50, 52]) (kL := [8]) (fr' := [(0, aI a0), (8, .one (.ptr 8 0)), (44, aD (.slice (.pair (.slice tI) (.slice tI))) a1), (45, aI (List.length a1 : Int)), (46, aI i99), (50, aI a0), (52, aD (.slice tI) v102.1)]) (L' := [(8, .one (.pair (.slice tI) (.slice tI)) v102)]) (obs := []) rfl (by kernel_rfl) allP0 ?_
              obtain ⟨r115, h116, h⟩ := bind_of h
              refine WO_call0 (us := [none, none]) (d := 53) (p := True) (j := 4) rfl ⟨by kernel_rfl, by kernel_rfl, by kernel_rfl⟩ trivial (ref_Inside_ok h116) (by kernel_rfl) ?_
              refine WO_run (j := 6) (k := 2) (orcs := []) (kF := [0, 8, 44, 45, 46, 55]) (kL := [8]) (fr' := [(0, aI a0), (8, .one (.ptr 8 0)), (44, aD (.slice (.pair (.slice tI) (.slice tI))) a1), (45, aI (List.length a1 : Int)), (46, aI i99), (55, aB (!r115))]) (L' := [(8, .one (.pair (.slice tI) (.slice tI)) v102)]) (obs := []) rfl (by kernel_rfl) allP0 ?_
              rcases Bool.eq_false_or_eq_true (!r115) with h117 | h117
              · replace h := ofT h117 h
                refine WO_run (j := 12) (k := 6) (orcs := [(12, .known true), (14, .known true), (16, .known true), (18, .known true), (20, .known true), (23, .val (.dat .bool true))]) (kF := [0, 44, 45, 46, 61]) (kL := [8]) (fr' := [(0, aI a0), (44, aD (.slice (.pair (.slice tI) (.slice tI))) a1), (45, aI (List.length a1 : Int)), (46, aI i99), (61, aB true)]) (L' := [(8, .one (.pair (.slice tI) (.slice tI)) v102)]) (obs := [((!r115) = true), ((!r115) = true), ((!r115) = true), ((!r115) = true), ((!r115) = true), ((!r115) = true)]) rfl (by kernel_rfl) (allP2 h117 (allP2 h117 (allP2 h117 (allP2 h117 (allP2 h117 (allP1 h117)))))) ?_
                obtain rfl := Option.some.inj h
                refine WO_fin [0, 44, 45, 46, 61] [] (fr' := [(0, aI a0), (44, aD (.slice (.pair (.slice tI) (.slice tI))) a1), (45, aI (List.length a1 : Int)), (46, aI i99), (61, aB true)]) (L' := []) (by kernel_rfl) (by kernel_rfl) ?_
                exact exQ_mk (by kernel_rfl) (by kernel_rfl)
              · replace h := ofF h117 h
                refine WO_run (j := 9) (k := 3) (orcs := [(12, .known false), (14, .known false), (16, .known false)]) (kF := [0, 44, 45, 46, 55, 56, 58]) (kL := [8]) (fr' := [(0, aI a0), (44, aD (.slice (.pair (.slice tI) (.slice tI))) a1), (45, aI (List.length a1 : Int)), (46, aI i99), (55, aB (!r115)), (56, aI a0), (58, aD (.slice tI) v102.2)]) (L' := [(8, .one (.pair (.slice tI) (.slice tI)) v102)]) (obs := [((!r115) = false), ((!r115) = false), ((!r115) = false)]) rfl (by kernel_rfl) (allP2 h117 (allP2 h117 (allP1 h117))) ?_
                obtain ⟨r118, h119, h⟩ := bind_of h
                refine WO_call0 (us := [none, none]) (d := 59) (p := ((!r115) = false)) (j := 10) rfl ⟨by kernel_rfl, by kernel_rfl, by kernel_rfl⟩ h117 (ref_Inside_ok h119) (by kernel_rfl) ?_
                refine WO_run (j := 12) (k := 2) (orcs := [(20, .known false), (23, .val (.dat .bool false))]) (kF := [0, 44, 45, 46, 61]) (kL := [8]) (fr' := [(0, aI a0), (44, aD (.slice (.pair (.slice tI) (.slice tI))) a1), (45, aI (List.length a1 : Int)), (46, aI i99), (61, aB (!r118))]) (L' := [(8, .one (.pair (.slice tI) (.slice tI)) v102)]) (obs := [((!r115) = false), ((!r115) = false)]) rfl (by kernel_rfl) (allP2 h117 (allP1 h117)) ?_
                obtain rfl := Option.some.inj h
                refine WO_fin [0, 44, 45, 46, 61] [] (fr' := [(0, aI a0), (44, aD (.slice (.pair (.slice tI) (.slice tI))) a1), (45, aI (List.length a1 : Int)), (46, aI i99), (61, aB (!r118))]) (L' := []) (by kernel_rfl) (by kernel_rfl) ?_
                exact exQ_mk (by kernel_rfl) (by kernel_rfl)
            · intro e fr L hJ
              obtain ⟨rfl, rfl, rfl⟩ := hJ
              refine LT_keep [0, 44, 45, 46, 61] [] (fr' := [(0, aI a0), (44, aD (.slice (.pair (.slice tI) (.slice tI))) a1), (45, aI (List.length a1 : Int)), (46, aI i99), (61, aB v120)]) (L' := []) (by kernel_rfl) ?_
              refine seqQ_norm ?_
              refine W_cond (o := .tmp 61) (b := v120) (by kernel_rfl) (by kernel_rfl) (fun h122 => ?_) (fun h122 => ?_)
              · replace h := ofT h122 h
                refine W_seq (by kernel_rfl) ?_
                refine W_run 1 [] [4] [] (fr' := [(4, aI (2 : Int))]) (L' := []) (obs := []) (by kernel_rfl) (by kernel_rfl) (by kernel_rfl) allP0 ?_
                refine seqQ_norm ?_
                obtain rfl := Option.some.inj h
                refine W_ret [4] [] (fr' := [(4, aI (2 : Int))]) (L' := []) (by kernel_rfl) (by kernel_rfl) ?_
                refine blockQ_ret ?_
                refine seqQ_ret ?_
                refine round_ret ?_
                refine escQ_ret ?_
                exact exQ_mk (by kernel_rfl) (by kernel_rfl)
              · replace h := ofF h122 h
                refine W_skip [0, 44, 45, 46] [] (fr' := [(0, aI a0), (44, aD (.slice (.pair (.slice tI) (.slice tI))) a1), (45, aI (List.length a1 : Int)), (46, aI i99)]) (L' := []) (by kernel_rfl) (by kernel_rfl) ?_
                refine blockQ_norm ?_
                refine seqQ_norm ?_
                obtain rfl := Option.some.inj h
                refine W_run 2 [] [0, 44, 45, 46] [] (fr' := [(0, aI a0), (44, aD (.slice (.pair (.slice tI) (.slice tI))) a1), (45, aI (List.length a1 : Int)), (46, aI (w64 (i99 + (1 : Int))))]) (L' := []) (obs := []) (by kernel_rfl) (by kernel_rfl) (by kernel_rfl) allP0 ?_
                exact round_next' (by kernel_rfl) (by kernel_rfl)
          · obtain rfl := stepL_false h104 h
            refine W_exit (id := 2) [] [] (fr' := []) (L' := []) (by kernel_rfl) (by kernel_rfl) ?_
            refine seqQ_exit ?_
            refine round_exit ?_
            refine escQ_brk ?_
            exact exQ_mk (by kernel_rfl) (by kernel_rfl)
        · intro e fr L hJ
          rcases v124 with v129 | v130
          · obtain ⟨rfl, rfl, rfl⟩ := hJ
            obtain rfl := Option.some.inj h
            refine LT_keep [4] [] (fr' := [(4, aI v129)]) (L' := []) (by kernel_rfl) ?_
            refine blockQ_ret ?_
            refine seqQ_ret ?_
            exact retQ_mk (by kernel_rfl) (by kernel_rfl) (by kernel_rfl)
          · obtain ⟨rfl, rfl, rfl⟩ := hJ
            refine LT_keep [] [] (fr' := []) (L' := []) (by kernel_rfl) ?_
            refine blockQ_hit ?_
            refine seqQ_norm ?_
            refine W_seq (by kernel_rfl) ?_
            refine W_run 1 [] [4] [] (fr' := [(4, aI (0 : Int))]) (L' := []) (obs := []) (by kernel_rfl) (by kernel_rfl) (by kernel_rfl) allP0 ?_
            refine seqQ_norm ?_
            obtain rfl := Option.some.inj h
            refine W_ret [4] [] (fr' := [(4, aI (0 : Int))]) (L' := []) (by kernel_rfl) (by kernel_rfl) ?_
            exact retQ_mk (by kernel_rfl) (by kernel_rfl) (by kernel_rfl)

def ref_Twos_b1 (a1 : (List (List Int))) (i16 : Int) (v19 : (List Int)) (x17 : Unit) : Option (Flow Unit (Esc Bool Unit)) :=
(idx a1 i16).bind fun v22 =>
bif !(deqT (.arr 2 tI) v19 v22) then
(some (.done (.ret false)))
else
(some (.next ()))
@[reducible] def ref_Twos_s2 (a0 : (List (List Int))) (a1 : (List (List Int))) (v : Int × Unit) : Fr × LL := ([(0, aD (.slice (.arr 2 tI)) a0), (1, aD (.slice (.arr 2 tI)) a1), (5, aI v.1)], [])
@[reducible] def ref_Twos_s3 (v : Bool) : Fr × LL := ([(4, aB v)], [])
@[reducible] def ref_Twos_s4 (v : Unit) : Fr × LL := ([], [])
def ref_Twos (a0 : (List (List Int))) (a1 : (List (List Int))) : Option Bool :=
bif (List.length a0 : Int) != (List.length a1 : Int) then
(some false)
else
((forL (ref_Twos_b1 a1) (fun x17 => (.brk ())) a0 0 ()).bind fun v26 =>
match v26 with
| .ret v31 =>
(some v31)
| .brk v32 =>
(some true))
theorem ref_Twos_ok {a0 : (List (List Int))} {a1 : (List (List Int))} {r : Bool} (h : ref_Twos a0 a1 = some r) : FnC Try.prog 40 [aD (.slice (.arr 2 tI)) a0, aD (.slice (.arr 2 tI)) a1] [] (aB r) [] := by
  refine fnC_of_W (B := bodyOf Try.f40) (n := 26) Try.func40 (by kernel_rfl) (by kernel_rfl) (by kernel_rfl) (by kernel_rfl) (by kernel_rfl) ?_
  intro K
  refine W_seq (by kernel_rfl) ?_
  refine W_run 1 [] [0, 1] [] (fr' := [(0, aD (.slice (.arr 2 tI)) a0), (1, aD (.slice (.arr 2 tI)) a1)]) (L' := []) (obs := []) (by kernel_rfl) (by kernel_rfl) (by kernel_rfl) allP0 ?_
  refine seqQ_norm ?_
  refine W_seq (by kernel_rfl) ?_
  refine W_seq (by kernel_rfl) ?_
  refine W_run 5 [] [0, 1, 10] [] (fr' := [(0, aD (.slice (.arr 2 tI)) a0), (1, aD (.slice (.arr 2 tI)) a1), (10, aB ((List.length a0 : Int) != (List.length a1 : Int)))]) (L' := []) (obs := []) (by kernel_rfl) (by kernel_rfl) (by kernel_rfl) allP0 ?_
  refine seqQ_norm ?_
  refine W_cond (o := .tmp 10) (b := (List.length a0 : Int) != (List.length a1 : Int)) (by kernel_rfl) (by kernel_rfl) (fun h1 => ?_) (fun h1 => ?_)
  · replace h := ofT h1 h
    refine W_seq (by kernel_rfl) ?_
    refine W_run 1 [] [4] [] (fr' := [(4, aB false)]) (L' := []) (obs := []) (by kernel_rfl) (by kernel_rfl) (by kernel_rfl) allP0 ?_
    refine seqQ_norm ?_
    obtain rfl := Option.some.inj h
    refine W_ret [4] [] (fr' := [(4, aB false)]) (L' := []) (by kernel_rfl) (by kernel_rfl) ?_
    refine seqQ_ret ?_
    exact retQ_mk (by kernel_rfl) (by kernel_rfl) (by kernel_rfl)
  · replace h := ofF h1 h
    refine W_skip [0, 1] [] (fr' := [(0, aD (.slice (.arr 2 tI)) a0), (1, aD (.slice (.arr 2 tI)) a1)]) (L' := []) (by kernel_rfl) (by kernel_rfl) ?_
    refine seqQ_norm ?_
    refine W_seq (by kernel_rfl) ?_
    refine W_seq (by kernel_rfl) ?_
    refine W_run 1 [] [0, 1, 5] [] (fr' := [(0, aD (.slice (.arr 2 tI)) a0), (1, aD (.slice (.arr 2 tI)) a1), (5, aI (0 : Int))]) (L' := []) (obs := []) (by kernel_rfl) (by kernel_rfl) (by kernel_rfl) allP0 ?_
    refine seqQ_norm ?_
    refine W_block (id := 0) (by kernel_rfl) ?_
    obtain ⟨v26, h27, h⟩ := bind_of h
    refine W_len (t := 0) (u := (.arr 2 tI)) (xs := a0) (by kernel_rfl) (fun h30 => ?_)
    obtain ⟨h28, h29⟩ := forL_iter h30 h27
    refine W_weaken [0, 1, 5] [] (fr' := ((ref_Twos_s2 a0 a1) ((0 : Int), ())).1) (L' := ((ref_Twos_s2 a0 a1) ((0 : Int), ())).2) (by kernel_rfl) ?_
    refine W_cutK (W_loop (S := (ref_Twos_s2 a0 a1)) (J := (escQ (exQ .ret ref_Twos_s3) (exQ (.exit 0) ref_Twos_s4))) (by kernel_rfl) ?_ h28 _ v26 h29) ?_
    · rintro ⟨i16, x17⟩ s h
      refine W_seq (by kernel_rfl) ?_
      refine W_seq (by kernel_rfl) ?_
      refine W_run 4 [] [0, 1, 5, 14] [] (fr' := [(0, aD (.slice (.arr 2 tI)) a0), (1, aD (.slice (.arr 2 tI)) a1), (5, aI i16), (14, aB (decide (i16 < (List.length a0 : Int))))]) (L' := []) (obs := []) (by kernel_rfl) (by kernel_rfl) (by kernel_rfl) allP0 ?_
      refine seqQ_norm ?_
      refine W_cond (o := .tmp 14) (b := decide (i16 < (List.length a0 : Int))) (by kernel_rfl) (by kernel_rfl) (fun h21 => ?_) (fun h21 => ?_)
      · replace h := stepL_true h21 h
        obtain ⟨v19, _, h20, h, rfl⟩ := h
        refine W_skip [0, 1, 5] [] (fr' := [(0, aD (.slice (.arr 2 tI)) a0), (1, aD (.slice (.arr 2 tI)) a1), (5, aI i16)]) (L' := []) (by kernel_rfl) (by kernel_rfl) ?_
        refine seqQ_norm ?_
        refine W_seq (by kernel_rfl) ?_
        refine W_block (id := 1) (by kernel_rfl) ?_
        refine W_seq (by kernel_rfl) ?_
        obtain ⟨v22, h23, h⟩ := bind_of h
        refine W_draw2 9 [(5, .val (.dat (.arr 2 tI) v19)), (13, .val (.dat (.arr 2 tI) v22))] [] [0, 1, 5, 25] [] (fr' := [(0, aD (.slice (.arr 2 tI)) a0), (1, aD (.slice (.arr 2 tI)) a1), (5, aI i16), (25, aB (!(deqT (.arr 2 tI) v19 v22)))]) (L' := []) (out := [(17, aD (.slice (.arr 2 tI)) a0), (18, aI i16), (19, .one (.dptr (.arr 2 tI) v19)), (20, aD (.arr 2 tI) v19), (21, aD (.slice (.arr 2 tI)) a1), (22, aI i16), (23, .one (.dptr (.arr 2 tI) v22)), (24, aD (.arr 2 tI) v22), (25, aB (!(deqT (.arr 2 tI) v19 v22)))]) (obs := [Idx a0 i16 v19, Idx a1 i16 v22]) (obs2 := []) (calls := []) (by kernel_rfl) (by kernel_rfl) (by kernel_rfl) (by kernel_rfl) (allP2 (Idx.of h20) (allP1 (Idx.of h23))) allC0 (by kernel_rfl) allP0 ?_
        refine seqQ_norm ?_
        refine W_cond (o := .tmp 25) (b := !(deqT (.arr 2 tI) v19 v22)) (by kernel_rfl) (by kernel_rfl) (fun h24 => ?_) (fun h24 => ?_)
        · replace h := ofT h24 h
          refine W_seq (by kernel_rfl) ?_
          refine W_run 1 [] [4] [] (fr' := [(4, aB false)]) (L' := []) (obs := []) (by kernel_rfl) (by kernel_rfl) (by kernel_rfl) allP0 ?_
          refine seqQ_norm ?_
          obtain rfl := Option.some.inj h
          refine W_ret [4] [] (fr' := [(4, aB false)]) (L' := []) (by kernel_rfl) (by kernel_rfl) ?_
          refine blockQ_ret ?_
          refine seqQ_ret ?_
          refine round_ret ?_
          refine escQ_ret ?_
          exact exQ_mk (by kernel_rfl) (by kernel_rfl)
        · replace h := ofF h24 h
          refine W_skip [0, 1, 5] [] (fr' := [(0, aD (.slice (.arr 2 tI)) a0), (1, aD (.slice (.arr 2 tI)) a1), (5, aI i16)]) (L' := []) (by kernel_rfl) (by kernel_rfl) ?_
          refine blockQ_norm ?_
          refine seqQ_norm ?_
          obtain rfl := Option.some.inj h
          refine W_run 3 [] [0, 1, 5] [] (fr' := [(0, aD (.slice (.arr 2 tI)) a0), (1, aD (.slice (.arr 2 tI)) a1), (5, aI (w64 (i16 + (1 : Int))))]) (L' := []) (obs := []) (by kernel_rfl) (by kernel_rfl) (by kernel_rfl) allP0 ?_
          exact round_next' (by kernel_rfl) (by kernel_rfl)
      · obtain rfl := stepL_false h21 h
        refine W_exit (id := 0) [] [] (fr' := []) (L' := []) (by kernel_rfl) (by kernel_rfl) ?_
        refine seqQ_exit ?_
        refine round_exit ?_
        refine escQ_brk ?_
        exact exQ_mk (by kernel_rfl) (by kernel_rfl)
    · intro e fr L hJ
      rcases v26 with v31 | v32
      · obtain ⟨rfl, rfl, rfl⟩ := hJ
        obtain rfl := Option.some.inj h
        refine LT_keep [4] [] (fr' := [(4, aB v31)]) (L' := []) (by kernel_rfl) ?_
        refine blockQ_ret ?_
        refine seqQ_ret ?_
        exact retQ_mk (by kernel_rfl) (by kernel_rfl) (by kernel_rfl)
      · obtain ⟨rfl, rfl, rfl⟩ := hJ
        refine LT_keep [] [] (fr' := []) (L' := []) (by kernel_rfl) ?_
        refine blockQ_hit ?_
        refine seqQ_norm ?_
        refine W_seq (by kernel_rfl) ?_
        refine W_run 1 [] [4] [] (fr' := [(4, aB true)]) (L' := []) (obs := []) (by kernel_rfl) (by kernel_rfl) (by kernel_rfl) allP0 ?_
        refine seqQ_norm ?_
        obtain rfl := Option.some.inj h
        refine W_ret [4] [] (fr' := [(4, aB true)]) (L' := []) (by kernel_rfl) (by kernel_rfl) ?_
        exact retQ_mk (by kernel_rfl) (by kernel_rfl) (by kernel_rfl)

def law_HardDots_b13 (i116 : Int) (i134 : Int) (v137 : Int) (x135 : ((List Int) × (List Int))) : Option (Flow ((List Int) × (List Int)) ((List Int) × (List Int))) :=
(ck ((List.length x135.1 : Int) + 1 ≤ 4294967296)).bind fun _ =>
(ck ((List.length x135.2 : Int) + 1 ≤ 4294967296)).bind fun _ =>
some (.next (x135.1 ++ [i116], x135.2 ++ [w64 (v137 + (1 : Int))]))
@[reducible] def law_HardDots_s14 (a1 : (List ((List Int) × (List Int)))) (r1 : (Int × (List (List Int)) × Int)) (i116 : Int) (v119 : ((List Int) × (List Int))) (v : Int × ((List Int) × (List Int))) : Fr × LL := ([(5, aI r1.1), (6, aD (.slice (.arr 2 tI)) r1.2.1), (7, aI r1.2.2), (9, .one (.slc 61)), (10, .one (.slc 66)), (11, aI i116), (12, .one (.ptr 12 0)), (44, aD (.slice (.pair (.slice tI) (.slice tI))) a1), (45, aI (List.length a1 : Int)), (46, aI i116), (52, aD (.slice tI) v119.1), (53, aI (List.length v119.1 : Int)), (54, aI v.1)], [(61, .seq tI v.2.1), (66, .seq tI v.2.2), (12, .one (.pair (.slice tI) (.slice tI)) v119)])
@[reducible] def law_HardDots_s15 (a1 : (List ((List Int) × (List Int)))) (r1 : (Int × (List (List Int)) × Int)) (i116 : Int) (v119 : ((List Int) × (List Int))) (v : ((List Int) × (List Int))) : Fr × LL := ([(5, aI r1.1), (6, aD (.slice (.arr 2 tI)) r1.2.1), (7, aI r1.2.2), (9, .one (.slc 61)), (10, .one (.slc 66)), (11, aI i116), (12, .one (.ptr 12 0)), (44, aD (.slice (.pair (.slice tI) (.slice tI))) a1), (45, aI (List.length a1 : Int)), (46, aI i116)], [(61, .seq tI v.1), (66, .seq tI v.2), (12, .one (.pair (.slice tI) (.slice tI)) v119)])
def law_HardDots_b16 (i116 : Int) (i160 : Int) (v163 : Int) (x161 : ((List Int) × (List Int))) : Option (Flow ((List Int) × (List Int)) ((List Int) × (List Int))) :=
(ck ((List.length x161.1 : Int) + 1 ≤ 4294967296)).bind fun _ =>
(ck ((List.length x161.2 : Int) + 1 ≤ 4294967296)).bind fun _ =>
some (.next (x161.1 ++ [i116], x161.2 ++ [w64 ((-1 : Int) - v163)]))
@[reducible] def law_HardDots_s17 (a1 : (List ((List Int) × (List Int)))) (r1 : (Int × (List (List Int)) × Int)) (i116 : Int) (v119 : ((List Int) × (List Int))) (v : Int × ((List Int) × (List Int))) : Fr × LL := ([(5, aI r1.1), (6, aD (.slice (.arr 2 tI)) r1.2.1), (7, aI r1.2.2), (9, .one (.slc 61)), (10, .one (.slc 66)), (11, aI i116), (44, aD (.slice (.pair (.slice tI) (.slice tI))) a1), (45, aI (List.length a1 : Int)), (46, aI i116), (69, aD (.slice tI) v119.2), (70, aI (List.length v119.2 : Int)), (71, aI v.1)], [(61, .seq tI v.2.1), (66, .seq tI v.2.2)])
@[reducible] def law_HardDots_s18 (a1 : (List ((List Int) × (List Int)))) (r1 : (Int × (List (List Int)) × Int)) (i116 : Int) (v : ((List Int) × (List Int))) : Fr × LL := ([(5, aI r1.1), (6, aD (.slice (.arr 2 tI)) r1.2.1), (7, aI r1.2.2), (9, .one (.slc 61)), (10, .one (.slc 66)), (44, aD (.slice (.pair (.slice tI) (.slice tI))) a1), (45, aI (List.length a1 : Int)), (46, aI i116)], [(61, .seq tI v.1), (66, .seq tI v.2)])
def law_HardDots_b19 (i116 : Int) (v119 : ((List Int) × (List Int))) (x117 : ((List Int) × (List Int))) : Option (Flow ((List Int) × (List Int)) ((List Int) × (List Int))) :=
(forL (law_HardDots_b13 i116) (fun x135 => (x135.1, x135.2)) v119.1 0 (x117.1, x117.2)).bind fun v143 =>
(forL (law_HardDots_b16 i116) (fun x161 => (x161.1, x161.2)) v119.2 0 (v143.1, v143.2)).bind fun v169 =>
some (.next (v169.1, v169.2))
@[reducible] def law_HardDots_s20 (a1 : (List ((List Int) × (List Int)))) (r1 : (Int × (List (List Int)) × Int)) (v : Int × ((List Int) × (List Int))) : Fr × LL := ([(5, aI r1.1), (6, aD (.slice (.arr 2 tI)) r1.2.1), (7, aI r1.2.2), (9, .one (.slc 61)), (10, .one (.slc 66)), (44, aD (.slice (.pair (.slice tI) (.slice tI))) a1), (45, aI (List.length a1 : Int)), (46, aI v.1)], [(61, .seq tI v.2.1), (66, .seq tI v.2.2)])
@[reducible] def law_HardDots_s21 (r1 : (Int × (List (List Int)) × Int)) (v : ((List Int) × (List Int))) : Fr × LL := ([(5, aI r1.1), (6, aD (.slice (.arr 2 tI)) r1.2.1), (7, aI r1.2.2), (9, .one (.slc 61)), (10, .one (.slc 66))], [(61, .seq tI v.1), (66, .seq tI v.2)])
def law_HardDots_g95 (v175 : ((List Int) × (List Int))) (i777 : Int) (v780 : Int) (i941 : Int) : Option Bool :=
(idx v175.1 i941).bind fun v1009 =>
bif v780 == v1009 then
(some true)
else
((idx v175.2 i777).bind fun v1012 =>
(idx v175.2 i941).bind fun v1014 =>
some (v1012 == (w64 (0 - v1014))))
@[reducible] def law_HardDots_s96 (r1 : (Int × (List (List Int)) × Int)) (v175 : ((List Int) × (List Int))) (i777 : Int) (i941 : Int) (x942 : (List (List Int))) (v : Bool) : Fr × LL := ([(5, aI r1.1), (6, aD (.slice (.arr 2 tI)) r1.2.1), (7, aI r1.2.2), (9, .one (.slc 61)), (10, .one (.slc 66)), (17, .one (.slc 126)), (18, aI i777), (19, aI i941), (120, aB v)], [(61, .seq tI v175.1), (66, .seq tI v175.2), (126, .seq (.arr 2 tI) x942)])
def law_HardDots_g97 (v175 : ((List Int) × (List Int))) (i777 : Int) (v780 : Int) (i941 : Int) (x942 : (List (List Int))) : Option (List (List Int)) :=
(law_HardDots_g95 v175 i777 v780 i941).bind fun v1016 =>
bif v1016 then
((ck ((List.length x942 : Int) + 1 ≤ 4294967296)).bind fun _ =>
some (x942 ++ [[i777, i941]]))
else
(some x942)
@[reducible] def law_HardDots_s98 (r1 : (Int × (List (List Int)) × Int)) (v175 : ((List Int) × (List Int))) (i777 : Int) (i941 : Int) (v : (List (List Int))) : Fr × LL := ([(5, aI r1.1), (6, aD (.slice (.arr 2 tI)) r1.2.1), (7, aI r1.2.2), (9, .one (.slc 61)), (10, .one (.slc 66)), (17, .one (.slc 126)), (18, aI i777), (19, aI i941)], [(61, .seq tI v175.1), (66, .seq tI v175.2), (126, .seq (.arr 2 tI) v)])
def law_HardDots_b99 (v175 : ((List Int) × (List Int))) (i777 : Int) (v780 : Int) (i941 : Int) (x942 : (List (List Int))) : Option (Flow (List (List Int)) (List (List Int))) :=
(law_HardDots_g97 v175 i777 v780 i941 x942).bind fun v1020 =>
some (.next v1020)
@[reducible] def law_HardDots_s100 (r1 : (Int × (List (List Int)) × Int)) (v175 : ((List Int) × (List Int))) (i777 : Int) (v : Int × (List (List Int))) : Fr × LL := ([(5, aI r1.1), (6, aD (.slice (.arr 2 tI)) r1.2.1), (7, aI r1.2.2), (9, .one (.slc 61)), (10, .one (.slc 66)), (17, .one (.slc 126)), (18, aI i777), (19, aI v.1)], [(61, .seq tI v175.1), (66, .seq tI v175.2), (126, .seq (.arr 2 tI) v.2)])
@[reducible] def law_HardDots_s101 (r1 : (Int × (List (List Int)) × Int)) (v175 : ((List Int) × (List Int))) (i777 : Int) (v : (List (List Int))) : Fr × LL := ([(5, aI r1.1), (6, aD (.slice (.arr 2 tI)) r1.2.1), (7, aI r1.2.2), (9, .one (.slc 61)), (10, .one (.slc 66)), (17, .one (.slc 126)), (18, aI i777)], [(61, .seq tI v175.1), (66, .seq tI v175.2), (126, .seq (.arr 2 tI) v)])
def law_HardDots_b102 (v175 : ((List Int) × (List Int))) (i777 : Int) (v780 : Int) (x778 : (List (List Int))) : Option (Flow (List (List Int)) (List (List Int))) :=
(forI (w64 (i777 + (1 : Int))) (List.length v175.1 : Int) (law_HardDots_b99 v175 i777 v780) (fun x942 => x942) x778).bind fun v1023 =>
some (.next v1023)
@[reducible] def law_HardDots_s103 (r1 : (Int × (List (List Int)) × Int)) (v175 : ((List Int) × (List Int))) (v : Int × (List (List Int))) : Fr × LL := ([(5, aI r1.1), (6, aD (.slice (.arr 2 tI)) r1.2.1), (7, aI r1.2.2), (9, .one (.slc 61)), (10, .one (.slc 66)), (17, .one (.slc 126)), (18, aI v.1)], [(61, .seq tI v175.1), (66, .seq tI v175.2), (126, .seq (.arr 2 tI) v.2)])
@[reducible] def law_HardDots_s104 (r1 : (Int × (List (List Int)) × Int)) (v175 : ((List Int) × (List Int))) (v : (List (List Int))) : Fr × LL := ([(5, aI r1.1), (6, aD (.slice (.arr 2 tI)) r1.2.1), (7, aI r1.2.2), (9, .one (.slc 61)), (17, .one (.slc 126))], [(61, .seq tI v175.1), (126, .seq (.arr 2 tI) v)])
@[reducible] def law_HardDots_s105 (v : Bool) : Fr × LL := ([(4, aB v)], [])
def law_HardDots (a0 : Int) (a1 : (List ((List Int) × (List Int)))) : Option Bool :=
(hard_Dots a0 a1).bind fun r1 =>
(ref_HardCheck a0 a1).bind fun r3 =>
bif r3 != (0 : Int) then
(some (((r1.2.2 == r3) && (r1.1 == (0 : Int))) && ((List.length r1.2.1 : Int) == (0 : Int))))
else
((forL law_HardDots_b19 (fun x117 => (x117.1, x117.2)) a1 0 ([], [])).bind fun v175 =>
(forL (law_HardDots_b102 v175) (fun x778 => x778) v175.1 0 []).bind fun v1028 =>
(bif (r1.2.2 == (0 : Int)) && (r1.1 == (List.length v175.1 : Int)) then
((ref_Twos r1.2.1 v1028).bind fun r1040 =>
some r1040)
else
(some false)).bind fun v1042 =>
some v1042)
theorem law_HardDots_ok {a0 : Int} {a1 : (List ((List Int) × (List Int)))} {r : Bool} (h : law_HardDots a0 a1 = some r) : FnC Try.prog 10 [aI a0, aD (.slice (.pair (.slice tI) (.slice tI))) a1] [] (aB r) [] := by
  refine fnC_of_W (B := bodyOf Try.f10) (n := 140) Try.func10 (by kernel_rfl) (by kernel_rfl) (by kernel_rfl) (by kernel_rfl) (by kernel_rfl) ?_
  intro K
  refine W_seq (by kernel_rfl) ?_
  refine W_run 1 [] [0, 1] [] (fr' := [(0, aI a0), (1, aD (.slice (.pair (.slice tI) (.slice tI))) a1)]) (L' := []) (obs := []) (by kernel_rfl) (by kernel_rfl) (by kernel_rfl) allP0 ?_
  refine seqQ_norm ?_
  refine W_seq (by kernel_rfl) ?_
  refine W_region (by kernel_rfl) ?_
  refine WO_run (j := 2) (k := 2) (orcs := []) (kF := [0, 1, 21, 22]) (kL := []) (fr' := [(0, aI a0), (1, aD (.slice (.pair (.slice tI) (.slice tI))) a1), (21, aI a0), (22, aD (.slice (.pair (.slice tI) (.slice tI))) a1)]) (L' := []) (obs := []) rfl (by kernel_rfl) allP0 ?_
  obtain ⟨r1, h2, h⟩ := bind_of h
  refine WO_call0 (us := [none, none]) (d := 23) (p := True) (j := 3) rfl ⟨by kernel_rfl, by kernel_rfl, by kernel_rfl⟩ trivial (hard_Dots_ok h2) (by kernel_rfl) ?_
  refine WO_run (j := 10) (k := 7) (orcs := []) (kF := [0, 1, 5, 6, 7]) (kL := []) (fr' := [(0, aI a0), (1, aD (.slice (.pair (.slice tI) (.slice tI))) a1), (5, aI r1.1), (6, aD (.slice (.arr 2 tI)) r1.2.1), (7, aI r1.2.2)]) (L' := []) (obs := []) rfl (by kernel_rfl) allP0 ?_
  refine WO_fin [0, 1, 5, 6, 7] [] (fr' := [(0, aI a0), (1, aD (.slice (.pair (.slice tI) (.slice tI))) a1), (5, aI r1.1), (6, aD (.slice (.arr 2 tI)) r1.2.1), (7, aI r1.2.2)]) (L' := []) (by kernel_rfl) (by kernel_rfl) ?_
  refine seqQ_norm ?_
  refine W_seq (by kernel_rfl) ?_
  refine W_region (by kernel_rfl) ?_
  refine WO_run (j := 2) (k := 2) (orcs := []) (kF := [1, 5, 6, 7, 27, 28]) (kL := []) (fr' := [(1, aD (.slice (.pair (.slice tI) (.slice tI))) a1), (5, aI r1.1), (6, aD (.slice (.arr 2 tI)) r1.2.1), (7, aI r1.2.2), (27, aI a0), (28, aD (.slice (.pair (.slice tI) (.slice tI))) a1)]) (L' := []) (obs := []) rfl (by kernel_rfl) allP0 ?_
  obtain ⟨r3, h4, h⟩ := bind_of h
  refine WO_call0 (us := [none, none]) (d := 29) (p := True) (j := 3) rfl ⟨by kernel_rfl, by kernel_rfl, by kernel_rfl⟩ trivial (ref_HardCheck_ok h4) (by kernel_rfl) ?_
  refine WO_run (j := 4) (k := 1) (orcs := []) (kF := [1, 5, 6, 7, 8]) (kL := []) (fr' := [(1, aD (.slice (.pair (.slice tI) (.slice tI))) a1), (5, aI r1.1), (6, aD (.slice (.arr 2 tI)) r1.2.1), (7, aI r1.2.2), (8, aI r3)]) (L' := []) (obs := []) rfl (by kernel_rfl) allP0 ?_
  refine WO_fin [1, 5, 6, 7, 8] [] (fr' := [(1, aD (.slice (.pair (.slice tI) (.slice tI))) a1), (5, aI r1.1), (6, aD (.slice (.arr 2 tI)) r1.2.1), (7, aI r1.2.2), (8, aI r3)]) (L' := []) (by kernel_rfl) (by kernel_rfl) ?_
  refine seqQ_norm ?_
  refine W_seq (by kernel_rfl) ?_
  refine W_seq (by kernel_rfl) ?_
  refine W_run 2 [] [1, 5, 6, 7, 8, 31] [] (fr' := [(1, aD (.slice (.pair (.slice tI) (.slice tI))) a1), (5, aI r1.1), (6, aD (.slice (.arr 2 tI)) r1.2.1), (7, aI r1.2.2), (8, aI r3), (31, aB (r3 != (0 : Int)))]) (L' := []) (obs := []) (by kernel_rfl) (by kernel_rfl) (by kernel_rfl) allP0 ?_
  refine seqQ_norm ?_
  refine W_cond (o := .tmp 31) (b := r3 != (0 : Int)) (by kernel_rfl) (by kernel_rfl) (fun h5 => ?_) (fun h5 => ?_)
  · replace h := ofT h5 h
    refine W_seq (by kernel_rfl) ?_
    refine W_run 13 [] [4] [] (fr' := [(4, aB (((r1.2.2 == r3) && (r1.1 == (0 : Int))) && ((List.length r1.2.1 : Int) == (0 : Int))))]) (L' := []) (obs := []) (by kernel_rfl) (by kernel_rfl) (by kernel_rfl) allP0 ?_
    refine seqQ_norm ?_
    obtain rfl := Option.some.inj h
    refine W_ret [4] [] (fr' := [(4, aB (((r1.2.2 == r3) && (r1.1 == (0 : Int))) && ((List.length r1.2.1 : Int) == (0 : Int))))]) (L' := []) (by kernel_rfl) (by kernel_rfl) ?_
    refine seqQ_ret ?_
    exact retQ_mk (by kernel_rfl) (by kernel_rfl) (by kernel_rfl)
  · replace h := ofF h5 h
    refine W_skip [1, 5, 6, 7] [] (fr' := [(1, aD (.slice (.pair (.slice tI) (.slice tI))) a1), (5, aI r1.1), (6, aD (.slice (.arr 2 tI)) r1.2.1), (7, aI r1.2.2)]) (L' := []) (by kernel_rfl) (by kernel_rfl) ?_
    refine seqQ_norm ?_
    refine W_seq (by kernel_rfl) ?_
    refine W_run 1 [] [1, 5, 6, 7, 9] [] (fr' := [(1, aD (.slice (.pair (.slice tI) (.slice tI))) a1), (5, aI r1.1), (6, aD (.slice (.arr 2 tI)) r1.2.1), (7, aI r1.2.2), (9, .one (.nilS))]) (L' := []) (obs := []) (by kernel_rfl) (by kernel_rfl) (by kernel_rfl) allP0 ?_
    refine seqQ_norm ?_
    refine W_seq (by kernel_rfl) ?_
    refine W_run 1 [] [1, 5, 6, 7, 9, 10] [] (fr' := [(1, aD (.slice (.pair (.slice tI) (.slice tI))) a1), (5, aI r1.1), (6, aD (.slice (.arr 2 tI)) r1.2.1), (7, aI r1.2.2), (9, .one (.nilS)), (10, .one (.nilS))]) (L' := []) (obs := []) (by kernel_rfl) (by kernel_rfl) (by kernel_rfl) allP0 ?_
    refine seqQ_norm ?_
    refine W_seq (by kernel_rfl) ?_
    refine W_seq (by kernel_rfl) ?_
    refine W_run 3 [] [5, 6, 7, 9, 10, 44, 45, 46] [] (fr' := [(5, aI r1.1), (6, aD (.slice (.arr 2 tI)) r1.2.1), (7, aI r1.2.2), (9, .one (.nilS)), (10, .one (.nilS)), (44, aD (.slice (.pair (.slice tI) (.slice tI))) a1), (45, aI (List.length a1 : Int)), (46, aI (0 : Int))]) (L' := []) (obs := []) (by kernel_rfl) (by kernel_rfl) (by kernel_rfl) allP0 ?_
    refine seqQ_norm ?_
    refine W_block (id := 0) (by kernel_rfl) ?_
    obtain ⟨v175, h176, h⟩ := bind_of h
    refine W_len (t := 44) (u := (.pair (.slice tI) (.slice tI))) (xs := a1) (by kernel_rfl) (fun h179 => ?_)
    obtain ⟨h177, h178⟩ := forL_iter h179 h176
    refine W_mine 9 61 tI (by kernel_rfl) ?_
    refine W_mine 10 66 tI (by kernel_rfl) ?_
    refine W_weaken [5, 6, 7, 9, 10, 44, 45, 46] [61, 66] (fr' := ((law_HardDots_s20 a1 r1) ((0 : Int), ([], []))).1) (L' := ((law_HardDots_s20 a1 r1) ((0 : Int), ([], []))).2) (by kernel_rfl) ?_
    refine W_cutK (W_loop (S := (law_HardDots_s20 a1 r1)) (J := (exQ (.exit 0) (law_HardDots_s21 r1))) (by kernel_rfl) ?_ h177 _ v175 h178) ?_
    · rintro ⟨i116, x117⟩ s h
      refine W_seq (by kernel_rfl) ?_
      refine W_run 1 [] [5, 6, 7, 9, 10, 44, 45, 46, 47] [61, 66] (fr' := [(5, aI r1.1), (6, aD (.slice (.arr 2 tI)) r1.2.1), (7, aI r1.2.2), (9, .one (.slc 61)), (10, .one (.slc 66)), (44, aD (.slice (.pair (.slice tI) (.slice tI))) a1), (45, aI (List.length a1 : Int)), (46, aI i116), (47, aB (decide (i116 < (List.length a1 : Int))))]) (L' := [(61, .seq tI x117.1), (66, .seq tI x117.2)]) (obs := []) (by kernel_rfl) (by kernel_rfl) (by kernel_rfl) allP0 ?_
      refine seqQ_norm ?_
      refine W_seq (by kernel_rfl) ?_
      refine W_cond (o := .tmp 47) (b := decide (i116 < (List.length a1 : Int))) (by kernel_rfl) (by kernel_rfl) (fun h121 => ?_) (fun h121 => ?_)
      · replace h := stepL_true h121 h
        obtain ⟨v119, _, h120, h, rfl⟩ := h
        refine W_skip [5, 6, 7, 9, 10, 44, 45, 46] [61, 66] (fr' := [(5, aI r1.1), (6, aD (.slice (.arr 2 tI)) r1.2.1), (7, aI r1.2.2), (9, .one (.slc 61)), (10, .one (.slc 66)), (44, aD (.slice (.pair (.slice tI) (.slice tI))) a1), (45, aI (List.length a1 : Int)), (46, aI i116)]) (L' := [(61, .seq tI x117.1), (66, .seq tI x117.2)]) (by kernel_rfl) (by kernel_rfl) ?_
        refine seqQ_norm ?_
        refine W_seq (by kernel_rfl) ?_
        refine W_block (id := 1) (by kernel_rfl) ?_
        refine W_seq (by kernel_rfl) ?_
        refine W_run 6 [(3, .val (.dat (.pair (.slice tI) (.slice tI)) v119)), (7, .typed)] [5, 6, 7, 9, 10, 11, 12, 44, 45, 46] [61, 66, 12] (fr' := [(5, aI r1.1), (6, aD (.slice (.arr 2 tI)) r1.2.1), (7, aI r1.2.2), (9, .one (.slc 61)), (10, .one (.slc 66)), (11, aI i116), (12, .one (.ptr 12 0)), (44, aD (.slice (.pair (.slice tI) (.slice tI))) a1), (45, aI (List.length a1 : Int)), (46, aI i116)]) (L' := [(61, .seq tI x117.1), (66, .seq tI x117.2), (12, .one (.pair (.slice tI) (.slice tI)) v119)]) (obs := [Idx a1 i116 v119, True]) (by kernel_rfl) (by kernel_rfl) (by kernel_rfl) (allP2 (Idx.of h120) (allP1 trivial)) ?_
        refine seqQ_norm ?_
        refine W_seq (by kernel_rfl) ?_
        refine W_seq (by kernel_rfl) ?_
        refine W_run 4 [] [5, 6, 7, 9, 10, 11, 12, 44, 45, 46, 52, 53, 54] [61, 66, 12] (fr' := [(5, aI r1.1), (6, aD (.slice (.arr 2 tI)) r1.2.1), (7, aI r1.2.2), (9, .one (.slc 61)), (10, .one (.slc 66)), (11, aI i116), (12, .one (.ptr 12 0)), (44, aD (.slice (.pair (.slice tI) (.slice tI))) a1), (45, aI (List.length a1 : Int)), (46, aI i116), (52, aD (.slice tI) v119.1), (53, aI (List.length v119.1 : Int)), (54, aI (0 : Int))]) (L' := [(61, .seq tI x117.1), (66, .seq tI x117.2), (12, .one (.pair (.slice tI) (.slice tI)) v119)]) (obs := []) (by kernel_rfl) (by kernel_rfl) (by kernel_rfl) allP0 ?_
        refine seqQ_norm ?_
        refine W_block (id := 2) (by kernel_rfl) ?_
        obtain ⟨v143, h144, h⟩ := bind_of h
        refine W_len (t := 52) (u := tI) (xs := v119.1) (by kernel_rfl) (fun h147 => ?_)
        obtain ⟨h145, h146⟩ := forL_iter h147 h144
        refine W_weaken [5, 6, 7, 9, 10, 11, 12, 44, 45, 46, 52, 53, 54] [61, 66, 12] (fr' := ((law_HardDots_s14 a1 r1 i116 v119) ((0 : Int), (x117.1, x117.2))).1) (L' := ((law_HardDots_s14 a1 r1 i116 v119) ((0 : Int), (x117.1, x117.2))).2) (by kernel_rfl) ?_
        refine W_cutK (W_loop (S := (law_HardDots_s14 a1 r1 i116 v119)) (J := (exQ (.exit 2) (law_HardDots_s15 a1 r1 i116 v119))) (by kernel_rfl) ?_ h145 _ v143 h146) ?_
        · rintro ⟨i134, x135⟩ s h
          refine W_seq (by kernel_rfl) ?_
          refine W_run 1 [] [5, 6, 7, 9, 10, 11, 12, 44, 45, 46, 52, 53, 54, 55] [61, 66, 12] (fr' := [(5, aI r1.1), (6, aD (.slice (.arr 2 tI)) r1.2.1), (7, aI r1.2.2), (9, .one (.slc 61)), (10, .one (.slc 66)), (11, aI i116), (12, .one (.ptr 12 0)), (44, aD (.slice (.pair (.slice tI) (.slice tI))) a1), (45, aI (List.length a1 : Int)), (46, aI i116), (52, aD (.slice tI) v119.1), (53, aI (List.length v119.1 : Int)), (54, aI i134), (55, aB (decide (i134 < (List.length v119.1 : Int))))]) (L' := [(61, .seq tI x135.1), (66, .seq tI x135.2), (12, .one (.pair (.slice tI) (.slice tI)) v119)]) (obs := []) (by kernel_rfl) (by kernel_rfl) (by kernel_rfl) allP0 ?_
          refine seqQ_norm ?_
          refine W_seq (by kernel_rfl) ?_
          refine W_cond (o := .tmp 55) (b := decide (i134 < (List.length v119.1 : Int))) (by kernel_rfl) (by kernel_rfl) (fun h139 => ?_) (fun h139 => ?_)
          · replace h := stepL_true h139 h
            obtain ⟨v137, _, h138, h, rfl⟩ := h
            refine W_skip [5, 6, 7, 9, 10, 11, 12, 44, 45, 46, 52, 53, 54] [61, 66, 12] (fr' := [(5, aI r1.1), (6, aD (.slice (.arr 2 tI)) r1.2.1), (7, aI r1.2.2), (9, .one (.slc 61)), (10, .one (.slc 66)), (11, aI i116), (12, .one (.ptr 12 0)), (44, aD (.slice (.pair (.slice tI) (.slice tI))) a1), (45, aI (List.length a1 : Int)), (46, aI i116), (52, aD (.slice tI) v119.1), (53, aI (List.length v119.1 : Int)), (54, aI i134)]) (L' := [(61, .seq tI x135.1), (66, .seq tI x135.2), (12, .one (.pair (.slice tI) (.slice tI)) v119)]) (by kernel_rfl) (by kernel_rfl) ?_
            refine seqQ_norm ?_
            refine W_seq (by kernel_rfl) ?_
            refine W_block (id := 3) (by kernel_rfl) ?_
            refine W_seq (by kernel_rfl) ?_
            refine W_run 3 [(1, .val (.dat tI v137))] [5, 6, 7, 9, 10, 11, 12, 14, 44, 45, 46, 52, 53, 54] [61, 66, 12] (fr' := [(5, aI r1.1), (6, aD (.slice (.arr 2 tI)) r1.2.1), (7, aI r1.2.2), (9, .one (.slc 61)), (10, .one (.slc 66)), (11, aI i116), (12, .one (.ptr 12 0)), (14, aI v137), (44, aD (.slice (.pair (.slice tI) (.slice tI))) a1), (45, aI (List.length a1 : Int)), (46, aI i116), (52, aD (.slice tI) v119.1), (53, aI (List.length v119.1 : Int)), (54, aI i134)]) (L' := [(61, .seq tI x135.1), (66, .seq tI x135.2), (12, .one (.pair (.slice tI) (.slice tI)) v119)]) (obs := [Idx v119.1 i134 v137]) (by kernel_rfl) (by kernel_rfl) (by kernel_rfl) (allP1 (Idx.of h138)) ?_
            refine seqQ_norm ?_
            refine W_seq (by kernel_rfl) ?_
            obtain ⟨_, h140, h⟩ := bind_of h
            replace h140 := ck_some h140
            refine W_run 5 [] [5, 6, 7, 9, 10, 11, 12, 14, 44, 45, 46, 52, 53, 54] [61, 66, 12] (fr' := [(5, aI r1.1), (6, aD (.slice (.arr 2 tI)) r1.2.1), (7, aI r1.2.2), (9, .one (.slc 61)), (10, .one (.slc 66)), (11, aI i116), (12, .one (.ptr 12 0)), (14, aI v137), (44, aD (.slice (.pair (.slice tI) (.slice tI))) a1), (45, aI (List.length a1 : Int)), (46, aI i116), (52, aD (.slice tI) v119.1), (53, aI (List.length v119.1 : Int)), (54, aI i134)]) (L' := [(61, .seq tI (x135.1 ++ [i116])), (66, .seq tI x135.2), (12, .one (.pair (.slice tI) (.slice tI)) v119)]) (obs := [SmallLen (List.length x135.1 + List.length [i116])]) (by kernel_rfl) (by kernel_rfl) (by kernel_rfl) (allP1 h140) ?_
            refine seqQ_norm ?_
            obtain ⟨_, h141, h⟩ := bind_of h
            replace h141 := ck_some h141
            refine W_run 6 [] [5, 6, 7, 9, 10, 11, 12, 44, 45, 46, 52, 53, 54] [61, 66, 12] (fr' := [(5, aI r1.1), (6, aD (.slice (.arr 2 tI)) r1.2.1), (7, aI r1.2.2), (9, .one (.slc 61)), (10, .one (.slc 66)), (11, aI i116), (12, .one (.ptr 12 0)), (44, aD (.slice (.pair (.slice tI) (.slice tI))) a1), (45, aI (List.length a1 : Int)), (46, aI i116), (52, aD (.slice tI) v119.1), (53, aI (List.length v119.1 : Int)), (54, aI i134)]) (L' := [(61, .seq tI (x135.1 ++ [i116])), (66, .seq tI (x135.2 ++ [w64 (v137 + (1 : Int))])), (12, .one (.pair (.slice tI) (.slice tI)) v119)]) (obs := [SmallLen (List.length x135.2 + List.length [w64 (v137 + (1 : Int))])]) (by kernel_rfl) (by kernel_rfl) (by kernel_rfl) (allP1 h141) ?_
            refine blockQ_norm ?_
            refine seqQ_norm ?_
            obtain rfl := Option.some.inj h
            refine W_run 2 [] [5, 6, 7, 9, 10, 11, 12, 44, 45, 46, 52, 53, 54] [61, 66, 12] (fr' := [(5, aI r1.1), (6, aD (.slice (.arr 2 tI)) r1.2.1), (7, aI r1.2.2), (9, .one (.slc 61)), (10, .one (.slc 66)), (11, aI i116), (12, .one (.ptr 12 0)), (44, aD (.slice (.pair (.slice tI) (.slice tI))) a1), (45, aI (List.length a1 : Int)), (46, aI i116), (52, aD (.slice tI) v119.1), (53, aI (List.length v119.1 : Int)), (54, aI (w64 (i134 + (1 : Int))))]) (L' := [(61, .seq tI (x135.1 ++ [i116])), (66, .seq tI (x135.2 ++ [w64 (v137 + (1 : Int))])), (12, .one (.pair (.slice tI) (.slice tI)) v119)]) (obs := []) (by kernel_rfl) (by kernel_rfl) (by kernel_rfl) allP0 ?_
            exact round_next' (by kernel_rfl) (by kernel_rfl)
          · obtain rfl := stepL_false h139 h
            refine W_exit (id := 2) [5, 6, 7, 9, 10, 11, 12, 44, 45, 46] [61, 66, 12] (fr' := [(5, aI r1.1), (6, aD (.slice (.arr 2 tI)) r1.2.1), (7, aI r1.2.2), (9, .one (.slc 61)), (10, .one (.slc 66)), (11, aI i116), (12, .one (.ptr 12 0)), (44, aD (.slice (.pair (.slice tI) (.slice tI))) a1), (45, aI (List.length a1 : Int)), (46, aI i116)]) (L' := [(61, .seq tI x135.1), (66, .seq tI x135.2), (12, .one (.pair (.slice tI) (.slice tI)) v119)]) (by kernel_rfl) (by kernel_rfl) ?_
            refine seqQ_exit ?_
            refine round_exit ?_
            exact exQ_mk (by kernel_rfl) (by kernel_rfl)
        · intro e fr L hJ
          obtain ⟨rfl, rfl, rfl⟩ := hJ
          refine LT_keep [5, 6, 7, 9, 10, 11, 12, 44, 45, 46] [61, 66, 12] (fr' := [(5, aI r1.1), (6, aD (.slice (.arr 2 tI)) r1.2.1), (7, aI r1.2.2), (9, .one (.slc 61)), (10, .one (.slc 66)), (11, aI i116), (12, .one (.ptr 12 0)), (44, aD (.slice (.pair (.slice tI) (.slice tI))) a1), (45, aI (List.length a1 : Int)), (46, aI i116)]) (L' := [(61, .seq tI v143.1), (66, .seq tI v143.2), (12, .one (.pair (.slice tI) (.slice tI)) v119)]) (by kernel_rfl) ?_
          refine blockQ_hit ?_
          refine seqQ_norm ?_
          refine W_seq (by kernel_rfl) ?_
          refine W_run 4 [] [5, 6, 7, 9, 10, 11, 44, 45, 46, 69, 70, 71] [61, 66] (fr' := [(5, aI r1.1), (6, aD (.slice (.arr 2 tI)) r1.2.1), (7, aI r1.2.2), (9, .one (.slc 61)), (10, .one (.slc 66)), (11, aI i116), (44, aD (.slice (.pair (.slice tI) (.slice tI))) a1), (45, aI (List.length a1 : Int)), (46, aI i116), (69, aD (.slice tI) v119.2), (70, aI (List.length v119.2 : Int)), (71, aI (0 : Int))]) (L' := [(61, .seq tI v143.1), (66, .seq tI v143.2)]) (obs := []) (by kernel_rfl) (by kernel_rfl) (by kernel_rfl) allP0 ?_
          refine seqQ_norm ?_
          refine W_block (id := 4) (by kernel_rfl) ?_
          obtain ⟨v169, h170, h⟩ := bind_of h
          refine W_len (t := 69) (u := tI) (xs := v119.2) (by kernel_rfl) (fun h173 => ?_)
          obtain ⟨h171, h172⟩ := forL_iter h173 h170
          refine W_weaken [5, 6, 7, 9, 10, 11, 44, 45, 46, 69, 70, 71] [61, 66] (fr' := ((law_HardDots_s17 a1 r1 i116 v119) ((0 : Int), (v143.1, v143.2))).1) (L' := ((law_HardDots_s17 a1 r1 i116 v119) ((0 : Int), (v143.1, v143.2))).2) (by kernel_rfl) ?_
          refine W_cutK (W_loop (S := (law_HardDots_s17 a1 r1 i116 v119)) (J := (exQ (.exit 4) (law_HardDots_s18 a1 r1 i116))) (by kernel_rfl) ?_ h171 _ v169 h172) ?_
          · rintro ⟨i160, x161⟩ s h
            refine W_seq (by kernel_rfl) ?_
            refine W_run 1 [] [5, 6, 7, 9, 10, 11, 44, 45, 46, 69, 70, 71, 72] [61, 66] (fr' := [(5, aI r1.1), (6, aD (.slice (.arr 2 tI)) r1.2.1), (7, aI r1.2.2), (9, .one (.slc 61)), (10, .one (.slc 66)), (11, aI i116), (44, aD (.slice (.pair (.slice tI) (.slice tI))) a1), (45, aI (List.length a1 : Int)), (46, aI i116), (69, aD (.slice tI) v119.2), (70, aI (List.length v119.2 : Int)), (71, aI i160), (72, aB (decide (i160 < (List.length v119.2 : Int))))]) (L' := [(61, .seq tI x161.1), (66, .seq tI x161.2)]) (obs := []) (by kernel_rfl) (by kernel_rfl) (by kernel_rfl) allP0 ?_
            refine seqQ_norm ?_
            refine W_seq (by kernel_rfl) ?_
            refine W_cond (o := .tmp 72) (b := decide (i160 < (List.length v119.2 : Int))) (by kernel_rfl) (by kernel_rfl) (fun h165 => ?_) (fun h165 => ?_)
            · replace h := stepL_true h165 h
              obtain ⟨v163, _, h164, h, rfl⟩ := h
              refine W_skip [5, 6, 7, 9, 10, 11, 44, 45, 46, 69, 70, 71] [61, 66] (fr' := [(5, aI r1.1), (6, aD (.slice (.arr 2 tI)) r1.2.1), (7, aI r1.2.2), (9, .one (.slc 61)), (10, .one (.slc 66)), (11, aI i116), (44, aD (.slice (.pair (.slice tI) (.slice tI))) a1), (45, aI (List.length a1 : Int)), (46, aI i116), (69, aD (.slice tI) v119.2), (70, aI (List.length v119.2 : Int)), (71, aI i160)]) (L' := [(61, .seq tI x161.1), (66, .seq tI x161.2)]) (by kernel_rfl) (by kernel_rfl) ?_
              refine seqQ_norm ?_
              refine W_seq (by kernel_rfl) ?_
              refine W_block (id := 5) (by kernel_rfl) ?_
              refine W_seq (by kernel_rfl) ?_
              refine W_run 3 [(1, .val (.dat tI v163))] [5, 6, 7, 9, 10, 11, 16, 44, 45, 46, 69, 70, 71] [61, 66] (fr' := [(5, aI r1.1), (6, aD (.slice (.arr 2 tI)) r1.2.1), (7, aI r1.2.2), (9, .one (.slc 61)), (10, .one (.slc 66)), (11, aI i116), (16, aI v163), (44, aD (.slice (.pair (.slice tI) (.slice tI))) a1), (45, aI (List.length a1 : Int)), (46, aI i116), (69, aD (.slice tI) v119.2), (70, aI (List.length v119.2 : Int)), (71, aI i160)]) (L' := [(61, .seq tI x161.1), (66, .seq tI x161.2)]) (obs := [Idx v119.2 i160 v163]) (by kernel_rfl) (by kernel_rfl) (by kernel_rfl) (allP1 (Idx.of h164)) ?_
              refine seqQ_norm ?_
              refine W_seq (by kernel_rfl) ?_
              obtain ⟨_, h166, h⟩ := bind_of h
              replace h166 := ck_some h166
              refine W_run 5 [] [5, 6, 7, 9, 10, 11, 16, 44, 45, 46, 69, 70, 71] [61, 66] (fr' := [(5, aI r1.1), (6, aD (.slice (.arr 2 tI)) r1.2.1), (7, aI r1.2.2), (9, .one (.slc 61)), (10, .one (.slc 66)), (11, aI i116), (16, aI v163), (44, aD (.slice (.pair (.slice tI) (.slice tI))) a1), (45, aI (List.length a1 : Int)), (46, aI i116), (69, aD (.slice tI) v119.2), (70, aI (List.length v119.2 : Int)), (71, aI i160)]) (L' := [(61, .seq tI (x161.1 ++ [i116])), (66, .seq tI x161.2)]) (obs := [SmallLen (List.length x161.1 + List.length [i116])]) (by kernel_rfl) (by kernel_rfl) (by kernel_rfl) (allP1 h166) ?_
              refine seqQ_norm ?_
              obtain ⟨_, h167, h⟩ := bind_of h
              replace h167 := ck_some h167
              refine W_run 6 [] [5, 6, 7, 9, 10, 11, 44, 45, 46, 69, 70, 71] [61, 66] (fr' := [(5, aI r1.1), (6, aD (.slice (.arr 2 tI)) r1.2.1), (7, aI r1.2.2), (9, .one (.slc 61)), (10, .one (.slc 66)), (11, aI i116), (44, aD (.slice (.pair (.slice tI) (.slice tI))) a1), (45, aI (List.length a1 : Int)), (46, aI i116), (69, aD (.slice tI) v119.2), (70, aI (List.length v119.2 : Int)), (71, aI i160)]) (L' := [(61, .seq tI (x161.1 ++ [i116])), (66, .seq tI (x161.2 ++ [w64 ((-1 : Int) - v163)]))]) (obs := [SmallLen (List.length x161.2 + List.length [w64 ((-1 : Int) - v163)])]) (by kernel_rfl) (by kernel_rfl) (by kernel_rfl) (allP1 h167) ?_
              refine blockQ_norm ?_
              refine seqQ_norm ?_
              obtain rfl := Option.some.inj h
              refine W_run 2 [] [5, 6, 7, 9, 10, 11, 44, 45, 46, 69, 70, 71] [61, 66] (fr' := [(5, aI r1.1), (6, aD (.slice (.arr 2 tI)) r1.2.1), (7, aI r1.2.2), (9, .one (.slc 61)), (10, .one (.slc 66)), (11, aI i116), (44, aD (.slice (.pair (.slice tI) (.slice tI))) a1), (45, aI (List.length a1 : Int)), (46, aI i116), (69, aD (.slice tI) v119.2), (70, aI (List.length v119.2 : Int)), (71, aI (w64 (i160 + (1 : Int))))]) (L' := [(61, .seq tI (x161.1 ++ [i116])), (66, .seq tI (x161.2 ++ [w64 ((-1 : Int) - v163)]))]) (obs := []) (by kernel_rfl) (by kernel_rfl) (by kernel_rfl) allP0 ?_
              exact round_next' (by kernel_rfl) (by kernel_rfl)
            · obtain rfl := stepL_false h165 h
              refine W_exit (id := 4) [5, 6, 7, 9, 10, 44, 45, 46] [61, 66] (fr' := [(5, aI r1.1), (6, aD (.slice (.arr 2 tI)) r1.2.1), (7, aI r1.2.2), (9, .one (.slc 61)), (10, .one (.slc 66)), (44, aD (.slice (.pair (.slice tI) (.slice tI))) a1), (45, aI (List.length a1 : Int)), (46, aI i116)]) (L' := [(61, .seq tI x161.1), (66, .seq tI x161.2)]) (by kernel_rfl) (by kernel_rfl) ?_
              refine seqQ_exit ?_
              refine round_exit ?_
              exact exQ_mk (by kernel_rfl) (by kernel_rfl)
          · intro e fr L hJ
            obtain ⟨rfl, rfl, rfl⟩ := hJ
            refine LT_keep [5, 6, 7, 9, 10, 44, 45, 46] [61, 66] (fr' := [(5, aI r1.1), (6, aD (.slice (.arr 2 tI)) r1.2.1), (7, aI r1.2.2), (9, .one (.slc 61)), (10, .one (.slc 66)), (44, aD (.slice (.pair (.slice tI) (.slice tI))) a1), (45, aI (List.length a1 : Int)), (46, aI i116)]) (L' := [(61, .seq tI v169.1), (66, .seq tI v169.2)]) (by kernel_rfl) ?_
            refine blockQ_hit ?_
            refine blockQ_norm ?_
            refine seqQ_norm ?_
            obtain rfl := Option.some.inj h
            refine W_run 2 [] [5, 6, 7, 9, 10, 44, 45, 46] [61, 66] (fr' := [(5, aI r1.1), (6, aD (.slice (.arr 2 tI)) r1.2.1), (7, aI r1.2.2), (9, .one (.slc 61)), (10, .one (.slc 66)), (44, aD (.slice (.pair (.slice tI) (.slice tI))) a1), (45, aI (List.length a1 : Int)), (46, aI (w64 (i116 + (1 : Int))))]) (L' := [(61, .seq tI v169.1), (66, .seq tI v169.2)]) (obs := []) (by kernel_rfl) (by kernel_rfl) (by kernel_rfl) allP0 ?_
            exact round_next' (by kernel_rfl) (by kernel_rfl)
      · obtain rfl := stepL_false h121 h
        refine W_exit (id := 0) [5, 6, 7, 9, 10] [61, 66] (fr' := [(5, aI r1.1), (6, aD (.slice (.arr 2 tI)) r1.2.1), (7, aI r1.2.2), (9, .one (.slc 61)), (10, .one (.slc 66))]) (L' := [(61, .seq tI x117.1), (66, .seq tI x117.2)]) (by kernel_rfl) (by kernel_rfl) ?_
        refine seqQ_exit ?_
        refine round_exit ?_
        exact exQ_mk (by kernel_rfl) (by kernel_rfl)
    · intro e fr L hJ
      obtain ⟨rfl, rfl, rfl⟩ := hJ
      refine LT_keep [5, 6, 7, 9, 10] [61, 66] (fr' := [(5, aI r1.1), (6, aD (.slice (.arr 2 tI)) r1.2.1), (7, aI r1.2.2), (9, .one (.slc 61)), (10, .one (.slc 66))]) (L' := [(61, .seq tI v175.1), (66, .seq tI v175.2)]) (by kernel_rfl) ?_
      refine blockQ_hit ?_
      refine seqQ_norm ?_
      refine W_seq (by kernel_rfl) ?_
      refine W_run 1 [] [5, 6, 7, 9, 10, 17] [61, 66] (fr' := [(5, aI r1.1), (6, aD (.slice (.arr 2 tI)) r1.2.1), (7, aI r1.2.2), (9, .one (.slc 61)), (10, .one (.slc 66)), (17, .one (.nilS))]) (L' := [(61, .seq tI v175.1), (66, .seq tI v175.2)]) (obs := []) (by kernel_rfl) (by kernel_rfl) (by kernel_rfl) allP0 ?_
      refine seqQ_norm ?_
      refine W_seq (by kernel_rfl) ?_
      refine W_seq (by kernel_rfl) ?_
      refine W_run 1 [] [5, 6, 7, 9, 10, 17, 18] [61, 66] (fr' := [(5, aI r1.1), (6, aD (.slice (.arr 2 tI)) r1.2.1), (7, aI r1.2.2), (9, .one (.slc 61)), (10, .one (.slc 66)), (17, .one (.nilS)), (18, aI (0 : Int))]) (L' := [(61, .seq tI v175.1), (66, .seq tI v175.2)]) (obs := []) (by kernel_rfl) (by kernel_rfl) (by kernel_rfl) allP0 ?_
      refine seqQ_norm ?_
      refine W_block (id := 6) (by kernel_rfl) ?_
      obtain ⟨v1028, h1029, h⟩ := bind_of h
      refine W_lenS (s := 61) (u := tI) (xs := v175.1) (by kernel_rfl) (fun h1032 => ?_)
      obtain ⟨h1030, h1031⟩ := forL_iter h1032 h1029
      refine W_mine 17 126 (.arr 2 tI) (by kernel_rfl) ?_
      refine W_weaken [5, 6, 7, 9, 10, 17, 18] [61, 66, 126] (fr' := ((law_HardDots_s103 r1 v175) ((0 : Int), [])).1) (L' := ((law_HardDots_s103 r1 v175) ((0 : Int), [])).2) (by kernel_rfl) ?_
      refine W_cutK (W_loop (S := (law_HardDots_s103 r1 v175)) (J := (exQ (.exit 6) (law_HardDots_s104 r1 v175))) (by kernel_rfl) ?_ h1030 _ v1028 h1031) ?_
      · rintro ⟨i777, x778⟩ s h
        refine W_seq (by kernel_rfl) ?_
        refine W_seq (by kernel_rfl) ?_
        refine W_run 4 [] [5, 6, 7, 9, 10, 17, 18, 89] [61, 66, 126] (fr' := [(5, aI r1.1), (6, aD (.slice (.arr 2 tI)) r1.2.1), (7, aI r1.2.2), (9, .one (.slc 61)), (10, .one (.slc 66)), (17, .one (.slc 126)), (18, aI i777), (89, aB (decide (i777 < (List.length v175.1 : Int))))]) (L' := [(61, .seq tI v175.1), (66, .seq tI v175.2), (126, .seq (.arr 2 tI) x778)]) (obs := []) (by kernel_rfl) (by kernel_rfl) (by kernel_rfl) allP0 ?_
        refine seqQ_norm ?_
        refine W_cond (o := .tmp 89) (b := decide (i777 < (List.length v175.1 : Int))) (by kernel_rfl) (by kernel_rfl) (fun h782 => ?_) (fun h782 => ?_)
        · replace h := stepL_true h782 h
          obtain ⟨v780, _, h781, h, rfl⟩ := h
          refine W_skip [5, 6, 7, 9, 10, 17, 18] [61, 66, 126] (fr' := [(5, aI r1.1), (6, aD (.slice (.arr 2 tI)) r1.2.1), (7, aI r1.2.2), (9, .one (.slc 61)), (10, .one (.slc 66)), (17, .one (.slc 126)), (18, aI i777)]) (L' := [(61, .seq tI v175.1), (66, .seq tI v175.2), (126, .seq (.arr 2 tI) x778)]) (by kernel_rfl) (by kernel_rfl) ?_
          refine seqQ_norm ?_
          refine W_seq (by kernel_rfl) ?_
          refine W_block (id := 7) (by kernel_rfl) ?_
          refine W_seq (by kernel_rfl) ?_
          refine W_run 3 [] [5, 6, 7, 9, 10, 17, 18, 19] [61, 66, 126] (fr' := [(5, aI r1.1), (6, aD (.slice (.arr 2 tI)) r1.2.1), (7, aI r1.2.2), (9, .one (.slc 61)), (10, .one (.slc 66)), (17, .one (.slc 126)), (18, aI i777), (19, aI (w64 (i777 + (1 : Int))))]) (L' := [(61, .seq tI v175.1), (66, .seq tI v175.2), (126, .seq (.arr 2 tI) x778)]) (obs := []) (by kernel_rfl) (by kernel_rfl) (by kernel_rfl) allP0 ?_
          refine seqQ_norm ?_
          refine W_block (id := 8) (by kernel_rfl) ?_
          obtain ⟨v1023, h1024, h⟩ := bind_of h
          obtain ⟨h1025, h1026⟩ := forI_iter h1024
          refine W_weaken [5, 6, 7, 9, 10, 17, 18, 19] [61, 66, 126] (fr' := ((law_HardDots_s100 r1 v175 i777) (w64 (i777 + (1 : Int)), x778)).1) (L' := ((law_HardDots_s100 r1 v175 i777) (w64 (i777 + (1 : Int)), x778)).2) (by kernel_rfl) ?_
          refine W_cutK (W_loop (S := (law_HardDots_s100 r1 v175 i777)) (J := (exQ (.exit 8) (law_HardDots_s101 r1 v175 i777))) (by kernel_rfl) ?_ h1025 _ v1023 h1026) ?_
          · rintro ⟨i941, x942⟩ s h
            refine W_seq (by kernel_rfl) ?_
            refine W_seq (by kernel_rfl) ?_
            refine W_run 4 [] [5, 6, 7, 9, 10, 17, 18, 19, 97] [61, 66, 126] (fr' := [(5, aI r1.1), (6, aD (.slice (.arr 2 tI)) r1.2.1), (7, aI r1.2.2), (9, .one (.slc 61)), (10, .one (.slc 66)), (17, .one (.slc 126)), (18, aI i777), (19, aI i941), (97, aB (decide (i941 < (List.length v175.1 : Int))))]) (L' := [(61, .seq tI v175.1), (66, .seq tI v175.2), (126, .seq (.arr 2 tI) x942)]) (obs := []) (by kernel_rfl) (by kernel_rfl) (by kernel_rfl) allP0 ?_
            refine seqQ_norm ?_
            refine W_cond (o := .tmp 97) (b := decide (i941 < (List.length v175.1 : Int))) (by kernel_rfl) (by kernel_rfl) (fun h944 => ?_) (fun h944 => ?_)
            · replace h := stepI_true h944 h
              obtain ⟨_, h, rfl⟩ := h
              refine W_skip [5, 6, 7, 9, 10, 17, 18, 19] [61, 66, 126] (fr' := [(5, aI r1.1), (6, aD (.slice (.arr 2 tI)) r1.2.1), (7, aI r1.2.2), (9, .one (.slc 61)), (10, .one (.slc 66)), (17, .one (.slc 126)), (18, aI i777), (19, aI i941)]) (L' := [(61, .seq tI v175.1), (66, .seq tI v175.2), (126, .seq (.arr 2 tI) x942)]) (by kernel_rfl) (by kernel_rfl) ?_
              refine seqQ_norm ?_
              refine W_seq (by kernel_rfl) ?_
              obtain ⟨v1020, h1021, h⟩ := bind_of h
              refine W_cutK (Q' := (exQ .normal (law_HardDots_s98 r1 v175 i777 i941)) v1020) ?_ ?_
              · replace h := h1021
                refine W_block (id := 9) (by kernel_rfl) ?_
                refine W_seq (by kernel_rfl) ?_
                obtain ⟨v1016, h1017, h⟩ := bind_of h
                refine W_cutK (Q' := (exQ .normal (law_HardDots_s96 r1 v175 i777 i941 x942)) v1016) ?_ ?_
                · replace h := h1017
                  obtain ⟨v1009, h1010, h⟩ := bind_of h
                  rcases Bool.eq_false_or_eq_true (v780 == v1009) with h1011 | h1011
                  · replace h := ofT h1011 h
                    obtain rfl := Option.some.inj h
                    refine W_draw2 21 [(7, .val (.dat tI v780)), (15, .val (.dat tI v1009)), (20, .known true), (22, .known true), (24, .known true), (26, .known true), (28, .known true), (30, .known true), (32, .known true), (34, .known true), (36, .known true), (38, .known true), (41, .val (.dat .bool true))] [] [5, 6, 7, 9, 10, 17, 18, 19, 120] [61, 66, 126] (fr' := [(5, aI r1.1), (6, aD (.slice (.arr 2 tI)) r1.2.1), (7, aI r1.2.2), (9, .one (.slc 61)), (10, .one (.slc 66)), (17, .one (.slc 126)), (18, aI i777), (19, aI i941), (120, aB true)]) (L' := [(61, .seq tI v175.1), (66, .seq tI v175.2), (126, .seq (.arr 2 tI) x942)]) (out := [(100, .one (.slc 61)), (101, aI i777), (102, .one (.eptr 61 1 i777 0)), (103, aI v780), (104, .one (.slc 61)), (105, aI i941), (106, .one (.eptr 61 1 i941 0)), (107, aI v1009), (108, aB (v780 == v1009)), (109, aB (v780 == v1009)), (110, .tup []), (111, .tup []), (112, .tup []), (113, .tup []), (114, .tup []), (115, .tup []), (116, .tup []), (117, .tup []), (118, .tup []), (119, .tup []), (120, aB true)]) (obs := [InR i777 (List.length v175.1), Idx v175.1 i777 v780, InR i941 (List.length v175.1), Idx v175.1 i941 v1009, ((v780 == v1009) = true), ((v780 == v1009) = true), ((v780 == v1009) = true), ((v780 == v1009) = true), ((v780 == v1009) = true), ((v780 == v1009) = true), ((v780 == v1009) = true), ((v780 == v1009) = true), ((v780 == v1009) = true), ((v780 == v1009) = true), ((v780 == v1009) = true)]) (obs2 := []) (calls := []) (by kernel_rfl) (by kernel_rfl) (by kernel_rfl) (by kernel_rfl) (allP2 (InR.of h781) (allP2 (Idx.of h781) (allP2 (InR.of h1010) (allP2 (Idx.of h1010) (allP2 h1011 (allP2 h1011 (allP2 h1011 (allP2 h1011 (allP2 h1011 (allP2 h1011 (allP2 h1011 (allP2 h1011 (allP2 h1011 (allP2 h1011 (allP1 h1011))))))))))))))) allC0 (by kernel_rfl) allP0 ?_
                    exact exQ_mk (by kernel_rfl) (by kernel_rfl)
                  · replace h := ofF h1011 h
                    obtain ⟨v1012, h1013, h⟩ := bind_of h
                    obtain ⟨v1014, h1015, h⟩ := bind_of h
                    obtain rfl := Option.some.inj h
                    refine W_draw2 21 [(7, .val (.dat tI v780)), (15, .val (.dat tI v1009)), (20, .known false), (22, .known false), (24, .known false), (26, .known false), (27, .val (.dat tI v1012)), (28, .known false), (30, .known false), (32, .known false), (34, .known false), (35, .val (.dat tI v1014)), (36, .known false), (38, .known false), (41, .val (.dat .bool false))] [] [5, 6, 7, 9, 10, 17, 18, 19, 120] [61, 66, 126] (fr' := [(5, aI r1.1), (6, aD (.slice (.arr 2 tI)) r1.2.1), (7, aI r1.2.2), (9, .one (.slc 61)), (10, .one (.slc 66)), (17, .one (.slc 126)), (18, aI i777), (19, aI i941), (120, aB (v1012 == (w64 (0 - v1014))))]) (L' := [(61, .seq tI v175.1), (66, .seq tI v175.2), (126, .seq (.arr 2 tI) x942)]) (out := [(100, .one (.slc 61)), (101, aI i777), (102, .one (.eptr 61 1 i777 0)), (103, aI v780), (104, .one (.slc 61)), (105, aI i941), (106, .one (.eptr 61 1 i941 0)), (107, aI v1009), (108, aB (v780 == v1009)), (109, aB (v780 == v1009)), (110, .one (.slc 66)), (111, aI i777), (112, .one (.eptr 66 1 i777 0)), (113, aI v1012), (114, .one (.slc 66)), (115, aI i941), (116, .one (.eptr 66 1 i941 0)), (117, aI v1014), (118, aI (w64 (0 - v1014))), (119, aB (v1012 == (w64 (0 - v1014)))), (120, aB (v1012 == (w64 (0 - v1014))))]) (obs := [InR i777 (List.length v175.1), Idx v175.1 i777 v780, InR i941 (List.length v175.1), Idx v175.1 i941 v1009, ((v780 == v1009) = false), ((v780 == v1009) = false), ((v780 == v1009) = false), InR i777 (List.length v175.2), ((v780 == v1009) = false), Idx v175.2 i777 v1012, ((v780 == v1009) = false), ((v780 == v1009) = false), ((v780 == v1009) = false), InR i941 (List.length v175.2), ((v780 == v1009) = false), Idx v175.2 i941 v1014, ((v780 == v1009) = false), ((v780 == v1009) = false), ((v780 == v1009) = false)]) (obs2 := []) (calls := []) (by kernel_rfl) (by kernel_rfl) (by kernel_rfl) (by kernel_rfl) (allP2 (InR.of h781) (allP2 (Idx.of h781) (allP2 (InR.of h1010) (allP2 (Idx.of h1010) (allP2 h1011 (allP2 h1011 (allP2 h1011 (allP2 (InR.of h1013) (allP2 h1011 (allP2 (Idx.of h1013) (allP2 h1011 (allP2 h1011 (allP2 h1011 (allP2 (InR.of h1015) (allP2 h1011 (allP2 (Idx.of h1015) (allP2 h1011 (allP2 h1011 (allP1 h1011))))))))))))))))))) allC0 (by kernel_rfl) allP0 ?_
                    exact exQ_mk (by kernel_rfl) (by kernel_rfl)
                · intro e fr L hJ
                  obtain ⟨rfl, rfl, rfl⟩ := hJ
                  refine LT_keep [5, 6, 7, 9, 10, 17, 18, 19, 120] [61, 66, 126] (fr' := [(5, aI r1.1), (6, aD (.slice (.arr 2 tI)) r1.2.1), (7, aI r1.2.2), (9, .one (.slc 61)), (10, .one (.slc 66)), (17, .one (.slc 126)), (18, aI i777), (19, aI i941), (120, aB v1016)]) (L' := [(61, .seq tI v175.1), (66, .seq tI v175.2), (126, .seq (.arr 2 tI) x942)]) (by kernel_rfl) ?_
                  refine seqQ_norm ?_
                  refine W_cond (o := .tmp 120) (b := v1016) (by kernel_rfl) (by kernel_rfl) (fun h1018 => ?_) (fun h1018 => ?_)
                  · replace h := ofT h1018 h
                    obtain ⟨_, h1019, h⟩ := bind_of h
                    replace h1019 := ck_some h1019
                    obtain rfl := Option.some.inj h
                    refine W_run 7 [] [5, 6, 7, 9, 10, 17, 18, 19] [61, 66, 126] (fr' := [(5, aI r1.1), (6, aD (.slice (.arr 2 tI)) r1.2.1), (7, aI r1.2.2), (9, .one (.slc 61)), (10, .one (.slc 66)), (17, .one (.slc 126)), (18, aI i777), (19, aI i941)]) (L' := [(61, .seq tI v175.1), (66, .seq tI v175.2), (126, .seq (.arr 2 tI) (x942 ++ [[i777, i941]]))]) (obs := [SmallLen (List.length x942 + List.length [[i777, i941]])]) (by kernel_rfl) (by kernel_rfl) (by kernel_rfl) (allP1 h1019) ?_
                    refine blockQ_norm ?_
                    exact exQ_mk (by kernel_rfl) (by kernel_rfl)
                  · replace h := ofF h1018 h
                    obtain rfl := Option.some.inj h
                    refine W_skip [5, 6, 7, 9, 10, 17, 18, 19] [61, 66, 126] (fr' := [(5, aI r1.1), (6, aD (.slice (.arr 2 tI)) r1.2.1), (7, aI r1.2.2), (9, .one (.slc 61)), (10, .one (.slc 66)), (17, .one (.slc 126)), (18, aI i777), (19, aI i941)]) (L' := [(61, .seq tI v175.1), (66, .seq tI v175.2), (126, .seq (.arr 2 tI) x942)]) (by kernel_rfl) (by kernel_rfl) ?_
                    refine blockQ_norm ?_
                    exact exQ_mk (by kernel_rfl) (by kernel_rfl)
              · intro e fr L hJ
                obtain ⟨rfl, rfl, rfl⟩ := hJ
                refine LT_keep [5, 6, 7, 9, 10, 17, 18, 19] [61, 66, 126] (fr' := [(5, aI r1.1), (6, aD (.slice (.arr 2 tI)) r1.2.1), (7, aI r1.2.2), (9, .one (.slc 61)), (10, .one (.slc 66)), (17, .one (.slc 126)), (18, aI i777), (19, aI i941)]) (L' := [(61, .seq tI v175.1), (66, .seq tI v175.2), (126, .seq (.arr 2 tI) v1020)]) (by kernel_rfl) ?_
                refine seqQ_norm ?_
                obtain rfl := Option.some.inj h
                refine W_run 3 [] [5, 6, 7, 9, 10, 17, 18, 19] [61, 66, 126] (fr' := [(5, aI r1.1), (6, aD (.slice (.arr 2 tI)) r1.2.1), (7, aI r1.2.2), (9, .one (.slc 61)), (10, .one (.slc 66)), (17, .one (.slc 126)), (18, aI i777), (19, aI (w64 (i941 + (1 : Int))))]) (L' := [(61, .seq tI v175.1), (66, .seq tI v175.2), (126, .seq (.arr 2 tI) v1020)]) (obs := []) (by kernel_rfl) (by kernel_rfl) (by kernel_rfl) allP0 ?_
                exact round_next' (by kernel_rfl) (by kernel_rfl)
            · obtain rfl := stepI_false h944 h
              refine W_exit (id := 8) [5, 6, 7, 9, 10, 17, 18] [61, 66, 126] (fr' := [(5, aI r1.1), (6, aD (.slice (.arr 2 tI)) r1.2.1), (7, aI r1.2.2), (9, .one (.slc 61)), (10, .one (.slc 66)), (17, .one (.slc 126)), (18, aI i777)]) (L' := [(61, .seq tI v175.1), (66, .seq tI v175.2), (126, .seq (.arr 2 tI) x942)]) (by kernel_rfl) (by kernel_rfl) ?_
              refine seqQ_exit ?_
              refine round_exit ?_
              exact exQ_mk (by kernel_rfl) (by kernel_rfl)
          · intro e fr L hJ
            obtain ⟨rfl, rfl, rfl⟩ := hJ
            refine LT_keep [5, 6, 7, 9, 10, 17, 18] [61, 66, 126] (fr' := [(5, aI r1.1), (6, aD (.slice (.arr 2 tI)) r1.2.1), (7, aI r1.2.2), (9, .one (.slc 61)), (10, .one (.slc 66)), (17, .one (.slc 126)), (18, aI i777)]) (L' := [(61, .seq tI v175.1), (66, .seq tI v175.2), (126, .seq (.arr 2 tI) v1023)]) (by kernel_rfl) ?_
            refine blockQ_hit ?_
            refine blockQ_norm ?_
            refine seqQ_norm ?_
            obtain rfl := Option.some.inj h
            refine W_run 3 [] [5, 6, 7, 9, 10, 17, 18] [61, 66, 126] (fr' := [(5, aI r1.1), (6, aD (.slice (.arr 2 tI)) r1.2.1), (7, aI r1.2.2), (9, .one (.slc 61)), (10, .one (.slc 66)), (17, .one (.slc 126)), (18, aI (w64 (i777 + (1 : Int))))]) (L' := [(61, .seq tI v175.1), (66, .seq tI v175.2), (126, .seq (.arr 2 tI) v1023)]) (obs := []) (by kernel_rfl) (by kernel_rfl) (by kernel_rfl) allP0 ?_
            exact round_next' (by kernel_rfl) (by kernel_rfl)
        · obtain rfl := stepL_false h782 h
          refine W_exit (id := 6) [5, 6, 7, 9, 17] [61, 126] (fr' := [(5, aI r1.1), (6, aD (.slice (.arr 2 tI)) r1.2.1), (7, aI r1.2.2), (9, .one (.slc 61)), (17, .one (.slc 126))]) (L' := [(61, .seq tI v175.1), (126, .seq (.arr 2 tI) x778)]) (by kernel_rfl) (by kernel_rfl) ?_
          refine seqQ_exit ?_
          refine round_exit ?_
          exact exQ_mk (by kernel_rfl) (by kernel_rfl)
      · intro e fr L hJ
        obtain ⟨rfl, rfl, rfl⟩ := hJ
        refine LT_keep [5, 6, 7, 9, 17] [61, 126] (fr' := [(5, aI r1.1), (6, aD (.slice (.arr 2 tI)) r1.2.1), (7, aI r1.2.2), (9, .one (.slc 61)), (17, .one (.slc 126))]) (L' := [(61, .seq tI v175.1), (126, .seq (.arr 2 tI) v1028)]) (by kernel_rfl) ?_
        refine blockQ_hit ?_
        refine seqQ_norm ?_
        refine W_seq (by kernel_rfl) ?_
        obtain ⟨v1042, h1043, h⟩ := bind_of h
        refine W_cutK (Q' := (exQ .normal law_HardDots_s105) v1042) ?_ ?_
        · replace h := h1043
          refine W_region (by kernel_rfl) ?_
          refine WO_run (j := 9) (k := 9) (orcs := []) (kF := [6, 17, 135]) (kL := [61, 126]) (fr' := [(6, aD (.slice (.arr 2 tI)) r1.2.1), (17, .one (.slc 126)), (135, aB ((r1.2.2 == (0 : Int)) && (r1.1 == (List.length v175.1 : Int))))]) (L' := [(61, .seq tI v175.1), (126, .seq (.arr 2 tI) v1028)]) (obs := []) rfl (by kernel_rfl) allP0 ?_
          rcases Bool.eq_false_or_eq_true ((r1.2.2 == (0 : Int)) && (r1.1 == (List.length v175.1 : Int))) with h1039 | h1039
          · replace h := ofT h1039 h
            refine WO_run (j := 11) (k := 2) (orcs := [(18, .known true), (20, .known true)]) (kF := [135, 136, 137]) (kL := [61, 126]) (fr' := [(135, aB ((r1.2.2 == (0 : Int)) && (r1.1 == (List.length v175.1 : Int)))), (136, aD (.slice (.arr 2 tI)) r1.2.1), (137, .one (.slc 126))]) (L' := [(61, .seq tI v175.1), (126, .seq (.arr 2 tI) v1028)]) (obs := [(((r1.2.2 == (0 : Int)) && (r1.1 == (List.length v175.1 : Int))) = true), (((r1.2.2 == (0 : Int)) && (r1.1 == (List.length v175.1 : Int))) = true)]) rfl (by kernel_rfl) (allP2 h1039 (allP1 h1039)) ?_
            obtain ⟨r1040, h1041, h⟩ := bind_of h
            refine WO_frz 126 (by kernel_rfl) ?_
            refine WO_call0 (us := [none, none]) (d := 138) (p := (((r1.2.2 == (0 : Int)) && (r1.1 == (List.length v175.1 : Int))) = true)) (j := 12) rfl ⟨by kernel_rfl, by kernel_rfl, by kernel_rfl⟩ h1039 (ref_Twos_ok h1041) (by kernel_rfl) ?_
            refine WO_run (j := 14) (k := 2) (orcs := [(25, .val (.dat .bool true))]) (kF := [4]) (kL := [61]) (fr' := [(4, aB r1040)]) (L' := [(61, .seq tI v175.1)]) (obs := [(((r1.2.2 == (0 : Int)) && (r1.1 == (List.length v175.1 : Int))) = true)]) rfl (by kernel_rfl) (allP1 h1039) ?_
            obtain rfl := Option.some.inj h
            refine WO_fin [4] [] (fr' := [(4, aB r1040)]) (L' := []) (by kernel_rfl) (by kernel_rfl) ?_
            exact exQ_mk (by kernel_rfl) (by kernel_rfl)
          · replace h := ofF h1039 h
            refine WO_run (j := 14) (k := 5) (orcs := [(18, .known false), (20, .known false), (22, .known false), (25, .val (.dat .bool false))]) (kF := [4]) (kL := [61, 126]) (fr' := [(4, aB false)]) (L' := [(61, .seq tI v175.1), (126, .seq (.arr 2 tI) v1028)]) (obs := [(((r1.2.2 == (0 : Int)) && (r1.1 == (List.length v175.1 : Int))) = false), (((r1.2.2 == (0 : Int)) && (r1.1 == (List.length v175.1 : Int))) = false), (((r1.2.2 == (0 : Int)) && (r1.1 == (List.length v175.1 : Int))) = false), (((r1.2.2 == (0 : Int)) && (r1.1 == (List.length v175.1 : Int))) = false)]) rfl (by kernel_rfl) (allP2 h1039 (allP2 h1039 (allP2 h1039 (allP1 h1039)))) ?_
            obtain rfl := Option.some.inj h
            refine WO_fin [4] [] (fr' := [(4, aB false)]) (L' := []) (by kernel_rfl) (by kernel_rfl) ?_
            exact exQ_mk (by kernel_rfl) (by kernel_rfl)
        · intro e fr L hJ
          obtain ⟨rfl, rfl, rfl⟩ := hJ
          refine LT_keep [4] [] (fr' := [(4, aB v1042)]) (L' := []) (by kernel_rfl) ?_
          refine seqQ_norm ?_
          obtain rfl := Option.some.inj h
          refine W_ret [4] [] (fr' := [(4, aB v1042)]) (L' := []) (by kernel_rfl) (by kernel_rfl) ?_
          exact retQ_mk (by kernel_rfl) (by kernel_rfl) (by kernel_rfl)
end Go.Proofs.Ytmmlochcobihpaa.hardDots
