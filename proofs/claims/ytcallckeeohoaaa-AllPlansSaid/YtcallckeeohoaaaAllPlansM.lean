/- What the functions that AllPlans calls compute, as models, and that they compute it: written by a program of mine. -/
import Derived.Test.YtcallckeeohoaaaProg
import Derived.Test.YtcallckeeohoaaaSl5
set_option linter.all false
set_option maxRecDepth 100000
namespace Go.Proofs.Ytcallckeeohoaaa.allPlans
open Go Go.Sl
def name_wrong_1 (a0 : Int) (c0 : Int) : Option Bool :=
some ((decide (a0 < (0 : Int))) || (decide (a0 ≥ c0)))
theorem name_wrong_1_ok {a0 : Int} {c0 : Int} {r : Bool} (h : name_wrong_1 a0 c0 = some r) : FnC Try.prog 75 [aI a0, .one (.ptr 1000 0)] [(1000, .cells [.dat tI c0])] (aB r) [(1000, .cells [.dat tI c0])] := by
  refine fnC_of_W (B := bodyOf Try.f75) (n := 11) Try.func75 (by kernel_rfl) (by kernel_rfl) (by kernel_rfl) (by kernel_rfl) (by kernel_rfl) ?_
  intro K
  refine W_seq (by kernel_rfl) ?_
  refine W_run 1 [] [0, 1] [1000] (fr' := [(0, aI a0), (1, .one (.ptr 1000 0))]) (L' := [(1000, .cells [.dat tI c0])]) (obs := []) (by kernel_rfl) (by kernel_rfl) (by kernel_rfl) allP0 ?_
  refine seqQ_norm ?_
  refine W_seq (by kernel_rfl) ?_
  refine W_run 8 [] [3] [1000] (fr' := [(3, aB ((decide (a0 < (0 : Int))) || (decide (a0 ≥ c0))))]) (L' := [(1000, .cells [.dat tI c0])]) (obs := []) (by kernel_rfl) (by kernel_rfl) (by kernel_rfl) allP0 ?_
  refine seqQ_norm ?_
  obtain rfl := Option.some.inj h
  refine W_ret [3] [1000] (fr' := [(3, aB ((decide (a0 < (0 : Int))) || (decide (a0 ≥ c0))))]) (L' := [(1000, .cells [.dat tI c0])]) (by kernel_rfl) (by kernel_rfl) ?_
  exact retQ_mk (by kernel_rfl) (by kernel_rfl) (by kernel_rfl)

def slices_IndexFunc_Lintint_with_name_wrong_1_b1 (c0 : Int) (i15 : Int) (v18 : Int) (x16 : Unit) : Option (Flow Unit (Esc Int Unit)) :=
(name_wrong_1 v18 c0).bind fun r21 =>
bif r21 then
(some (.done (.ret i15)))
else
(some (.next ()))
@[reducible] def slices_IndexFunc_Lintint_with_name_wrong_1_s2 (a0 : (List Int)) (c0 : Int) (v : Int × Unit) : Fr × LL := ([(0, aD (.slice tI) a0), (1, .one (.fn 75 [(1000, 0)])), (7, aI (List.length a0 : Int)), (8, aI v.1)], [(1000, .cells [.dat tI c0])])
@[reducible] def slices_IndexFunc_Lintint_with_name_wrong_1_s3 (c0 : Int) (v : Int) : Fr × LL := ([(4, aI v)], [(1000, .cells [.dat tI c0])])
@[reducible] def slices_IndexFunc_Lintint_with_name_wrong_1_s4 (c0 : Int) (v : Unit) : Fr × LL := ([], [(1000, .cells [.dat tI c0])])
def slices_IndexFunc_Lintint_with_name_wrong_1 (a0 : (List Int)) (c0 : Int) : Option Int :=
(forL (slices_IndexFunc_Lintint_with_name_wrong_1_b1 c0) (fun x16 => (.brk ())) a0 0 ()).bind fun v25 =>
match v25 with
| .ret v30 =>
(some v30)
| .brk v31 =>
(some (-1 : Int))
theorem slices_IndexFunc_Lintint_with_name_wrong_1_ok {a0 : (List Int)} {c0 : Int} {r : Int} (h : slices_IndexFunc_Lintint_with_name_wrong_1 a0 c0 = some r) : FnC Try.prog 69 [aD (.slice tI) a0, .one (.fn 75 [(1000, 0)])] [(1000, .cells [.dat tI c0])] (aI r) [(1000, .cells [.dat tI c0])] := by
  refine fnC_of_W (B := bodyOf Try.f69) (n := 19) Try.func69 (by kernel_rfl) (by kernel_rfl) (by kernel_rfl) (by kernel_rfl) (by kernel_rfl) ?_
  intro K
  refine W_seq (by kernel_rfl) ?_
  refine W_run 1 [] [0, 1] [1000] (fr' := [(0, aD (.slice tI) a0), (1, .one (.fn 75 [(1000, 0)]))]) (L' := [(1000, .cells [.dat tI c0])]) (obs := []) (by kernel_rfl) (by kernel_rfl) (by kernel_rfl) allP0 ?_
  refine seqQ_norm ?_
  refine W_seq (by kernel_rfl) ?_
  refine W_seq (by kernel_rfl) ?_
  refine W_run 3 [] [0, 1, 7, 8] [1000] (fr' := [(0, aD (.slice tI) a0), (1, .one (.fn 75 [(1000, 0)])), (7, aI (List.length a0 : Int)), (8, aI (0 : Int))]) (L' := [(1000, .cells [.dat tI c0])]) (obs := []) (by kernel_rfl) (by kernel_rfl) (by kernel_rfl) allP0 ?_
  refine seqQ_norm ?_
  refine W_block (id := 0) (by kernel_rfl) ?_
  obtain ⟨v25, h26, h⟩ := bind_of h
  refine W_len (t := 0) (u := tI) (xs := a0) (by kernel_rfl) (fun h29 => ?_)
  obtain ⟨h27, h28⟩ := forL_iter h29 h26
  refine W_weaken [0, 1, 7, 8] [1000] (fr' := ((slices_IndexFunc_Lintint_with_name_wrong_1_s2 a0 c0) ((0 : Int), ())).1) (L' := ((slices_IndexFunc_Lintint_with_name_wrong_1_s2 a0 c0) ((0 : Int), ())).2) (by kernel_rfl) ?_
  refine W_cutK (W_loop (S := (slices_IndexFunc_Lintint_with_name_wrong_1_s2 a0 c0)) (J := (escQ (exQ .ret (slices_IndexFunc_Lintint_with_name_wrong_1_s3 c0)) (exQ (.exit 0) (slices_IndexFunc_Lintint_with_name_wrong_1_s4 c0)))) (by kernel_rfl) ?_ h27 _ v25 h28) ?_
  · rintro ⟨i15, x16⟩ s h
    refine W_seq (by kernel_rfl) ?_
    refine W_run 1 [] [0, 1, 7, 8, 9] [1000] (fr' := [(0, aD (.slice tI) a0), (1, .one (.fn 75 [(1000, 0)])), (7, aI (List.length a0 : Int)), (8, aI i15), (9, aB (decide (i15 < (List.length a0 : Int))))]) (L' := [(1000, .cells [.dat tI c0])]) (obs := []) (by kernel_rfl) (by kernel_rfl) (by kernel_rfl) allP0 ?_
    refine seqQ_norm ?_
    refine W_seq (by kernel_rfl) ?_
    refine W_cond (o := .tmp 9) (b := decide (i15 < (List.length a0 : Int))) (by kernel_rfl) (by kernel_rfl) (fun h20 => ?_) (fun h20 => ?_)
    · replace h := stepL_true h20 h
      obtain ⟨v18, _, h19, h, rfl⟩ := h
      refine W_skip [0, 1, 7, 8] [1000] (fr' := [(0, aD (.slice tI) a0), (1, .one (.fn 75 [(1000, 0)])), (7, aI (List.length a0 : Int)), (8, aI i15)]) (L' := [(1000, .cells [.dat tI c0])]) (by kernel_rfl) (by kernel_rfl) ?_
      refine seqQ_norm ?_
      refine W_seq (by kernel_rfl) ?_
      refine W_block (id := 1) (by kernel_rfl) ?_
      refine W_seq (by kernel_rfl) ?_
      refine W_run 2 [] [0, 1, 5, 7, 8] [1000] (fr' := [(0, aD (.slice tI) a0), (1, .one (.fn 75 [(1000, 0)])), (5, aI i15), (7, aI (List.length a0 : Int)), (8, aI i15)]) (L' := [(1000, .cells [.dat tI c0])]) (obs := []) (by kernel_rfl) (by kernel_rfl) (by kernel_rfl) allP0 ?_
      refine seqQ_norm ?_
      refine W_seq (by kernel_rfl) ?_
      refine W_region (by kernel_rfl) ?_
      refine WO_run (j := 5) (k := 5) (orcs := [(7, .val (.dat tI v18))]) (kF := [0, 1, 5, 7, 8, 11, 15]) (kL := [1000]) (fr' := [(0, aD (.slice tI) a0), (1, .one (.fn 75 [(1000, 0)])), (5, aI i15), (7, aI (List.length a0 : Int)), (8, aI i15), (11, .one (.fn 75 [(1000, 0)])), (15, aI v18)]) (L' := [(1000, .cells [.dat tI c0])]) (obs := [Idx a0 i15 v18]) rfl (by kernel_rfl) (allP1 (Idx.of h19)) ?_
      obtain ⟨r21, h22, h⟩ := bind_of h
      refine WO_lend [(1000, 1000)] (us := [none, none]) (d := 16) (p := True) (j := 6) rfl ⟨by kernel_rfl, by kernel_rfl, by kernel_rfl⟩ trivial (name_wrong_1_ok h22) (by kernel_rfl) (by kernel_rfl) ?_
      refine WO_fin [0, 1, 5, 7, 8, 16] [1000] (fr' := [(0, aD (.slice tI) a0), (1, .one (.fn 75 [(1000, 0)])), (5, aI i15), (7, aI (List.length a0 : Int)), (8, aI i15), (16, aB r21)]) (L' := [(1000, .cells [.dat tI c0])]) (by kernel_rfl) (by kernel_rfl) ?_
      refine seqQ_norm ?_
      refine W_cond (o := .tmp 16) (b := r21) (by kernel_rfl) (by kernel_rfl) (fun h23 => ?_) (fun h23 => ?_)
      · replace h := ofT h23 h
        refine W_seq (by kernel_rfl) ?_
        refine W_run 2 [] [4] [1000] (fr' := [(4, aI i15)]) (L' := [(1000, .cells [.dat tI c0])]) (obs := []) (by kernel_rfl) (by kernel_rfl) (by kernel_rfl) allP0 ?_
        refine seqQ_norm ?_
        obtain rfl := Option.some.inj h
        refine W_ret [4] [1000] (fr' := [(4, aI i15)]) (L' := [(1000, .cells [.dat tI c0])]) (by kernel_rfl) (by kernel_rfl) ?_
        refine blockQ_ret ?_
        refine seqQ_ret ?_
        refine round_ret ?_
        refine escQ_ret ?_
        exact exQ_mk (by kernel_rfl) (by kernel_rfl)
      · replace h := ofF h23 h
        refine W_skip [0, 1, 7, 8] [1000] (fr' := [(0, aD (.slice tI) a0), (1, .one (.fn 75 [(1000, 0)])), (7, aI (List.length a0 : Int)), (8, aI i15)]) (L' := [(1000, .cells [.dat tI c0])]) (by kernel_rfl) (by kernel_rfl) ?_
        refine blockQ_norm ?_
        refine seqQ_norm ?_
        obtain rfl := Option.some.inj h
        refine W_run 2 [] [0, 1, 7, 8] [1000] (fr' := [(0, aD (.slice tI) a0), (1, .one (.fn 75 [(1000, 0)])), (7, aI (List.length a0 : Int)), (8, aI (w64 (i15 + (1 : Int))))]) (L' := [(1000, .cells [.dat tI c0])]) (obs := []) (by kernel_rfl) (by kernel_rfl) (by kernel_rfl) allP0 ?_
        exact round_next' (by kernel_rfl) (by kernel_rfl)
    · obtain rfl := stepL_false h20 h
      refine W_exit (id := 0) [] [1000] (fr' := []) (L' := [(1000, .cells [.dat tI c0])]) (by kernel_rfl) (by kernel_rfl) ?_
      refine seqQ_exit ?_
      refine round_exit ?_
      refine escQ_brk ?_
      exact exQ_mk (by kernel_rfl) (by kernel_rfl)
  · intro e fr L hJ
    rcases v25 with v30 | v31
    · obtain ⟨rfl, rfl, rfl⟩ := hJ
      obtain rfl := Option.some.inj h
      refine LT_keep [4] [1000] (fr' := [(4, aI v30)]) (L' := [(1000, .cells [.dat tI c0])]) (by kernel_rfl) ?_
      refine blockQ_ret ?_
      refine seqQ_ret ?_
      exact retQ_mk (by kernel_rfl) (by kernel_rfl) (by kernel_rfl)
    · obtain ⟨rfl, rfl, rfl⟩ := hJ
      refine LT_keep [] [1000] (fr' := []) (L' := [(1000, .cells [.dat tI c0])]) (by kernel_rfl) ?_
      refine blockQ_hit ?_
      refine seqQ_norm ?_
      refine W_seq (by kernel_rfl) ?_
      refine W_run 1 [] [4] [1000] (fr' := [(4, aI (-1 : Int))]) (L' := [(1000, .cells [.dat tI c0])]) (obs := []) (by kernel_rfl) (by kernel_rfl) (by kernel_rfl) allP0 ?_
      refine seqQ_norm ?_
      obtain rfl := Option.some.inj h
      refine W_ret [4] [1000] (fr' := [(4, aI (-1 : Int))]) (L' := [(1000, .cells [.dat tI c0])]) (by kernel_rfl) (by kernel_rfl) ?_
      exact retQ_mk (by kernel_rfl) (by kernel_rfl) (by kernel_rfl)

def slices_ContainsFunc_Lintint_with_name_wrong_1 (a0 : (List Int)) (c0 : Int) : Option Bool :=
(slices_IndexFunc_Lintint_with_name_wrong_1 a0 c0).bind fun r1 =>
some (decide (r1 ≥ (0 : Int)))
theorem slices_ContainsFunc_Lintint_with_name_wrong_1_ok {a0 : (List Int)} {c0 : Int} {r : Bool} (h : slices_ContainsFunc_Lintint_with_name_wrong_1 a0 c0 = some r) : FnC Try.prog 51 [aD (.slice tI) a0, .one (.fn 75 [(1000, 0)])] [(1000, .cells [.dat tI c0])] (aB r) [(1000, .cells [.dat tI c0])] := by
  refine fnC_of_W (B := bodyOf Try.f51) (n := 9) Try.func51 (by kernel_rfl) (by kernel_rfl) (by kernel_rfl) (by kernel_rfl) (by kernel_rfl) ?_
  intro K
  refine W_seq (by kernel_rfl) ?_
  refine W_run 1 [] [0, 1] [1000] (fr' := [(0, aD (.slice tI) a0), (1, .one (.fn 75 [(1000, 0)]))]) (L' := [(1000, .cells [.dat tI c0])]) (obs := []) (by kernel_rfl) (by kernel_rfl) (by kernel_rfl) allP0 ?_
  refine seqQ_norm ?_
  refine W_seq (by kernel_rfl) ?_
  refine W_region (by kernel_rfl) ?_
  refine WO_run (j := 2) (k := 2) (orcs := []) (kF := [5, 6]) (kL := [1000]) (fr' := [(5, aD (.slice tI) a0), (6, .one (.fn 75 [(1000, 0)]))]) (L' := [(1000, .cells [.dat tI c0])]) (obs := []) rfl (by kernel_rfl) allP0 ?_
  obtain ⟨r1, h2, h⟩ := bind_of h
  refine WO_lend [(1000, 1000)] (us := [none, none]) (d := 7) (p := True) (j := 3) rfl ⟨by kernel_rfl, by kernel_rfl, by kernel_rfl⟩ trivial (slices_IndexFunc_Lintint_with_name_wrong_1_ok h2) (by kernel_rfl) (by kernel_rfl) ?_
  refine WO_run (j := 5) (k := 2) (orcs := []) (kF := [4]) (kL := [1000]) (fr' := [(4, aB (decide (r1 ≥ (0 : Int))))]) (L' := [(1000, .cells [.dat tI c0])]) (obs := []) rfl (by kernel_rfl) allP0 ?_
  refine WO_fin [4] [1000] (fr' := [(4, aB (decide (r1 ≥ (0 : Int))))]) (L' := [(1000, .cells [.dat tI c0])]) (by kernel_rfl) (by kernel_rfl) ?_
  refine seqQ_norm ?_
  obtain rfl := Option.some.inj h
  refine W_ret [4] [1000] (fr' := [(4, aB (decide (r1 ≥ (0 : Int))))]) (L' := [(1000, .cells [.dat tI c0])]) (by kernel_rfl) (by kernel_rfl) ?_
  exact retQ_mk (by kernel_rfl) (by kernel_rfl) (by kernel_rfl)

def name_wrong_g7 (a0 : Int) (v61 : ((List Int) × (List Int))) : Option Bool :=
(slices_ContainsFunc_Lintint_with_name_wrong_1 v61.1 a0).bind fun r80 =>
bif r80 then
(some true)
else
((slices_ContainsFunc_Lintint_with_name_wrong_1 v61.2 a0).bind fun r83 =>
some r83)
@[reducible] def name_wrong_s8 (a0 : Int) (a2 : (List ((List Int) × (List Int)))) (i58 : Int) (v : Bool) : Fr × LL := ([(3, .one (.ptr 3 0)), (22, aD (.slice (.pair (.slice tI) (.slice tI))) a2), (23, aI (List.length a2 : Int)), (24, aI i58), (48, aB v)], [(3, .cells [.dat tI a0])])
@[reducible] def name_wrong_s9 (a0 : Int) (a2 : (List ((List Int) × (List Int)))) (i58 : Int) (v61 : ((List Int) × (List Int))) (v : Bool) : Fr × LL := ([(3, .one (.ptr 3 0)), (8, .one (.ptr 8 0)), (22, aD (.slice (.pair (.slice tI) (.slice tI))) a2), (23, aI (List.length a2 : Int)), (24, aI i58), (37, aB v)], [(3, .cells [.dat tI a0]), (8, .one (.pair (.slice tI) (.slice tI)) v61)])
def name_wrong_b10 (a0 : Int) (i58 : Int) (v61 : ((List Int) × (List Int))) (x59 : Unit) : Option (Flow Unit (Esc Int Unit)) :=
(bif decide ((List.length v61.1 : Int) > (8 : Int)) then
(some true)
else
(some (decide ((List.length v61.2 : Int) > (8 : Int))))).bind fun v67 =>
bif v67 then
(some (.done (.ret (1 : Int))))
else
((name_wrong_g7 a0 v61).bind fun v85 =>
bif v85 then
(some (.done (.ret (2 : Int))))
else
(some (.next ())))
@[reducible] def name_wrong_s11 (a0 : Int) (a2 : (List ((List Int) × (List Int)))) (v : Int × Unit) : Fr × LL := ([(3, .one (.ptr 3 0)), (22, aD (.slice (.pair (.slice tI) (.slice tI))) a2), (23, aI (List.length a2 : Int)), (24, aI v.1)], [(3, .cells [.dat tI a0])])
@[reducible] def name_wrong_s12 (v : Int) : Fr × LL := ([(6, aI v)], [])
@[reducible] def name_wrong_s13 (v : Unit) : Fr × LL := ([], [])
def name_wrong (a0 : Int) (a1 : Int) (a2 : (List ((List Int) × (List Int)))) : Option Int :=
bif ((decide (a0 < (0 : Int))) || (decide (a0 > a1))) || (decide ((List.length a2 : Int) > (200 : Int))) then
(some (1 : Int))
else
((forL (name_wrong_b10 a0) (fun x59 => (.brk ())) a2 0 ()).bind fun v89 =>
match v89 with
| .ret v94 =>
(some v94)
| .brk v95 =>
(some (0 : Int)))
theorem name_wrong_ok {a0 : Int} {a1 : Int} {a2 : (List ((List Int) × (List Int)))} {r : Int} (h : name_wrong a0 a1 a2 = some r) : FnC Try.prog 67 [aI a0, aI a1, aD (.slice (.pair (.slice tI) (.slice tI))) a2] [] (aI r) [] := by
  refine fnC_of_W (B := bodyOf Try.f67) (n := 50) Try.func67 (by kernel_rfl) (by kernel_rfl) (by kernel_rfl) (by kernel_rfl) (by kernel_rfl) ?_
  intro K
  refine W_seq (by kernel_rfl) ?_
  refine W_run 2 [] [1, 2, 3] [3] (fr' := [(1, aI a1), (2, aD (.slice (.pair (.slice tI) (.slice tI))) a2), (3, .one (.ptr 3 0))]) (L' := [(3, .cells [.dat tI a0])]) (obs := []) (by kernel_rfl) (by kernel_rfl) (by kernel_rfl) allP0 ?_
  refine seqQ_norm ?_
  refine W_seq (by kernel_rfl) ?_
  refine W_seq (by kernel_rfl) ?_
  refine W_run 12 [] [2, 3, 21] [3] (fr' := [(2, aD (.slice (.pair (.slice tI) (.slice tI))) a2), (3, .one (.ptr 3 0)), (21, aB (((decide (a0 < (0 : Int))) || (decide (a0 > a1))) || (decide ((List.length a2 : Int) > (200 : Int)))))]) (L' := [(3, .cells [.dat tI a0])]) (obs := []) (by kernel_rfl) (by kernel_rfl) (by kernel_rfl) allP0 ?_
  refine seqQ_norm ?_
  refine W_cond (o := .tmp 21) (b := ((decide (a0 < (0 : Int))) || (decide (a0 > a1))) || (decide ((List.length a2 : Int) > (200 : Int)))) (by kernel_rfl) (by kernel_rfl) (fun h1 => ?_) (fun h1 => ?_)
  · replace h := ofT h1 h
    refine W_seq (by kernel_rfl) ?_
    refine W_run 1 [] [6] [] (fr' := [(6, aI (1 : Int))]) (L' := []) (obs := []) (by kernel_rfl) (by kernel_rfl) (by kernel_rfl) allP0 ?_
    refine seqQ_norm ?_
    obtain rfl := Option.some.inj h
    refine W_ret [6] [] (fr' := [(6, aI (1 : Int))]) (L' := []) (by kernel_rfl) (by kernel_rfl) ?_
    refine seqQ_ret ?_
    exact retQ_mk (by kernel_rfl) (by kernel_rfl) (by kernel_rfl)
  · replace h := ofF h1 h
    refine W_skip [2, 3] [3] (fr' := [(2, aD (.slice (.pair (.slice tI) (.slice tI))) a2), (3, .one (.ptr 3 0))]) (L' := [(3, .cells [.dat tI a0])]) (by kernel_rfl) (by kernel_rfl) ?_
    refine seqQ_norm ?_
    refine W_seq (by kernel_rfl) ?_
    refine W_seq (by kernel_rfl) ?_
    refine W_run 3 [] [3, 22, 23, 24] [3] (fr' := [(3, .one (.ptr 3 0)), (22, aD (.slice (.pair (.slice tI) (.slice tI))) a2), (23, aI (List.length a2 : Int)), (24, aI (0 : Int))]) (L' := [(3, .cells [.dat tI a0])]) (obs := []) (by kernel_rfl) (by kernel_rfl) (by kernel_rfl) allP0 ?_
    refine seqQ_norm ?_
    refine W_block (id := 0) (by kernel_rfl) ?_
    obtain ⟨v89, h90, h⟩ := bind_of h
    refine W_len (t := 22) (u := (.pair (.slice tI) (.slice tI))) (xs := a2) (by kernel_rfl) (fun h93 => ?_)
    obtain ⟨h91, h92⟩ := forL_iter h93 h90
    refine W_weaken [3, 22, 23, 24] [3] (fr' := ((name_wrong_s11 a0 a2) ((0 : Int), ())).1) (L' := ((name_wrong_s11 a0 a2) ((0 : Int), ())).2) (by kernel_rfl) ?_
    refine W_cutK (W_loop (S := (name_wrong_s11 a0 a2)) (J := (escQ (exQ .ret name_wrong_s12) (exQ (.exit 0) name_wrong_s13))) (by kernel_rfl) ?_ h91 _ v89 h92) ?_
    · rintro ⟨i58, x59⟩ s h
      refine W_seq (by kernel_rfl) ?_
      refine W_run 1 [] [3, 22, 23, 24, 25] [3] (fr' := [(3, .one (.ptr 3 0)), (22, aD (.slice (.pair (.slice tI) (.slice tI))) a2), (23, aI (List.length a2 : Int)), (24, aI i58), (25, aB (decide (i58 < (List.length a2 : Int))))]) (L' := [(3, .cells [.dat tI a0])]) (obs := []) (by kernel_rfl) (by kernel_rfl) (by kernel_rfl) allP0 ?_
      refine seqQ_norm ?_
      refine W_seq (by kernel_rfl) ?_
      refine W_cond (o := .tmp 25) (b := decide (i58 < (List.length a2 : Int))) (by kernel_rfl) (by kernel_rfl) (fun h63 => ?_) (fun h63 => ?_)
      · replace h := stepL_true h63 h
        obtain ⟨v61, _, h62, h, rfl⟩ := h
        refine W_skip [3, 22, 23, 24] [3] (fr' := [(3, .one (.ptr 3 0)), (22, aD (.slice (.pair (.slice tI) (.slice tI))) a2), (23, aI (List.length a2 : Int)), (24, aI i58)]) (L' := [(3, .cells [.dat tI a0])]) (by kernel_rfl) (by kernel_rfl) ?_
        refine seqQ_norm ?_
        refine W_seq (by kernel_rfl) ?_
        refine W_block (id := 1) (by kernel_rfl) ?_
        refine W_seq (by kernel_rfl) ?_
        refine W_run 4 [(1, .val (.dat (.pair (.slice tI) (.slice tI)) v61)), (5, .typed)] [3, 8, 22, 23, 24] [3, 8] (fr' := [(3, .one (.ptr 3 0)), (8, .one (.ptr 8 0)), (22, aD (.slice (.pair (.slice tI) (.slice tI))) a2), (23, aI (List.length a2 : Int)), (24, aI i58)]) (L' := [(3, .cells [.dat tI a0]), (8, .one (.pair (.slice tI) (.slice tI)) v61)]) (obs := [Idx a2 i58 v61, True]) (by kernel_rfl) (by kernel_rfl) (by kernel_rfl) (allP2 (Idx.of h62) (allP1 trivial)) ?_
        refine seqQ_norm ?_
        refine W_seq (by kernel_rfl) ?_
        refine W_seq (by kernel_rfl) ?_
        obtain ⟨v67, h68, h⟩ := bind_of h
        refine W_cutK (Q' := (exQ .normal (name_wrong_s9 a0 a2 i58 v61)) v67) ?_ ?_
        · replace h := h68
          refine W_region (by kernel_rfl) ?_
          refine WO_run (j := 5) (k := 5) (orcs := []) (kF := [3, 8, 22, 23, 24, 32]) (kL := [3, 8]) (fr' := [(3, .one (.ptr 3 0)), (8, .one (.ptr 8 0)), (22, aD (.slice (.pair (.slice tI) (.slice tI))) a2), (23, aI (List.length a2 : Int)), (24, aI i58), (32, aB (decide ((List.length v61.1 : Int) > (8 : Int))))]) (L' := [(3, .cells [.dat tI a0]), (8, .one (.pair (.slice tI) (.slice tI)) v61)]) (obs := []) rfl (by kernel_rfl) allP0 ?_
          rcases Bool.eq_false_or_eq_true (decide ((List.length v61.1 : Int) > (8 : Int))) with h66 | h66
          · replace h := ofT h66 h
            refine WO_run (j := 10) (k := 5) (orcs := [(10, .known true), (12, .known true), (14, .known true), (16, .known true), (19, .val (.dat .bool true))]) (kF := [3, 8, 22, 23, 24, 37]) (kL := [3, 8]) (fr' := [(3, .one (.ptr 3 0)), (8, .one (.ptr 8 0)), (22, aD (.slice (.pair (.slice tI) (.slice tI))) a2), (23, aI (List.length a2 : Int)), (24, aI i58), (37, aB true)]) (L' := [(3, .cells [.dat tI a0]), (8, .one (.pair (.slice tI) (.slice tI)) v61)]) (obs := [((decide ((List.length v61.1 : Int) > (8 : Int))) = true), ((decide ((List.length v61.1 : Int) > (8 : Int))) = true), ((decide ((List.length v61.1 : Int) > (8 : Int))) = true), ((decide ((List.length v61.1 : Int) > (8 : Int))) = true), ((decide ((List.length v61.1 : Int) > (8 : Int))) = true)]) rfl (by kernel_rfl) (allP2 h66 (allP2 h66 (allP2 h66 (allP2 h66 (allP1 h66))))) ?_
            obtain rfl := Option.some.inj h
            refine WO_fin [3, 8, 22, 23, 24, 37] [3, 8] (fr' := [(3, .one (.ptr 3 0)), (8, .one (.ptr 8 0)), (22, aD (.slice (.pair (.slice tI) (.slice tI))) a2), (23, aI (List.length a2 : Int)), (24, aI i58), (37, aB true)]) (L' := [(3, .cells [.dat tI a0]), (8, .one (.pair (.slice tI) (.slice tI)) v61)]) (by kernel_rfl) (by kernel_rfl) ?_
            exact exQ_mk (by kernel_rfl) (by kernel_rfl)
          · replace h := ofF h66 h
            refine WO_run (j := 10) (k := 5) (orcs := [(10, .known false), (12, .known false), (14, .known false), (16, .known false), (19, .val (.dat .bool false))]) (kF := [3, 8, 22, 23, 24, 37]) (kL := [3, 8]) (fr' := [(3, .one (.ptr 3 0)), (8, .one (.ptr 8 0)), (22, aD (.slice (.pair (.slice tI) (.slice tI))) a2), (23, aI (List.length a2 : Int)), (24, aI i58), (37, aB (decide ((List.length v61.2 : Int) > (8 : Int))))]) (L' := [(3, .cells [.dat tI a0]), (8, .one (.pair (.slice tI) (.slice tI)) v61)]) (obs := [((decide ((List.length v61.1 : Int) > (8 : Int))) = false), ((decide ((List.length v61.1 : Int) > (8 : Int))) = false), ((decide ((List.length v61.1 : Int) > (8 : Int))) = false), ((decide ((List.length v61.1 : Int) > (8 : Int))) = false), ((decide ((List.length v61.1 : Int) > (8 : Int))) = false)]) rfl (by kernel_rfl) (allP2 h66 (allP2 h66 (allP2 h66 (allP2 h66 (allP1 h66))))) ?_
            obtain rfl := Option.some.inj h
            refine WO_fin [3, 8, 22, 23, 24, 37] [3, 8] (fr' := [(3, .one (.ptr 3 0)), (8, .one (.ptr 8 0)), (22, aD (.slice (.pair (.slice tI) (.slice tI))) a2), (23, aI (List.length a2 : Int)), (24, aI i58), (37, aB (decide ((List.length v61.2 : Int) > (8 : Int))))]) (L' := [(3, .cells [.dat tI a0]), (8, .one (.pair (.slice tI) (.slice tI)) v61)]) (by kernel_rfl) (by kernel_rfl) ?_
            exact exQ_mk (by kernel_rfl) (by kernel_rfl)
        · intro e fr L hJ
          obtain ⟨rfl, rfl, rfl⟩ := hJ
          refine LT_keep [3, 8, 22, 23, 24, 37] [3, 8] (fr' := [(3, .one (.ptr 3 0)), (8, .one (.ptr 8 0)), (22, aD (.slice (.pair (.slice tI) (.slice tI))) a2), (23, aI (List.length a2 : Int)), (24, aI i58), (37, aB v67)]) (L' := [(3, .cells [.dat tI a0]), (8, .one (.pair (.slice tI) (.slice tI)) v61)]) (by kernel_rfl) ?_
          refine seqQ_norm ?_
          refine W_cond (o := .tmp 37) (b := v67) (by kernel_rfl) (by kernel_rfl) (fun h69 => ?_) (fun h69 => ?_)
          · replace h := ofT h69 h
            refine W_seq (by kernel_rfl) ?_
            refine W_run 1 [] [6] [] (fr' := [(6, aI (1 : Int))]) (L' := []) (obs := []) (by kernel_rfl) (by kernel_rfl) (by kernel_rfl) allP0 ?_
            refine seqQ_norm ?_
            obtain rfl := Option.some.inj h
            refine W_ret [6] [] (fr' := [(6, aI (1 : Int))]) (L' := []) (by kernel_rfl) (by kernel_rfl) ?_
            refine seqQ_ret ?_
            refine blockQ_ret ?_
            refine seqQ_ret ?_
            refine round_ret ?_
            refine escQ_ret ?_
            exact exQ_mk (by kernel_rfl) (by kernel_rfl)
          · replace h := ofF h69 h
            refine W_skip [3, 8, 22, 23, 24] [3, 8] (fr' := [(3, .one (.ptr 3 0)), (8, .one (.ptr 8 0)), (22, aD (.slice (.pair (.slice tI) (.slice tI))) a2), (23, aI (List.length a2 : Int)), (24, aI i58)]) (L' := [(3, .cells [.dat tI a0]), (8, .one (.pair (.slice tI) (.slice tI)) v61)]) (by kernel_rfl) (by kernel_rfl) ?_
            refine seqQ_norm ?_
            refine W_seq (by kernel_rfl) ?_
            refine W_run 2 [] [3, 8, 9, 22, 23, 24] [3, 8] (fr' := [(3, .one (.ptr 3 0)), (8, .one (.ptr 8 0)), (9, .one (.fn 75 [(3, 0)])), (22, aD (.slice (.pair (.slice tI) (.slice tI))) a2), (23, aI (List.length a2 : Int)), (24, aI i58)]) (L' := [(3, .cells [.dat tI a0]), (8, .one (.pair (.slice tI) (.slice tI)) v61)]) (obs := []) (by kernel_rfl) (by kernel_rfl) (by kernel_rfl) allP0 ?_
            refine seqQ_norm ?_
            refine W_seq (by kernel_rfl) ?_
            obtain ⟨v85, h86, h⟩ := bind_of h
            refine W_cutK (Q' := (exQ .normal (name_wrong_s8 a0 a2 i58)) v85) ?_ ?_
            · replace h := h86
              refine W_region (by kernel_rfl) ?_
              refine WO_run (j := 3) (k := 3) (orcs := []) (kF := [3, 8, 9, 22, 23, 24, 40, 41]) (kL := [3, 8]) (fr' := [(3, .one (.ptr 3 0)), (8, .one (.ptr 8 0)), (9, .one (.fn 75 [(3, 0)])), (22, aD (.slice (.pair (.slice tI) (.slice tI))) a2), (23, aI (List.length a2 : Int)), (24, aI i58), (40, aD (.slice tI) v61.1), (41, .one (.fn 75 [(3, 0)]))]) (L' := [(3, .cells [.dat tI a0]), (8, .one (.pair (.slice tI) (.slice tI)) v61)]) (obs := []) rfl (by kernel_rfl) allP0 ?_
              obtain ⟨r80, h81, h⟩ := bind_of h
              refine WO_lend [(1000, 3)] (us := [none, none]) (d := 42) (p := True) (j := 4) rfl ⟨by kernel_rfl, by kernel_rfl, by kernel_rfl⟩ trivial (slices_ContainsFunc_Lintint_with_name_wrong_1_ok h81) (by kernel_rfl) (by kernel_rfl) ?_
              refine WO_run (j := 5) (k := 1) (orcs := []) (kF := [3, 8, 9, 22, 23, 24, 43]) (kL := [3, 8]) (fr' := [(3, .one (.ptr 3 0)), (8, .one (.ptr 8 0)), (9, .one (.fn 75 [(3, 0)])), (22, aD (.slice (.pair (.slice tI) (.slice tI))) a2), (23, aI (List.length a2 : Int)), (24, aI i58), (43, aB r80)]) (L' := [(3, .cells [.dat tI a0]), (8, .one (.pair (.slice tI) (.slice tI)) v61)]) (obs := []) rfl (by kernel_rfl) allP0 ?_
              rcases Bool.eq_false_or_eq_true (r80) with h82 | h82
              · replace h := ofT h82 h
                refine WO_run (j := 10) (k := 5) (orcs := [(10, .known true), (12, .known true), (14, .known true), (16, .known true), (19, .val (.dat .bool true))]) (kF := [3, 22, 23, 24, 48]) (kL := [3, 8]) (fr' := [(3, .one (.ptr 3 0)), (22, aD (.slice (.pair (.slice tI) (.slice tI))) a2), (23, aI (List.length a2 : Int)), (24, aI i58), (48, aB true)]) (L' := [(3, .cells [.dat tI a0]), (8, .one (.pair (.slice tI) (.slice tI)) v61)]) (obs := [(r80 = true), (r80 = true), (r80 = true), (r80 = true), (r80 = true)]) rfl (by kernel_rfl) (allP2 h82 (allP2 h82 (allP2 h82 (allP2 h82 (allP1 h82))))) ?_
                obtain rfl := Option.some.inj h
                refine WO_fin [3, 22, 23, 24, 48] [3] (fr' := [(3, .one (.ptr 3 0)), (22, aD (.slice (.pair (.slice tI) (.slice tI))) a2), (23, aI (List.length a2 : Int)), (24, aI i58), (48, aB true)]) (L' := [(3, .cells [.dat tI a0])]) (by kernel_rfl) (by kernel_rfl) ?_
                exact exQ_mk (by kernel_rfl) (by kernel_rfl)
              · replace h := ofF h82 h
                refine WO_run (j := 8) (k := 3) (orcs := [(10, .known false), (12, .known false), (14, .known false)]) (kF := [3, 22, 23, 24, 43, 45, 46]) (kL := [3, 8]) (fr' := [(3, .one (.ptr 3 0)), (22, aD (.slice (.pair (.slice tI) (.slice tI))) a2), (23, aI (List.length a2 : Int)), (24, aI i58), (43, aB r80), (45, aD (.slice tI) v61.2), (46, .one (.fn 75 [(3, 0)]))]) (L' := [(3, .cells [.dat tI a0]), (8, .one (.pair (.slice tI) (.slice tI)) v61)]) (obs := [(r80 = false), (r80 = false), (r80 = false)]) rfl (by kernel_rfl) (allP2 h82 (allP2 h82 (allP1 h82))) ?_
                obtain ⟨r83, h84, h⟩ := bind_of h
                refine WO_lend [(1000, 3)] (us := [none, none]) (d := 47) (p := (r80 = false)) (j := 9) rfl ⟨by kernel_rfl, by kernel_rfl, by kernel_rfl⟩ h82 (slices_ContainsFunc_Lintint_with_name_wrong_1_ok h84) (by kernel_rfl) (by kernel_rfl) ?_
                refine WO_run (j := 10) (k := 1) (orcs := [(19, .val (.dat .bool false))]) (kF := [3, 22, 23, 24, 48]) (kL := [3, 8]) (fr' := [(3, .one (.ptr 3 0)), (22, aD (.slice (.pair (.slice tI) (.slice tI))) a2), (23, aI (List.length a2 : Int)), (24, aI i58), (48, aB r83)]) (L' := [(3, .cells [.dat tI a0]), (8, .one (.pair (.slice tI) (.slice tI)) v61)]) (obs := [(r80 = false)]) rfl (by kernel_rfl) (allP1 h82) ?_
                obtain rfl := Option.some.inj h
                refine WO_fin [3, 22, 23, 24, 48] [3] (fr' := [(3, .one (.ptr 3 0)), (22, aD (.slice (.pair (.slice tI) (.slice tI))) a2), (23, aI (List.length a2 : Int)), (24, aI i58), (48, aB r83)]) (L' := [(3, .cells [.dat tI a0])]) (by kernel_rfl) (by kernel_rfl) ?_
                exact exQ_mk (by kernel_rfl) (by kernel_rfl)
            · intro e fr L hJ
              obtain ⟨rfl, rfl, rfl⟩ := hJ
              refine LT_keep [3, 22, 23, 24, 48] [3] (fr' := [(3, .one (.ptr 3 0)), (22, aD (.slice (.pair (.slice tI) (.slice tI))) a2), (23, aI (List.length a2 : Int)), (24, aI i58), (48, aB v85)]) (L' := [(3, .cells [.dat tI a0])]) (by kernel_rfl) ?_
              refine seqQ_norm ?_
              refine W_cond (o := .tmp 48) (b := v85) (by kernel_rfl) (by kernel_rfl) (fun h87 => ?_) (fun h87 => ?_)
              · replace h := ofT h87 h
                refine W_seq (by kernel_rfl) ?_
                refine W_run 1 [] [6] [] (fr' := [(6, aI (2 : Int))]) (L' := []) (obs := []) (by kernel_rfl) (by kernel_rfl) (by kernel_rfl) allP0 ?_
                refine seqQ_norm ?_
                obtain rfl := Option.some.inj h
                refine W_ret [6] [] (fr' := [(6, aI (2 : Int))]) (L' := []) (by kernel_rfl) (by kernel_rfl) ?_
                refine blockQ_ret ?_
                refine seqQ_ret ?_
                refine round_ret ?_
                refine escQ_ret ?_
                exact exQ_mk (by kernel_rfl) (by kernel_rfl)
              · replace h := ofF h87 h
                refine W_skip [3, 22, 23, 24] [3] (fr' := [(3, .one (.ptr 3 0)), (22, aD (.slice (.pair (.slice tI) (.slice tI))) a2), (23, aI (List.length a2 : Int)), (24, aI i58)]) (L' := [(3, .cells [.dat tI a0])]) (by kernel_rfl) (by kernel_rfl) ?_
                refine blockQ_norm ?_
                refine seqQ_norm ?_
                obtain rfl := Option.some.inj h
                refine W_run 2 [] [3, 22, 23, 24] [3] (fr' := [(3, .one (.ptr 3 0)), (22, aD (.slice (.pair (.slice tI) (.slice tI))) a2), (23, aI (List.length a2 : Int)), (24, aI (w64 (i58 + (1 : Int))))]) (L' := [(3, .cells [.dat tI a0])]) (obs := []) (by kernel_rfl) (by kernel_rfl) (by kernel_rfl) allP0 ?_
                exact round_next' (by kernel_rfl) (by kernel_rfl)
      · obtain rfl := stepL_false h63 h
        refine W_exit (id := 0) [] [] (fr' := []) (L' := []) (by kernel_rfl) (by kernel_rfl) ?_
        refine seqQ_exit ?_
        refine round_exit ?_
        refine escQ_brk ?_
        exact exQ_mk (by kernel_rfl) (by kernel_rfl)
    · intro e fr L hJ
      rcases v89 with v94 | v95
      · obtain ⟨rfl, rfl, rfl⟩ := hJ
        obtain rfl := Option.some.inj h
        refine LT_keep [6] [] (fr' := [(6, aI v94)]) (L' := []) (by kernel_rfl) ?_
        refine blockQ_ret ?_
        refine seqQ_ret ?_
        exact retQ_mk (by kernel_rfl) (by kernel_rfl) (by kernel_rfl)
      · obtain ⟨rfl, rfl, rfl⟩ := hJ
        refine LT_keep [] [] (fr' := []) (L' := []) (by kernel_rfl) ?_
        refine blockQ_hit ?_
        refine seqQ_norm ?_
        refine W_seq (by kernel_rfl) ?_
        refine W_run 1 [] [6] [] (fr' := [(6, aI (0 : Int))]) (L' := []) (obs := []) (by kernel_rfl) (by kernel_rfl) (by kernel_rfl) allP0 ?_
        refine seqQ_norm ?_
        obtain rfl := Option.some.inj h
        refine W_ret [6] [] (fr' := [(6, aI (0 : Int))]) (L' := []) (by kernel_rfl) (by kernel_rfl) ?_
        exact retQ_mk (by kernel_rfl) (by kernel_rfl) (by kernel_rfl)

def name_is_1 (a0 : Int) (c0 : (List Bool)) : Option Bool :=
(idx c0 a0).bind fun v1 =>
some v1
theorem name_is_1_ok {a0 : Int} {c0 : (List Bool)} {r : Bool} (h : name_is_1 a0 c0 = some r) : FnC Try.prog 76 [aI a0, .one (.ptr 1000 0)] [(1000, .cells [.dat (.slice .bool) c0])] (aB r) [(1000, .cells [.dat (.slice .bool) c0])] := by
  refine fnC_of_W (B := bodyOf Try.f76) (n := 8) Try.func76 (by kernel_rfl) (by kernel_rfl) (by kernel_rfl) (by kernel_rfl) (by kernel_rfl) ?_
  intro K
  refine W_seq (by kernel_rfl) ?_
  refine W_run 1 [] [0, 1] [1000] (fr' := [(0, aI a0), (1, .one (.ptr 1000 0))]) (L' := [(1000, .cells [.dat (.slice .bool) c0])]) (obs := []) (by kernel_rfl) (by kernel_rfl) (by kernel_rfl) allP0 ?_
  refine seqQ_norm ?_
  refine W_seq (by kernel_rfl) ?_
  obtain ⟨v1, h2, h⟩ := bind_of h
  refine W_run 5 [(5, .val (.dat .bool v1))] [3] [1000] (fr' := [(3, aB v1)]) (L' := [(1000, .cells [.dat (.slice .bool) c0])]) (obs := [Idx c0 a0 v1]) (by kernel_rfl) (by kernel_rfl) (by kernel_rfl) (allP1 (Idx.of h2)) ?_
  refine seqQ_norm ?_
  obtain rfl := Option.some.inj h
  refine W_ret [3] [1000] (fr' := [(3, aB v1)]) (L' := [(1000, .cells [.dat (.slice .bool) c0])]) (by kernel_rfl) (by kernel_rfl) ?_
  exact retQ_mk (by kernel_rfl) (by kernel_rfl) (by kernel_rfl)

def slices_IndexFunc_Lintint_with_name_is_1_b1 (c0 : (List Bool)) (i15 : Int) (v18 : Int) (x16 : Unit) : Option (Flow Unit (Esc Int Unit)) :=
(name_is_1 v18 c0).bind fun r21 =>
bif r21 then
(some (.done (.ret i15)))
else
(some (.next ()))
@[reducible] def slices_IndexFunc_Lintint_with_name_is_1_s2 (a0 : (List Int)) (c0 : (List Bool)) (v : Int × Unit) : Fr × LL := ([(0, aD (.slice tI) a0), (1, .one (.fn 76 [(1000, 0)])), (7, aI (List.length a0 : Int)), (8, aI v.1)], [(1000, .cells [.dat (.slice .bool) c0])])
@[reducible] def slices_IndexFunc_Lintint_with_name_is_1_s3 (c0 : (List Bool)) (v : Int) : Fr × LL := ([(4, aI v)], [(1000, .cells [.dat (.slice .bool) c0])])
@[reducible] def slices_IndexFunc_Lintint_with_name_is_1_s4 (c0 : (List Bool)) (v : Unit) : Fr × LL := ([], [(1000, .cells [.dat (.slice .bool) c0])])
def slices_IndexFunc_Lintint_with_name_is_1 (a0 : (List Int)) (c0 : (List Bool)) : Option Int :=
(forL (slices_IndexFunc_Lintint_with_name_is_1_b1 c0) (fun x16 => (.brk ())) a0 0 ()).bind fun v25 =>
match v25 with
| .ret v30 =>
(some v30)
| .brk v31 =>
(some (-1 : Int))
theorem slices_IndexFunc_Lintint_with_name_is_1_ok {a0 : (List Int)} {c0 : (List Bool)} {r : Int} (h : slices_IndexFunc_Lintint_with_name_is_1 a0 c0 = some r) : FnC Try.prog 69 [aD (.slice tI) a0, .one (.fn 76 [(1000, 0)])] [(1000, .cells [.dat (.slice .bool) c0])] (aI r) [(1000, .cells [.dat (.slice .bool) c0])] := by
  refine fnC_of_W (B := bodyOf Try.f69) (n := 19) Try.func69 (by kernel_rfl) (by kernel_rfl) (by kernel_rfl) (by kernel_rfl) (by kernel_rfl) ?_
  intro K
  refine W_seq (by kernel_rfl) ?_
  refine W_run 1 [] [0, 1] [1000] (fr' := [(0, aD (.slice tI) a0), (1, .one (.fn 76 [(1000, 0)]))]) (L' := [(1000, .cells [.dat (.slice .bool) c0])]) (obs := []) (by kernel_rfl) (by kernel_rfl) (by kernel_rfl) allP0 ?_
  refine seqQ_norm ?_
  refine W_seq (by kernel_rfl) ?_
  refine W_seq (by kernel_rfl) ?_
  refine W_run 3 [] [0, 1, 7, 8] [1000] (fr' := [(0, aD (.slice tI) a0), (1, .one (.fn 76 [(1000, 0)])), (7, aI (List.length a0 : Int)), (8, aI (0 : Int))]) (L' := [(1000, .cells [.dat (.slice .bool) c0])]) (obs := []) (by kernel_rfl) (by kernel_rfl) (by kernel_rfl) allP0 ?_
  refine seqQ_norm ?_
  refine W_block (id := 0) (by kernel_rfl) ?_
  obtain ⟨v25, h26, h⟩ := bind_of h
  refine W_len (t := 0) (u := tI) (xs := a0) (by kernel_rfl) (fun h29 => ?_)
  obtain ⟨h27, h28⟩ := forL_iter h29 h26
  refine W_weaken [0, 1, 7, 8] [1000] (fr' := ((slices_IndexFunc_Lintint_with_name_is_1_s2 a0 c0) ((0 : Int), ())).1) (L' := ((slices_IndexFunc_Lintint_with_name_is_1_s2 a0 c0) ((0 : Int), ())).2) (by kernel_rfl) ?_
  refine W_cutK (W_loop (S := (slices_IndexFunc_Lintint_with_name_is_1_s2 a0 c0)) (J := (escQ (exQ .ret (slices_IndexFunc_Lintint_with_name_is_1_s3 c0)) (exQ (.exit 0) (slices_IndexFunc_Lintint_with_name_is_1_s4 c0)))) (by kernel_rfl) ?_ h27 _ v25 h28) ?_
  · rintro ⟨i15, x16⟩ s h
    refine W_seq (by kernel_rfl) ?_
    refine W_run 1 [] [0, 1, 7, 8, 9] [1000] (fr' := [(0, aD (.slice tI) a0), (1, .one (.fn 76 [(1000, 0)])), (7, aI (List.length a0 : Int)), (8, aI i15), (9, aB (decide (i15 < (List.length a0 : Int))))]) (L' := [(1000, .cells [.dat (.slice .bool) c0])]) (obs := []) (by kernel_rfl) (by kernel_rfl) (by kernel_rfl) allP0 ?_
    refine seqQ_norm ?_
    refine W_seq (by kernel_rfl) ?_
    refine W_cond (o := .tmp 9) (b := decide (i15 < (List.length a0 : Int))) (by kernel_rfl) (by kernel_rfl) (fun h20 => ?_) (fun h20 => ?_)
    · replace h := stepL_true h20 h
      obtain ⟨v18, _, h19, h, rfl⟩ := h
      refine W_skip [0, 1, 7, 8] [1000] (fr' := [(0, aD (.slice tI) a0), (1, .one (.fn 76 [(1000, 0)])), (7, aI (List.length a0 : Int)), (8, aI i15)]) (L' := [(1000, .cells [.dat (.slice .bool) c0])]) (by kernel_rfl) (by kernel_rfl) ?_
      refine seqQ_norm ?_
      refine W_seq (by kernel_rfl) ?_
      refine W_block (id := 1) (by kernel_rfl) ?_
      refine W_seq (by kernel_rfl) ?_
      refine W_run 2 [] [0, 1, 5, 7, 8] [1000] (fr' := [(0, aD (.slice tI) a0), (1, .one (.fn 76 [(1000, 0)])), (5, aI i15), (7, aI (List.length a0 : Int)), (8, aI i15)]) (L' := [(1000, .cells [.dat (.slice .bool) c0])]) (obs := []) (by kernel_rfl) (by kernel_rfl) (by kernel_rfl) allP0 ?_
      refine seqQ_norm ?_
      refine W_seq (by kernel_rfl) ?_
      refine W_region (by kernel_rfl) ?_
      refine WO_run (j := 5) (k := 5) (orcs := [(7, .val (.dat tI v18))]) (kF := [0, 1, 5, 7, 8, 11, 15]) (kL := [1000]) (fr' := [(0, aD (.slice tI) a0), (1, .one (.fn 76 [(1000, 0)])), (5, aI i15), (7, aI (List.length a0 : Int)), (8, aI i15), (11, .one (.fn 76 [(1000, 0)])), (15, aI v18)]) (L' := [(1000, .cells [.dat (.slice .bool) c0])]) (obs := [Idx a0 i15 v18]) rfl (by kernel_rfl) (allP1 (Idx.of h19)) ?_
      obtain ⟨r21, h22, h⟩ := bind_of h
      refine WO_lend [(1000, 1000)] (us := [none, none]) (d := 16) (p := True) (j := 6) rfl ⟨by kernel_rfl, by kernel_rfl, by kernel_rfl⟩ trivial (name_is_1_ok h22) (by kernel_rfl) (by kernel_rfl) ?_
      refine WO_fin [0, 1, 5, 7, 8, 16] [1000] (fr' := [(0, aD (.slice tI) a0), (1, .one (.fn 76 [(1000, 0)])), (5, aI i15), (7, aI (List.length a0 : Int)), (8, aI i15), (16, aB r21)]) (L' := [(1000, .cells [.dat (.slice .bool) c0])]) (by kernel_rfl) (by kernel_rfl) ?_
      refine seqQ_norm ?_
      refine W_cond (o := .tmp 16) (b := r21) (by kernel_rfl) (by kernel_rfl) (fun h23 => ?_) (fun h23 => ?_)
      · replace h := ofT h23 h
        refine W_seq (by kernel_rfl) ?_
        refine W_run 2 [] [4] [1000] (fr' := [(4, aI i15)]) (L' := [(1000, .cells [.dat (.slice .bool) c0])]) (obs := []) (by kernel_rfl) (by kernel_rfl) (by kernel_rfl) allP0 ?_
        refine seqQ_norm ?_
        obtain rfl := Option.some.inj h
        refine W_ret [4] [1000] (fr' := [(4, aI i15)]) (L' := [(1000, .cells [.dat (.slice .bool) c0])]) (by kernel_rfl) (by kernel_rfl) ?_
        refine blockQ_ret ?_
        refine seqQ_ret ?_
        refine round_ret ?_
        refine escQ_ret ?_
        exact exQ_mk (by kernel_rfl) (by kernel_rfl)
      · replace h := ofF h23 h
        refine W_skip [0, 1, 7, 8] [1000] (fr' := [(0, aD (.slice tI) a0), (1, .one (.fn 76 [(1000, 0)])), (7, aI (List.length a0 : Int)), (8, aI i15)]) (L' := [(1000, .cells [.dat (.slice .bool) c0])]) (by kernel_rfl) (by kernel_rfl) ?_
        refine blockQ_norm ?_
        refine seqQ_norm ?_
        obtain rfl := Option.some.inj h
        refine W_run 2 [] [0, 1, 7, 8] [1000] (fr' := [(0, aD (.slice tI) a0), (1, .one (.fn 76 [(1000, 0)])), (7, aI (List.length a0 : Int)), (8, aI (w64 (i15 + (1 : Int))))]) (L' := [(1000, .cells [.dat (.slice .bool) c0])]) (obs := []) (by kernel_rfl) (by kernel_rfl) (by kernel_rfl) allP0 ?_
        exact round_next' (by kernel_rfl) (by kernel_rfl)
    · obtain rfl := stepL_false h20 h
      refine W_exit (id := 0) [] [1000] (fr' := []) (L' := [(1000, .cells [.dat (.slice .bool) c0])]) (by kernel_rfl) (by kernel_rfl) ?_
      refine seqQ_exit ?_
      refine round_exit ?_
      refine escQ_brk ?_
      exact exQ_mk (by kernel_rfl) (by kernel_rfl)
  · intro e fr L hJ
    rcases v25 with v30 | v31
    · obtain ⟨rfl, rfl, rfl⟩ := hJ
      obtain rfl := Option.some.inj h
      refine LT_keep [4] [1000] (fr' := [(4, aI v30)]) (L' := [(1000, .cells [.dat (.slice .bool) c0])]) (by kernel_rfl) ?_
      refine blockQ_ret ?_
      refine seqQ_ret ?_
      exact retQ_mk (by kernel_rfl) (by kernel_rfl) (by kernel_rfl)
    · obtain ⟨rfl, rfl, rfl⟩ := hJ
      refine LT_keep [] [1000] (fr' := []) (L' := [(1000, .cells [.dat (.slice .bool) c0])]) (by kernel_rfl) ?_
      refine blockQ_hit ?_
      refine seqQ_norm ?_
      refine W_seq (by kernel_rfl) ?_
      refine W_run 1 [] [4] [1000] (fr' := [(4, aI (-1 : Int))]) (L' := [(1000, .cells [.dat (.slice .bool) c0])]) (obs := []) (by kernel_rfl) (by kernel_rfl) (by kernel_rfl) allP0 ?_
      refine seqQ_norm ?_
      obtain rfl := Option.some.inj h
      refine W_ret [4] [1000] (fr' := [(4, aI (-1 : Int))]) (L' := [(1000, .cells [.dat (.slice .bool) c0])]) (by kernel_rfl) (by kernel_rfl) ?_
      exact retQ_mk (by kernel_rfl) (by kernel_rfl) (by kernel_rfl)

def slices_ContainsFunc_Lintint_with_name_is_1 (a0 : (List Int)) (c0 : (List Bool)) : Option Bool :=
(slices_IndexFunc_Lintint_with_name_is_1 a0 c0).bind fun r1 =>
some (decide (r1 ≥ (0 : Int)))
theorem slices_ContainsFunc_Lintint_with_name_is_1_ok {a0 : (List Int)} {c0 : (List Bool)} {r : Bool} (h : slices_ContainsFunc_Lintint_with_name_is_1 a0 c0 = some r) : FnC Try.prog 51 [aD (.slice tI) a0, .one (.fn 76 [(1000, 0)])] [(1000, .cells [.dat (.slice .bool) c0])] (aB r) [(1000, .cells [.dat (.slice .bool) c0])] := by
  refine fnC_of_W (B := bodyOf Try.f51) (n := 9) Try.func51 (by kernel_rfl) (by kernel_rfl) (by kernel_rfl) (by kernel_rfl) (by kernel_rfl) ?_
  intro K
  refine W_seq (by kernel_rfl) ?_
  refine W_run 1 [] [0, 1] [1000] (fr' := [(0, aD (.slice tI) a0), (1, .one (.fn 76 [(1000, 0)]))]) (L' := [(1000, .cells [.dat (.slice .bool) c0])]) (obs := []) (by kernel_rfl) (by kernel_rfl) (by kernel_rfl) allP0 ?_
  refine seqQ_norm ?_
  refine W_seq (by kernel_rfl) ?_
  refine W_region (by kernel_rfl) ?_
  refine WO_run (j := 2) (k := 2) (orcs := []) (kF := [5, 6]) (kL := [1000]) (fr' := [(5, aD (.slice tI) a0), (6, .one (.fn 76 [(1000, 0)]))]) (L' := [(1000, .cells [.dat (.slice .bool) c0])]) (obs := []) rfl (by kernel_rfl) allP0 ?_
  obtain ⟨r1, h2, h⟩ := bind_of h
  refine WO_lend [(1000, 1000)] (us := [none, none]) (d := 7) (p := True) (j := 3) rfl ⟨by kernel_rfl, by kernel_rfl, by kernel_rfl⟩ trivial (slices_IndexFunc_Lintint_with_name_is_1_ok h2) (by kernel_rfl) (by kernel_rfl) ?_
  refine WO_run (j := 5) (k := 2) (orcs := []) (kF := [4]) (kL := [1000]) (fr' := [(4, aB (decide (r1 ≥ (0 : Int))))]) (L' := [(1000, .cells [.dat (.slice .bool) c0])]) (obs := []) rfl (by kernel_rfl) allP0 ?_
  refine WO_fin [4] [1000] (fr' := [(4, aB (decide (r1 ≥ (0 : Int))))]) (L' := [(1000, .cells [.dat (.slice .bool) c0])]) (by kernel_rfl) (by kernel_rfl) ?_
  refine seqQ_norm ?_
  obtain rfl := Option.some.inj h
  refine W_ret [4] [1000] (fr' := [(4, aB (decide (r1 ≥ (0 : Int))))]) (L' := [(1000, .cells [.dat (.slice .bool) c0])]) (by kernel_rfl) (by kernel_rfl) ?_
  exact retQ_mk (by kernel_rfl) (by kernel_rfl) (by kernel_rfl)

def name_is_2 (a0 : Int) (c0 : (List Bool)) : Option Bool :=
(idx c0 a0).bind fun v1 =>
some (!v1)
theorem name_is_2_ok {a0 : Int} {c0 : (List Bool)} {r : Bool} (h : name_is_2 a0 c0 = some r) : FnC Try.prog 77 [aI a0, .one (.ptr 1000 0)] [(1000, .cells [.dat (.slice .bool) c0])] (aB r) [(1000, .cells [.dat (.slice .bool) c0])] := by
  refine fnC_of_W (B := bodyOf Try.f77) (n := 9) Try.func77 (by kernel_rfl) (by kernel_rfl) (by kernel_rfl) (by kernel_rfl) (by kernel_rfl) ?_
  intro K
  refine W_seq (by kernel_rfl) ?_
  refine W_run 1 [] [0, 1] [1000] (fr' := [(0, aI a0), (1, .one (.ptr 1000 0))]) (L' := [(1000, .cells [.dat (.slice .bool) c0])]) (obs := []) (by kernel_rfl) (by kernel_rfl) (by kernel_rfl) allP0 ?_
  refine seqQ_norm ?_
  refine W_seq (by kernel_rfl) ?_
  obtain ⟨v1, h2, h⟩ := bind_of h
  refine W_run 6 [(5, .val (.dat .bool v1))] [3] [1000] (fr' := [(3, aB (!v1))]) (L' := [(1000, .cells [.dat (.slice .bool) c0])]) (obs := [Idx c0 a0 v1]) (by kernel_rfl) (by kernel_rfl) (by kernel_rfl) (allP1 (Idx.of h2)) ?_
  refine seqQ_norm ?_
  obtain rfl := Option.some.inj h
  refine W_ret [3] [1000] (fr' := [(3, aB (!v1))]) (L' := [(1000, .cells [.dat (.slice .bool) c0])]) (by kernel_rfl) (by kernel_rfl) ?_
  exact retQ_mk (by kernel_rfl) (by kernel_rfl) (by kernel_rfl)

def slices_IndexFunc_Lintint_with_name_is_2_b1 (c0 : (List Bool)) (i15 : Int) (v18 : Int) (x16 : Unit) : Option (Flow Unit (Esc Int Unit)) :=
(name_is_2 v18 c0).bind fun r21 =>
bif r21 then
(some (.done (.ret i15)))
else
(some (.next ()))
@[reducible] def slices_IndexFunc_Lintint_with_name_is_2_s2 (a0 : (List Int)) (c0 : (List Bool)) (v : Int × Unit) : Fr × LL := ([(0, aD (.slice tI) a0), (1, .one (.fn 77 [(1000, 0)])), (7, aI (List.length a0 : Int)), (8, aI v.1)], [(1000, .cells [.dat (.slice .bool) c0])])
@[reducible] def slices_IndexFunc_Lintint_with_name_is_2_s3 (c0 : (List Bool)) (v : Int) : Fr × LL := ([(4, aI v)], [(1000, .cells [.dat (.slice .bool) c0])])
@[reducible] def slices_IndexFunc_Lintint_with_name_is_2_s4 (c0 : (List Bool)) (v : Unit) : Fr × LL := ([], [(1000, .cells [.dat (.slice .bool) c0])])
def slices_IndexFunc_Lintint_with_name_is_2 (a0 : (List Int)) (c0 : (List Bool)) : Option Int :=
(forL (slices_IndexFunc_Lintint_with_name_is_2_b1 c0) (fun x16 => (.brk ())) a0 0 ()).bind fun v25 =>
match v25 with
| .ret v30 =>
(some v30)
| .brk v31 =>
(some (-1 : Int))
theorem slices_IndexFunc_Lintint_with_name_is_2_ok {a0 : (List Int)} {c0 : (List Bool)} {r : Int} (h : slices_IndexFunc_Lintint_with_name_is_2 a0 c0 = some r) : FnC Try.prog 69 [aD (.slice tI) a0, .one (.fn 77 [(1000, 0)])] [(1000, .cells [.dat (.slice .bool) c0])] (aI r) [(1000, .cells [.dat (.slice .bool) c0])] := by
  refine fnC_of_W (B := bodyOf Try.f69) (n := 19) Try.func69 (by kernel_rfl) (by kernel_rfl) (by kernel_rfl) (by kernel_rfl) (by kernel_rfl) ?_
  intro K
  refine W_seq (by kernel_rfl) ?_
  refine W_run 1 [] [0, 1] [1000] (fr' := [(0, aD (.slice tI) a0), (1, .one (.fn 77 [(1000, 0)]))]) (L' := [(1000, .cells [.dat (.slice .bool) c0])]) (obs := []) (by kernel_rfl) (by kernel_rfl) (by kernel_rfl) allP0 ?_
  refine seqQ_norm ?_
  refine W_seq (by kernel_rfl) ?_
  refine W_seq (by kernel_rfl) ?_
  refine W_run 3 [] [0, 1, 7, 8] [1000] (fr' := [(0, aD (.slice tI) a0), (1, .one (.fn 77 [(1000, 0)])), (7, aI (List.length a0 : Int)), (8, aI (0 : Int))]) (L' := [(1000, .cells [.dat (.slice .bool) c0])]) (obs := []) (by kernel_rfl) (by kernel_rfl) (by kernel_rfl) allP0 ?_
  refine seqQ_norm ?_
  refine W_block (id := 0) (by kernel_rfl) ?_
  obtain ⟨v25, h26, h⟩ := bind_of h
  refine W_len (t := 0) (u := tI) (xs := a0) (by kernel_rfl) (fun h29 => ?_)
  obtain ⟨h27, h28⟩ := forL_iter h29 h26
  refine W_weaken [0, 1, 7, 8] [1000] (fr' := ((slices_IndexFunc_Lintint_with_name_is_2_s2 a0 c0) ((0 : Int), ())).1) (L' := ((slices_IndexFunc_Lintint_with_name_is_2_s2 a0 c0) ((0 : Int), ())).2) (by kernel_rfl) ?_
  refine W_cutK (W_loop (S := (slices_IndexFunc_Lintint_with_name_is_2_s2 a0 c0)) (J := (escQ (exQ .ret (slices_IndexFunc_Lintint_with_name_is_2_s3 c0)) (exQ (.exit 0) (slices_IndexFunc_Lintint_with_name_is_2_s4 c0)))) (by kernel_rfl) ?_ h27 _ v25 h28) ?_
  · rintro ⟨i15, x16⟩ s h
    refine W_seq (by kernel_rfl) ?_
    refine W_run 1 [] [0, 1, 7, 8, 9] [1000] (fr' := [(0, aD (.slice tI) a0), (1, .one (.fn 77 [(1000, 0)])), (7, aI (List.length a0 : Int)), (8, aI i15), (9, aB (decide (i15 < (List.length a0 : Int))))]) (L' := [(1000, .cells [.dat (.slice .bool) c0])]) (obs := []) (by kernel_rfl) (by kernel_rfl) (by kernel_rfl) allP0 ?_
    refine seqQ_norm ?_
    refine W_seq (by kernel_rfl) ?_
    refine W_cond (o := .tmp 9) (b := decide (i15 < (List.length a0 : Int))) (by kernel_rfl) (by kernel_rfl) (fun h20 => ?_) (fun h20 => ?_)
    · replace h := stepL_true h20 h
      obtain ⟨v18, _, h19, h, rfl⟩ := h
      refine W_skip [0, 1, 7, 8] [1000] (fr' := [(0, aD (.slice tI) a0), (1, .one (.fn 77 [(1000, 0)])), (7, aI (List.length a0 : Int)), (8, aI i15)]) (L' := [(1000, .cells [.dat (.slice .bool) c0])]) (by kernel_rfl) (by kernel_rfl) ?_
      refine seqQ_norm ?_
      refine W_seq (by kernel_rfl) ?_
      refine W_block (id := 1) (by kernel_rfl) ?_
      refine W_seq (by kernel_rfl) ?_
      refine W_run 2 [] [0, 1, 5, 7, 8] [1000] (fr' := [(0, aD (.slice tI) a0), (1, .one (.fn 77 [(1000, 0)])), (5, aI i15), (7, aI (List.length a0 : Int)), (8, aI i15)]) (L' := [(1000, .cells [.dat (.slice .bool) c0])]) (obs := []) (by kernel_rfl) (by kernel_rfl) (by kernel_rfl) allP0 ?_
      refine seqQ_norm ?_
      refine W_seq (by kernel_rfl) ?_
      refine W_region (by kernel_rfl) ?_
      refine WO_run (j := 5) (k := 5) (orcs := [(7, .val (.dat tI v18))]) (kF := [0, 1, 5, 7, 8, 11, 15]) (kL := [1000]) (fr' := [(0, aD (.slice tI) a0), (1, .one (.fn 77 [(1000, 0)])), (5, aI i15), (7, aI (List.length a0 : Int)), (8, aI i15), (11, .one (.fn 77 [(1000, 0)])), (15, aI v18)]) (L' := [(1000, .cells [.dat (.slice .bool) c0])]) (obs := [Idx a0 i15 v18]) rfl (by kernel_rfl) (allP1 (Idx.of h19)) ?_
      obtain ⟨r21, h22, h⟩ := bind_of h
      refine WO_lend [(1000, 1000)] (us := [none, none]) (d := 16) (p := True) (j := 6) rfl ⟨by kernel_rfl, by kernel_rfl, by kernel_rfl⟩ trivial (name_is_2_ok h22) (by kernel_rfl) (by kernel_rfl) ?_
      refine WO_fin [0, 1, 5, 7, 8, 16] [1000] (fr' := [(0, aD (.slice tI) a0), (1, .one (.fn 77 [(1000, 0)])), (5, aI i15), (7, aI (List.length a0 : Int)), (8, aI i15), (16, aB r21)]) (L' := [(1000, .cells [.dat (.slice .bool) c0])]) (by kernel_rfl) (by kernel_rfl) ?_
      refine seqQ_norm ?_
      refine W_cond (o := .tmp 16) (b := r21) (by kernel_rfl) (by kernel_rfl) (fun h23 => ?_) (fun h23 => ?_)
      · replace h := ofT h23 h
        refine W_seq (by kernel_rfl) ?_
        refine W_run 2 [] [4] [1000] (fr' := [(4, aI i15)]) (L' := [(1000, .cells [.dat (.slice .bool) c0])]) (obs := []) (by kernel_rfl) (by kernel_rfl) (by kernel_rfl) allP0 ?_
        refine seqQ_norm ?_
        obtain rfl := Option.some.inj h
        refine W_ret [4] [1000] (fr' := [(4, aI i15)]) (L' := [(1000, .cells [.dat (.slice .bool) c0])]) (by kernel_rfl) (by kernel_rfl) ?_
        refine blockQ_ret ?_
        refine seqQ_ret ?_
        refine round_ret ?_
        refine escQ_ret ?_
        exact exQ_mk (by kernel_rfl) (by kernel_rfl)
      · replace h := ofF h23 h
        refine W_skip [0, 1, 7, 8] [1000] (fr' := [(0, aD (.slice tI) a0), (1, .one (.fn 77 [(1000, 0)])), (7, aI (List.length a0 : Int)), (8, aI i15)]) (L' := [(1000, .cells [.dat (.slice .bool) c0])]) (by kernel_rfl) (by kernel_rfl) ?_
        refine blockQ_norm ?_
        refine seqQ_norm ?_
        obtain rfl := Option.some.inj h
        refine W_run 2 [] [0, 1, 7, 8] [1000] (fr' := [(0, aD (.slice tI) a0), (1, .one (.fn 77 [(1000, 0)])), (7, aI (List.length a0 : Int)), (8, aI (w64 (i15 + (1 : Int))))]) (L' := [(1000, .cells [.dat (.slice .bool) c0])]) (obs := []) (by kernel_rfl) (by kernel_rfl) (by kernel_rfl) allP0 ?_
        exact round_next' (by kernel_rfl) (by kernel_rfl)
    · obtain rfl := stepL_false h20 h
      refine W_exit (id := 0) [] [1000] (fr' := []) (L' := [(1000, .cells [.dat (.slice .bool) c0])]) (by kernel_rfl) (by kernel_rfl) ?_
      refine seqQ_exit ?_
      refine round_exit ?_
      refine escQ_brk ?_
      exact exQ_mk (by kernel_rfl) (by kernel_rfl)
  · intro e fr L hJ
    rcases v25 with v30 | v31
    · obtain ⟨rfl, rfl, rfl⟩ := hJ
      obtain rfl := Option.some.inj h
      refine LT_keep [4] [1000] (fr' := [(4, aI v30)]) (L' := [(1000, .cells [.dat (.slice .bool) c0])]) (by kernel_rfl) ?_
      refine blockQ_ret ?_
      refine seqQ_ret ?_
      exact retQ_mk (by kernel_rfl) (by kernel_rfl) (by kernel_rfl)
    · obtain ⟨rfl, rfl, rfl⟩ := hJ
      refine LT_keep [] [1000] (fr' := []) (L' := [(1000, .cells [.dat (.slice .bool) c0])]) (by kernel_rfl) ?_
      refine blockQ_hit ?_
      refine seqQ_norm ?_
      refine W_seq (by kernel_rfl) ?_
      refine W_run 1 [] [4] [1000] (fr' := [(4, aI (-1 : Int))]) (L' := [(1000, .cells [.dat (.slice .bool) c0])]) (obs := []) (by kernel_rfl) (by kernel_rfl) (by kernel_rfl) allP0 ?_
      refine seqQ_norm ?_
      obtain rfl := Option.some.inj h
      refine W_ret [4] [1000] (fr' := [(4, aI (-1 : Int))]) (L' := [(1000, .cells [.dat (.slice .bool) c0])]) (by kernel_rfl) (by kernel_rfl) ?_
      exact retQ_mk (by kernel_rfl) (by kernel_rfl) (by kernel_rfl)

def slices_ContainsFunc_Lintint_with_name_is_2 (a0 : (List Int)) (c0 : (List Bool)) : Option Bool :=
(slices_IndexFunc_Lintint_with_name_is_2 a0 c0).bind fun r1 =>
some (decide (r1 ≥ (0 : Int)))
theorem slices_ContainsFunc_Lintint_with_name_is_2_ok {a0 : (List Int)} {c0 : (List Bool)} {r : Bool} (h : slices_ContainsFunc_Lintint_with_name_is_2 a0 c0 = some r) : FnC Try.prog 51 [aD (.slice tI) a0, .one (.fn 77 [(1000, 0)])] [(1000, .cells [.dat (.slice .bool) c0])] (aB r) [(1000, .cells [.dat (.slice .bool) c0])] := by
  refine fnC_of_W (B := bodyOf Try.f51) (n := 9) Try.func51 (by kernel_rfl) (by kernel_rfl) (by kernel_rfl) (by kernel_rfl) (by kernel_rfl) ?_
  intro K
  refine W_seq (by kernel_rfl) ?_
  refine W_run 1 [] [0, 1] [1000] (fr' := [(0, aD (.slice tI) a0), (1, .one (.fn 77 [(1000, 0)]))]) (L' := [(1000, .cells [.dat (.slice .bool) c0])]) (obs := []) (by kernel_rfl) (by kernel_rfl) (by kernel_rfl) allP0 ?_
  refine seqQ_norm ?_
  refine W_seq (by kernel_rfl) ?_
  refine W_region (by kernel_rfl) ?_
  refine WO_run (j := 2) (k := 2) (orcs := []) (kF := [5, 6]) (kL := [1000]) (fr' := [(5, aD (.slice tI) a0), (6, .one (.fn 77 [(1000, 0)]))]) (L' := [(1000, .cells [.dat (.slice .bool) c0])]) (obs := []) rfl (by kernel_rfl) allP0 ?_
  obtain ⟨r1, h2, h⟩ := bind_of h
  refine WO_lend [(1000, 1000)] (us := [none, none]) (d := 7) (p := True) (j := 3) rfl ⟨by kernel_rfl, by kernel_rfl, by kernel_rfl⟩ trivial (slices_IndexFunc_Lintint_with_name_is_2_ok h2) (by kernel_rfl) (by kernel_rfl) ?_
  refine WO_run (j := 5) (k := 2) (orcs := []) (kF := [4]) (kL := [1000]) (fr' := [(4, aB (decide (r1 ≥ (0 : Int))))]) (L' := [(1000, .cells [.dat (.slice .bool) c0])]) (obs := []) rfl (by kernel_rfl) allP0 ?_
  refine WO_fin [4] [1000] (fr' := [(4, aB (decide (r1 ≥ (0 : Int))))]) (L' := [(1000, .cells [.dat (.slice .bool) c0])]) (by kernel_rfl) (by kernel_rfl) ?_
  refine seqQ_norm ?_
  obtain rfl := Option.some.inj h
  refine W_ret [4] [1000] (fr' := [(4, aB (decide (r1 ≥ (0 : Int))))]) (L' := [(1000, .cells [.dat (.slice .bool) c0])]) (by kernel_rfl) (by kernel_rfl) ?_
  exact retQ_mk (by kernel_rfl) (by kernel_rfl) (by kernel_rfl)

def name_is_b1 (a1 : (List Bool)) (i19 : Int) (v22 : ((List Int) × (List Int))) (x20 : Unit) : Option (Flow Unit (Esc Bool Unit)) :=
(slices_ContainsFunc_Lintint_with_name_is_1 v22.1 a1).bind fun r25 =>
(slices_ContainsFunc_Lintint_with_name_is_2 v22.2 a1).bind fun r27 =>
bif (!r25) && (!r27) then
(some (.done (.ret false)))
else
(some (.next ()))
@[reducible] def name_is_s2 (a0 : (List ((List Int) × (List Int)))) (a1 : (List Bool)) (v : Int × Unit) : Fr × LL := ([(3, .one (.ptr 3 0)), (9, aD (.slice (.pair (.slice tI) (.slice tI))) a0), (10, aI (List.length a0 : Int)), (11, aI v.1)], [(3, .cells [.dat (.slice .bool) a1])])
@[reducible] def name_is_s3 (v : Bool) : Fr × LL := ([(4, aB v)], [])
@[reducible] def name_is_s4 (v : Unit) : Fr × LL := ([], [])
def name_is (a0 : (List ((List Int) × (List Int)))) (a1 : (List Bool)) : Option Bool :=
(forL (name_is_b1 a1) (fun x20 => (.brk ())) a0 0 ()).bind fun v31 =>
match v31 with
| .ret v36 =>
(some v36)
| .brk v37 =>
(some true)
theorem name_is_ok {a0 : (List ((List Int) × (List Int)))} {a1 : (List Bool)} {r : Bool} (h : name_is a0 a1 = some r) : FnC Try.prog 68 [aD (.slice (.pair (.slice tI) (.slice tI))) a0, aD (.slice .bool) a1] [] (aB r) [] := by
  refine fnC_of_W (B := bodyOf Try.f68) (n := 30) Try.func68 (by kernel_rfl) (by kernel_rfl) (by kernel_rfl) (by kernel_rfl) (by kernel_rfl) ?_
  intro K
  refine W_seq (by kernel_rfl) ?_
  refine W_run 2 [] [0, 3] [3] (fr' := [(0, aD (.slice (.pair (.slice tI) (.slice tI))) a0), (3, .one (.ptr 3 0))]) (L' := [(3, .cells [.dat (.slice .bool) a1])]) (obs := []) (by kernel_rfl) (by kernel_rfl) (by kernel_rfl) allP0 ?_
  refine seqQ_norm ?_
  refine W_seq (by kernel_rfl) ?_
  refine W_seq (by kernel_rfl) ?_
  refine W_run 3 [] [3, 9, 10, 11] [3] (fr' := [(3, .one (.ptr 3 0)), (9, aD (.slice (.pair (.slice tI) (.slice tI))) a0), (10, aI (List.length a0 : Int)), (11, aI (0 : Int))]) (L' := [(3, .cells [.dat (.slice .bool) a1])]) (obs := []) (by kernel_rfl) (by kernel_rfl) (by kernel_rfl) allP0 ?_
  refine seqQ_norm ?_
  refine W_block (id := 0) (by kernel_rfl) ?_
  obtain ⟨v31, h32, h⟩ := bind_of h
  refine W_len (t := 9) (u := (.pair (.slice tI) (.slice tI))) (xs := a0) (by kernel_rfl) (fun h35 => ?_)
  obtain ⟨h33, h34⟩ := forL_iter h35 h32
  refine W_weaken [3, 9, 10, 11] [3] (fr' := ((name_is_s2 a0 a1) ((0 : Int), ())).1) (L' := ((name_is_s2 a0 a1) ((0 : Int), ())).2) (by kernel_rfl) ?_
  refine W_cutK (W_loop (S := (name_is_s2 a0 a1)) (J := (escQ (exQ .ret name_is_s3) (exQ (.exit 0) name_is_s4))) (by kernel_rfl) ?_ h33 _ v31 h34) ?_
  · rintro ⟨i19, x20⟩ s h
    refine W_seq (by kernel_rfl) ?_
    refine W_run 1 [] [3, 9, 10, 11, 12] [3] (fr' := [(3, .one (.ptr 3 0)), (9, aD (.slice (.pair (.slice tI) (.slice tI))) a0), (10, aI (List.length a0 : Int)), (11, aI i19), (12, aB (decide (i19 < (List.length a0 : Int))))]) (L' := [(3, .cells [.dat (.slice .bool) a1])]) (obs := []) (by kernel_rfl) (by kernel_rfl) (by kernel_rfl) allP0 ?_
    refine seqQ_norm ?_
    refine W_seq (by kernel_rfl) ?_
    refine W_cond (o := .tmp 12) (b := decide (i19 < (List.length a0 : Int))) (by kernel_rfl) (by kernel_rfl) (fun h24 => ?_) (fun h24 => ?_)
    · replace h := stepL_true h24 h
      obtain ⟨v22, _, h23, h, rfl⟩ := h
      refine W_skip [3, 9, 10, 11] [3] (fr' := [(3, .one (.ptr 3 0)), (9, aD (.slice (.pair (.slice tI) (.slice tI))) a0), (10, aI (List.length a0 : Int)), (11, aI i19)]) (L' := [(3, .cells [.dat (.slice .bool) a1])]) (by kernel_rfl) (by kernel_rfl) ?_
      refine seqQ_norm ?_
      refine W_seq (by kernel_rfl) ?_
      refine W_block (id := 1) (by kernel_rfl) ?_
      refine W_seq (by kernel_rfl) ?_
      refine W_run 4 [(1, .val (.dat (.pair (.slice tI) (.slice tI)) v22)), (5, .typed)] [3, 6, 9, 10, 11] [3, 6] (fr' := [(3, .one (.ptr 3 0)), (6, .one (.ptr 6 0)), (9, aD (.slice (.pair (.slice tI) (.slice tI))) a0), (10, aI (List.length a0 : Int)), (11, aI i19)]) (L' := [(3, .cells [.dat (.slice .bool) a1]), (6, .one (.pair (.slice tI) (.slice tI)) v22)]) (obs := [Idx a0 i19 v22, True]) (by kernel_rfl) (by kernel_rfl) (by kernel_rfl) (allP2 (Idx.of h23) (allP1 trivial)) ?_
      refine seqQ_norm ?_
      refine W_seq (by kernel_rfl) ?_
      refine W_region (by kernel_rfl) ?_
      refine WO_run (j := 3) (k := 3) (orcs := []) (kF := [3, 6, 9, 10, 11, 16, 17]) (kL := [3, 6]) (fr' := [(3, .one (.ptr 3 0)), (6, .one (.ptr 6 0)), (9, aD (.slice (.pair (.slice tI) (.slice tI))) a0), (10, aI (List.length a0 : Int)), (11, aI i19), (16, aD (.slice tI) v22.1), (17, .one (.fn 76 [(3, 0)]))]) (L' := [(3, .cells [.dat (.slice .bool) a1]), (6, .one (.pair (.slice tI) (.slice tI)) v22)]) (obs := []) rfl (by kernel_rfl) allP0 ?_
      obtain ⟨r25, h26, h⟩ := bind_of h
      refine WO_lend [(1000, 3)] (us := [none, none]) (d := 18) (p := True) (j := 4) rfl ⟨by kernel_rfl, by kernel_rfl, by kernel_rfl⟩ trivial (slices_ContainsFunc_Lintint_with_name_is_1_ok h26) (by kernel_rfl) (by kernel_rfl) ?_
      refine WO_run (j := 5) (k := 1) (orcs := []) (kF := [3, 6, 7, 9, 10, 11]) (kL := [3, 6]) (fr' := [(3, .one (.ptr 3 0)), (6, .one (.ptr 6 0)), (7, aB r25), (9, aD (.slice (.pair (.slice tI) (.slice tI))) a0), (10, aI (List.length a0 : Int)), (11, aI i19)]) (L' := [(3, .cells [.dat (.slice .bool) a1]), (6, .one (.pair (.slice tI) (.slice tI)) v22)]) (obs := []) rfl (by kernel_rfl) allP0 ?_
      refine WO_fin [3, 6, 7, 9, 10, 11] [3, 6] (fr' := [(3, .one (.ptr 3 0)), (6, .one (.ptr 6 0)), (7, aB r25), (9, aD (.slice (.pair (.slice tI) (.slice tI))) a0), (10, aI (List.length a0 : Int)), (11, aI i19)]) (L' := [(3, .cells [.dat (.slice .bool) a1]), (6, .one (.pair (.slice tI) (.slice tI)) v22)]) (by kernel_rfl) (by kernel_rfl) ?_
      refine seqQ_norm ?_
      refine W_seq (by kernel_rfl) ?_
      refine W_region (by kernel_rfl) ?_
      refine WO_run (j := 3) (k := 3) (orcs := []) (kF := [3, 7, 9, 10, 11, 20, 21]) (kL := [3, 6]) (fr' := [(3, .one (.ptr 3 0)), (7, aB r25), (9, aD (.slice (.pair (.slice tI) (.slice tI))) a0), (10, aI (List.length a0 : Int)), (11, aI i19), (20, aD (.slice tI) v22.2), (21, .one (.fn 77 [(3, 0)]))]) (L' := [(3, .cells [.dat (.slice .bool) a1]), (6, .one (.pair (.slice tI) (.slice tI)) v22)]) (obs := []) rfl (by kernel_rfl) allP0 ?_
      obtain ⟨r27, h28, h⟩ := bind_of h
      refine WO_lend [(1000, 3)] (us := [none, none]) (d := 22) (p := True) (j := 4) rfl ⟨by kernel_rfl, by kernel_rfl, by kernel_rfl⟩ trivial (slices_ContainsFunc_Lintint_with_name_is_2_ok h28) (by kernel_rfl) (by kernel_rfl) ?_
      refine WO_run (j := 5) (k := 1) (orcs := []) (kF := [3, 7, 8, 9, 10, 11]) (kL := [3, 6]) (fr' := [(3, .one (.ptr 3 0)), (7, aB r25), (8, aB r27), (9, aD (.slice (.pair (.slice tI) (.slice tI))) a0), (10, aI (List.length a0 : Int)), (11, aI i19)]) (L' := [(3, .cells [.dat (.slice .bool) a1]), (6, .one (.pair (.slice tI) (.slice tI)) v22)]) (obs := []) rfl (by kernel_rfl) allP0 ?_
      refine WO_fin [3, 7, 8, 9, 10, 11] [3] (fr' := [(3, .one (.ptr 3 0)), (7, aB r25), (8, aB r27), (9, aD (.slice (.pair (.slice tI) (.slice tI))) a0), (10, aI (List.length a0 : Int)), (11, aI i19)]) (L' := [(3, .cells [.dat (.slice .bool) a1])]) (by kernel_rfl) (by kernel_rfl) ?_
      refine seqQ_norm ?_
      refine W_seq (by kernel_rfl) ?_
      refine W_run 6 [] [3, 9, 10, 11, 28] [3] (fr' := [(3, .one (.ptr 3 0)), (9, aD (.slice (.pair (.slice tI) (.slice tI))) a0), (10, aI (List.length a0 : Int)), (11, aI i19), (28, aB ((!r25) && (!r27)))]) (L' := [(3, .cells [.dat (.slice .bool) a1])]) (obs := []) (by kernel_rfl) (by kernel_rfl) (by kernel_rfl) allP0 ?_
      refine seqQ_norm ?_
      refine W_cond (o := .tmp 28) (b := (!r25) && (!r27)) (by kernel_rfl) (by kernel_rfl) (fun h29 => ?_) (fun h29 => ?_)
      · replace h := ofT h29 h
        refine W_seq (by kernel_rfl) ?_
        refine W_run 1 [] [4] [] (fr' := [(4, aB false)]) (L' := []) (obs := []) (by kernel_rfl) (by kernel_rfl) (by kernel_rfl) allP0 ?_
        refine seqQ_norm ?_
        obtain rfl := Option.some.inj h
        refine W_ret [4] [] (fr' := [(4, aB false)]) (L' := []) (by kernel_rfl) (by kernel_rfl) ?_
        refine blockQ_ret ?_
        refine seqQ_ret ?_
        refine round_ret ?_
        refine escQ_ret ?_
        exact exQ_mk (by kernel_rfl) (by kernel_rfl)
      · replace h := ofF h29 h
        refine W_skip [3, 9, 10, 11] [3] (fr' := [(3, .one (.ptr 3 0)), (9, aD (.slice (.pair (.slice tI) (.slice tI))) a0), (10, aI (List.length a0 : Int)), (11, aI i19)]) (L' := [(3, .cells [.dat (.slice .bool) a1])]) (by kernel_rfl) (by kernel_rfl) ?_
        refine blockQ_norm ?_
        refine seqQ_norm ?_
        obtain rfl := Option.some.inj h
        refine W_run 2 [] [3, 9, 10, 11] [3] (fr' := [(3, .one (.ptr 3 0)), (9, aD (.slice (.pair (.slice tI) (.slice tI))) a0), (10, aI (List.length a0 : Int)), (11, aI (w64 (i19 + (1 : Int))))]) (L' := [(3, .cells [.dat (.slice .bool) a1])]) (obs := []) (by kernel_rfl) (by kernel_rfl) (by kernel_rfl) allP0 ?_
        exact round_next' (by kernel_rfl) (by kernel_rfl)
    · obtain rfl := stepL_false h24 h
      refine W_exit (id := 0) [] [] (fr' := []) (L' := []) (by kernel_rfl) (by kernel_rfl) ?_
      refine seqQ_exit ?_
      refine round_exit ?_
      refine escQ_brk ?_
      exact exQ_mk (by kernel_rfl) (by kernel_rfl)
  · intro e fr L hJ
    rcases v31 with v36 | v37
    · obtain ⟨rfl, rfl, rfl⟩ := hJ
      obtain rfl := Option.some.inj h
      refine LT_keep [4] [] (fr' := [(4, aB v36)]) (L' := []) (by kernel_rfl) ?_
      refine blockQ_ret ?_
      refine seqQ_ret ?_
      exact retQ_mk (by kernel_rfl) (by kernel_rfl) (by kernel_rfl)
    · obtain ⟨rfl, rfl, rfl⟩ := hJ
      refine LT_keep [] [] (fr' := []) (L' := []) (by kernel_rfl) ?_
      refine blockQ_hit ?_
      refine seqQ_norm ?_
      refine W_seq (by kernel_rfl) ?_
      refine W_run 1 [] [4] [] (fr' := [(4, aB true)]) (L' := []) (obs := []) (by kernel_rfl) (by kernel_rfl) (by kernel_rfl) allP0 ?_
      refine seqQ_norm ?_
      obtain rfl := Option.some.inj h
      refine W_ret [4] [] (fr' := [(4, aB true)]) (L' := []) (by kernel_rfl) (by kernel_rfl) ?_
      exact retQ_mk (by kernel_rfl) (by kernel_rfl) (by kernel_rfl)

def name_True (a0 : Int) (a1 : (List ((List Int) × (List Int)))) (a2 : (List Bool)) : Option (Bool × Int) :=
(name_wrong a0 (200 : Int) a1).bind fun r1 =>
bif r1 != (0 : Int) then
(some (false, r1))
else
(bif (List.length a2 : Int) != a0 then
(some (false, (3 : Int)))
else
((name_is a1 a2).bind fun r5 =>
some (r5, (0 : Int))))
theorem name_True_ok {a0 : Int} {a1 : (List ((List Int) × (List Int)))} {a2 : (List Bool)} {r : (Bool × Int)} (h : name_True a0 a1 a2 = some r) : FnC Try.prog 48 [aI a0, aD (.slice (.pair (.slice tI) (.slice tI))) a1, aD (.slice .bool) a2] [] (.tup [.dat .bool r.1, .dat tI r.2]) [] := by
  refine fnC_of_W (B := bodyOf Try.f48) (n := 22) Try.func48 (by kernel_rfl) (by kernel_rfl) (by kernel_rfl) (by kernel_rfl) (by kernel_rfl) ?_
  intro K
  refine W_seq (by kernel_rfl) ?_
  refine W_run 2 [] [0, 1, 2] [] (fr' := [(0, aI a0), (1, aD (.slice (.pair (.slice tI) (.slice tI))) a1), (2, aD (.slice .bool) a2)]) (L' := []) (obs := []) (by kernel_rfl) (by kernel_rfl) (by kernel_rfl) allP0 ?_
  refine seqQ_norm ?_
  refine W_seq (by kernel_rfl) ?_
  refine W_seq (by kernel_rfl) ?_
  refine W_region (by kernel_rfl) ?_
  refine WO_run (j := 2) (k := 2) (orcs := []) (kF := [0, 1, 2, 9, 10]) (kL := []) (fr' := [(0, aI a0), (1, aD (.slice (.pair (.slice tI) (.slice tI))) a1), (2, aD (.slice .bool) a2), (9, aI a0), (10, aD (.slice (.pair (.slice tI) (.slice tI))) a1)]) (L' := []) (obs := []) rfl (by kernel_rfl) allP0 ?_
  obtain ⟨r1, h2, h⟩ := bind_of h
  refine WO_call0 (us := [none, none, none]) (d := 11) (p := True) (j := 3) rfl ⟨by kernel_rfl, by kernel_rfl, by kernel_rfl⟩ trivial (name_wrong_ok h2) (by kernel_rfl) ?_
  refine WO_run (j := 4) (k := 1) (orcs := []) (kF := [0, 1, 2, 8]) (kL := []) (fr' := [(0, aI a0), (1, aD (.slice (.pair (.slice tI) (.slice tI))) a1), (2, aD (.slice .bool) a2), (8, aI r1)]) (L' := []) (obs := []) rfl (by kernel_rfl) allP0 ?_
  refine WO_fin [0, 1, 2, 8] [] (fr' := [(0, aI a0), (1, aD (.slice (.pair (.slice tI) (.slice tI))) a1), (2, aD (.slice .bool) a2), (8, aI r1)]) (L' := []) (by kernel_rfl) (by kernel_rfl) ?_
  refine seqQ_norm ?_
  refine W_seq (by kernel_rfl) ?_
  refine W_run 2 [] [0, 1, 2, 8, 13] [] (fr' := [(0, aI a0), (1, aD (.slice (.pair (.slice tI) (.slice tI))) a1), (2, aD (.slice .bool) a2), (8, aI r1), (13, aB (r1 != (0 : Int)))]) (L' := []) (obs := []) (by kernel_rfl) (by kernel_rfl) (by kernel_rfl) allP0 ?_
  refine seqQ_norm ?_
  refine W_cond (o := .tmp 13) (b := r1 != (0 : Int)) (by kernel_rfl) (by kernel_rfl) (fun h3 => ?_) (fun h3 => ?_)
  · replace h := ofT h3 h
    refine W_seq (by kernel_rfl) ?_
    refine W_run 3 [] [6, 7] [] (fr' := [(6, aB false), (7, aI r1)]) (L' := []) (obs := []) (by kernel_rfl) (by kernel_rfl) (by kernel_rfl) allP0 ?_
    refine seqQ_norm ?_
    obtain rfl := Option.some.inj h
    refine W_ret [6, 7] [] (fr' := [(6, aB false), (7, aI r1)]) (L' := []) (by kernel_rfl) (by kernel_rfl) ?_
    refine seqQ_ret ?_
    exact retQ_mk (by kernel_rfl) (by kernel_rfl) (by kernel_rfl)
  · replace h := ofF h3 h
    refine W_skip [0, 1, 2] [] (fr' := [(0, aI a0), (1, aD (.slice (.pair (.slice tI) (.slice tI))) a1), (2, aD (.slice .bool) a2)]) (L' := []) (by kernel_rfl) (by kernel_rfl) ?_
    refine seqQ_norm ?_
    refine W_seq (by kernel_rfl) ?_
    refine W_seq (by kernel_rfl) ?_
    refine W_run 4 [] [1, 2, 18] [] (fr' := [(1, aD (.slice (.pair (.slice tI) (.slice tI))) a1), (2, aD (.slice .bool) a2), (18, aB ((List.length a2 : Int) != a0))]) (L' := []) (obs := []) (by kernel_rfl) (by kernel_rfl) (by kernel_rfl) allP0 ?_
    refine seqQ_norm ?_
    refine W_cond (o := .tmp 18) (b := (List.length a2 : Int) != a0) (by kernel_rfl) (by kernel_rfl) (fun h4 => ?_) (fun h4 => ?_)
    · replace h := ofT h4 h
      refine W_seq (by kernel_rfl) ?_
      refine W_run 2 [] [6, 7] [] (fr' := [(6, aB false), (7, aI (3 : Int))]) (L' := []) (obs := []) (by kernel_rfl) (by kernel_rfl) (by kernel_rfl) allP0 ?_
      refine seqQ_norm ?_
      obtain rfl := Option.some.inj h
      refine W_ret [6, 7] [] (fr' := [(6, aB false), (7, aI (3 : Int))]) (L' := []) (by kernel_rfl) (by kernel_rfl) ?_
      refine seqQ_ret ?_
      exact retQ_mk (by kernel_rfl) (by kernel_rfl) (by kernel_rfl)
    · replace h := ofF h4 h
      refine W_skip [1, 2] [] (fr' := [(1, aD (.slice (.pair (.slice tI) (.slice tI))) a1), (2, aD (.slice .bool) a2)]) (L' := []) (by kernel_rfl) (by kernel_rfl) ?_
      refine seqQ_norm ?_
      refine W_seq (by kernel_rfl) ?_
      refine W_region (by kernel_rfl) ?_
      refine WO_run (j := 2) (k := 2) (orcs := []) (kF := [19, 20]) (kL := []) (fr' := [(19, aD (.slice (.pair (.slice tI) (.slice tI))) a1), (20, aD (.slice .bool) a2)]) (L' := []) (obs := []) rfl (by kernel_rfl) allP0 ?_
      obtain ⟨r5, h6, h⟩ := bind_of h
      refine WO_call0 (us := [none, none]) (d := 21) (p := True) (j := 3) rfl ⟨by kernel_rfl, by kernel_rfl, by kernel_rfl⟩ trivial (name_is_ok h6) (by kernel_rfl) ?_
      refine WO_run (j := 5) (k := 2) (orcs := []) (kF := [6, 7]) (kL := []) (fr' := [(6, aB r5), (7, aI (0 : Int))]) (L' := []) (obs := []) rfl (by kernel_rfl) allP0 ?_
      refine WO_fin [6, 7] [] (fr' := [(6, aB r5), (7, aI (0 : Int))]) (L' := []) (by kernel_rfl) (by kernel_rfl) ?_
      refine seqQ_norm ?_
      obtain rfl := Option.some.inj h
      refine W_ret [6, 7] [] (fr' := [(6, aB r5), (7, aI (0 : Int))]) (L' := []) (by kernel_rfl) (by kernel_rfl) ?_
      exact retQ_mk (by kernel_rfl) (by kernel_rfl) (by kernel_rfl)

def all_wrong (a0 : (List Bool)) (a1 : (List ((List Int) × (List Int)))) : Option Int :=
bif (decide ((List.length a0 : Int) > (8 : Int))) || (decide ((List.length a1 : Int) > (12 : Int))) then
(some (1 : Int))
else
((ck (0 ≤ (List.length a0 : Int) ∧ (List.length a0 : Int) = (List.length a0 : Int) ∧ (List.length a0 : Int) ≤ 4294967296)).bind fun _ =>
(name_True (List.length a0 : Int) a1 (List.replicate (Int.toNat (List.length a0 : Int)) false)).bind fun r3 =>
some r3.2)
theorem all_wrong_ok {a0 : (List Bool)} {a1 : (List ((List Int) × (List Int)))} {r : Int} (h : all_wrong a0 a1 = some r) : FnC Try.prog 45 [aD (.slice .bool) a0, aD (.slice (.pair (.slice tI) (.slice tI))) a1] [] (aI r) [] := by
  refine fnC_of_W (B := bodyOf Try.f45) (n := 26) Try.func45 (by kernel_rfl) (by kernel_rfl) (by kernel_rfl) (by kernel_rfl) (by kernel_rfl) ?_
  intro K
  refine W_seq (by kernel_rfl) ?_
  refine W_run 1 [] [0, 1] [] (fr' := [(0, aD (.slice .bool) a0), (1, aD (.slice (.pair (.slice tI) (.slice tI))) a1)]) (L' := []) (obs := []) (by kernel_rfl) (by kernel_rfl) (by kernel_rfl) allP0 ?_
  refine seqQ_norm ?_
  refine W_seq (by kernel_rfl) ?_
  refine W_seq (by kernel_rfl) ?_
  refine W_run 8 [] [0, 1, 14] [] (fr' := [(0, aD (.slice .bool) a0), (1, aD (.slice (.pair (.slice tI) (.slice tI))) a1), (14, aB ((decide ((List.length a0 : Int) > (8 : Int))) || (decide ((List.length a1 : Int) > (12 : Int)))))]) (L' := []) (obs := []) (by kernel_rfl) (by kernel_rfl) (by kernel_rfl) allP0 ?_
  refine seqQ_norm ?_
  refine W_cond (o := .tmp 14) (b := (decide ((List.length a0 : Int) > (8 : Int))) || (decide ((List.length a1 : Int) > (12 : Int)))) (by kernel_rfl) (by kernel_rfl) (fun h1 => ?_) (fun h1 => ?_)
  · replace h := ofT h1 h
    refine W_seq (by kernel_rfl) ?_
    refine W_run 1 [] [4] [] (fr' := [(4, aI (1 : Int))]) (L' := []) (obs := []) (by kernel_rfl) (by kernel_rfl) (by kernel_rfl) allP0 ?_
    refine seqQ_norm ?_
    obtain rfl := Option.some.inj h
    refine W_ret [4] [] (fr' := [(4, aI (1 : Int))]) (L' := []) (by kernel_rfl) (by kernel_rfl) ?_
    refine seqQ_ret ?_
    exact retQ_mk (by kernel_rfl) (by kernel_rfl) (by kernel_rfl)
  · replace h := ofF h1 h
    refine W_skip [0, 1] [] (fr' := [(0, aD (.slice .bool) a0), (1, aD (.slice (.pair (.slice tI) (.slice tI))) a1)]) (L' := []) (by kernel_rfl) (by kernel_rfl) ?_
    refine seqQ_norm ?_
    refine W_seq (by kernel_rfl) ?_
    obtain ⟨_, h2, h⟩ := bind_of h
    replace h2 := ck_some h2
    refine W_region (by kernel_rfl) ?_
    refine WO_run (j := 6) (k := 6) (orcs := []) (kF := [17, 18, 21]) (kL := [21]) (fr' := [(17, aI (List.length a0 : Int)), (18, aD (.slice (.pair (.slice tI) (.slice tI))) a1), (21, .one (.slc 21))]) (L' := [(21, .seq .bool (List.replicate (Int.toNat (List.length a0 : Int)) false))]) (obs := [0 ≤ (List.length a0 : Int) ∧ (List.length a0 : Int) = (List.length a0 : Int) ∧ SmallLen (List.length a0 : Int)]) rfl (by kernel_rfl) (allP1 h2) ?_
    obtain ⟨r3, h4, h⟩ := bind_of h
    refine WO_frz 21 (by kernel_rfl) ?_
    refine WO_call0 (us := [none, none, none]) (d := 22) (p := True) (j := 7) rfl ⟨by kernel_rfl, by kernel_rfl, by kernel_rfl⟩ trivial (name_True_ok h4) (by kernel_rfl) ?_
    refine WO_run (j := 12) (k := 5) (orcs := []) (kF := [6]) (kL := []) (fr' := [(6, aI r3.2)]) (L' := []) (obs := []) rfl (by kernel_rfl) allP0 ?_
    refine WO_fin [6] [] (fr' := [(6, aI r3.2)]) (L' := []) (by kernel_rfl) (by kernel_rfl) ?_
    refine seqQ_norm ?_
    refine W_seq (by kernel_rfl) ?_
    refine W_run 2 [] [4] [] (fr' := [(4, aI r3.2)]) (L' := []) (obs := []) (by kernel_rfl) (by kernel_rfl) (by kernel_rfl) allP0 ?_
    refine seqQ_norm ?_
    obtain rfl := Option.some.inj h
    refine W_ret [4] [] (fr' := [(4, aI r3.2)]) (L' := []) (by kernel_rfl) (by kernel_rfl) ?_
    exact retQ_mk (by kernel_rfl) (by kernel_rfl) (by kernel_rfl)

def all_game_wins_b1 (a0 : ((List Bool) × (List ((List Int) × (List Int))))) (a1 : (List Bool)) (v4 : Bool) (rf_all_game_wins : ((List Bool) × (List ((List Int) × (List Int)))) → (List Bool) → Option Bool) (i22 : Int) (x23 : Unit) : Option (Flow Unit (Esc Bool Unit)) :=
(idx [false, true] i22).bind fun v26 =>
(ck (0 ≤ (0 : Int) ∧ (0 : Int) ≤ (List.length a1 : Int) ∧ (List.length a1 : Int) ≤ (List.length a1 : Int) ∧ (List.length a1 : Int) = (List.length a1 : Int))).bind fun _ =>
(ck ((List.length (sub a1 (0 : Int) (List.length a1 : Int)) : Int) + 1 ≤ 4294967296)).bind fun _ =>
(rf_all_game_wins a0 ((sub a1 (0 : Int) (List.length a1 : Int)) ++ [v26])).bind fun r30 =>
bif r30 == v4 then
(some (.done (.ret v4)))
else
(some (.next ()))
@[reducible] def all_game_wins_s2 (a0 : ((List Bool) × (List ((List Int) × (List Int))))) (a1 : (List Bool)) (v4 : Bool) (v : Int × Unit) : Fr × LL := ([(1, aD (.slice .bool) a1), (2, .one (.ptr 2 0)), (7, aB v4), (32, .one (.slc 32)), (33, aI (2 : Int)), (34, aI v.1)], [(2, .one (.pair (.slice .bool) (.slice (.pair (.slice tI) (.slice tI)))) a0), (32, .seq .bool [false, true])])
@[reducible] def all_game_wins_s3 (v : Bool) : Fr × LL := ([(4, aB v)], [])
@[reducible] def all_game_wins_s4 (v4 : Bool) (v : Unit) : Fr × LL := ([(7, aB v4)], [])
def all_game_wins_step (rf_all_game_wins : ((List Bool) × (List ((List Int) × (List Int)))) → (List Bool) → Option Bool) (fuel : Nat) (a0 : ((List Bool) × (List ((List Int) × (List Int))))) (a1 : (List Bool)) : Option Bool :=
bif (List.length a1 : Int) == (List.length a0.1 : Int) then
((name_True (List.length a1 : Int) a0.2 a1).bind fun r2 =>
some r2.1)
else
((idx a0.1 (List.length a1 : Int)).bind fun v4 =>
(forI (0 : Int) (2 : Int) (all_game_wins_b1 a0 a1 v4 rf_all_game_wins) (fun x23 => (.brk ())) ()).bind fun v34 =>
match v34 with
| .ret v38 =>
(some v38)
| .brk v39 =>
(some (!v4)))
def all_game_wins : Nat → ((List Bool) × (List ((List Int) × (List Int)))) → (List Bool) → Option Bool
  | 0 => fun _ _ => none
  | fuel + 1 => fun a0 a1 => all_game_wins_step (all_game_wins fuel) fuel a0 a1
theorem all_game_wins_step_ok {rf_all_game_wins : ((List Bool) × (List ((List Int) × (List Int)))) → (List Bool) → Option Bool} (ih_all_game_wins : ∀ {a0 : ((List Bool) × (List ((List Int) × (List Int))))} {a1 : (List Bool)} {r : Bool}, rf_all_game_wins a0 a1 = some r → FnC Try.prog 46 [aD (.pair (.slice .bool) (.slice (.pair (.slice tI) (.slice tI)))) a0, aD (.slice .bool) a1] [] (aB r) []) {fuel : Nat} {a0 : ((List Bool) × (List ((List Int) × (List Int))))} {a1 : (List Bool)} {r : Bool} (h : all_game_wins_step rf_all_game_wins fuel a0 a1 = some r) : FnC Try.prog 46 [aD (.pair (.slice .bool) (.slice (.pair (.slice tI) (.slice tI)))) a0, aD (.slice .bool) a1] [] (aB r) [] := by
  refine fnC_of_W (B := bodyOf Try.f46) (n := 55) Try.func46 (by kernel_rfl) (by kernel_rfl) (by kernel_rfl) (by kernel_rfl) (by kernel_rfl) ?_
  intro K
  refine W_seq (by kernel_rfl) ?_
  refine W_run 2 [] [1, 2] [2] (fr' := [(1, aD (.slice .bool) a1), (2, .one (.ptr 2 0))]) (L' := [(2, .one (.pair (.slice .bool) (.slice (.pair (.slice tI) (.slice tI)))) a0)]) (obs := []) (by kernel_rfl) (by kernel_rfl) (by kernel_rfl) allP0 ?_
  refine seqQ_norm ?_
  refine W_seq (by kernel_rfl) ?_
  refine W_seq (by kernel_rfl) ?_
  refine W_run 6 [] [1, 2, 15] [2] (fr' := [(1, aD (.slice .bool) a1), (2, .one (.ptr 2 0)), (15, aB ((List.length a1 : Int) == (List.length a0.1 : Int)))]) (L' := [(2, .one (.pair (.slice .bool) (.slice (.pair (.slice tI) (.slice tI)))) a0)]) (obs := []) (by kernel_rfl) (by kernel_rfl) (by kernel_rfl) allP0 ?_
  refine seqQ_norm ?_
  refine W_cond (o := .tmp 15) (b := (List.length a1 : Int) == (List.length a0.1 : Int)) (by kernel_rfl) (by kernel_rfl) (fun h1 => ?_) (fun h1 => ?_)
  · replace h := ofT h1 h
    refine W_seq (by kernel_rfl) ?_
    refine W_region (by kernel_rfl) ?_
    refine WO_run (j := 5) (k := 5) (orcs := []) (kF := [18, 20, 21]) (kL := [2]) (fr' := [(18, aI (List.length a1 : Int)), (20, aD (.slice (.pair (.slice tI) (.slice tI))) a0.2), (21, aD (.slice .bool) a1)]) (L' := [(2, .one (.pair (.slice .bool) (.slice (.pair (.slice tI) (.slice tI)))) a0)]) (obs := []) rfl (by kernel_rfl) allP0 ?_
    obtain ⟨r2, h3, h⟩ := bind_of h
    refine WO_call0 (us := [none, none, none]) (d := 22) (p := True) (j := 6) rfl ⟨by kernel_rfl, by kernel_rfl, by kernel_rfl⟩ trivial (name_True_ok h3) (by kernel_rfl) ?_
    refine WO_run (j := 11) (k := 5) (orcs := []) (kF := [5]) (kL := [2]) (fr' := [(5, aB r2.1)]) (L' := [(2, .one (.pair (.slice .bool) (.slice (.pair (.slice tI) (.slice tI)))) a0)]) (obs := []) rfl (by kernel_rfl) allP0 ?_
    refine WO_fin [5] [] (fr' := [(5, aB r2.1)]) (L' := []) (by kernel_rfl) (by kernel_rfl) ?_
    refine seqQ_norm ?_
    refine W_seq (by kernel_rfl) ?_
    refine W_run 2 [] [4] [] (fr' := [(4, aB r2.1)]) (L' := []) (obs := []) (by kernel_rfl) (by kernel_rfl) (by kernel_rfl) allP0 ?_
    refine seqQ_norm ?_
    obtain rfl := Option.some.inj h
    refine W_ret [4] [] (fr' := [(4, aB r2.1)]) (L' := []) (by kernel_rfl) (by kernel_rfl) ?_
    refine seqQ_ret ?_
    exact retQ_mk (by kernel_rfl) (by kernel_rfl) (by kernel_rfl)
  · replace h := ofF h1 h
    refine W_skip [1, 2] [2] (fr' := [(1, aD (.slice .bool) a1), (2, .one (.ptr 2 0))]) (L' := [(2, .one (.pair (.slice .bool) (.slice (.pair (.slice tI) (.slice tI)))) a0)]) (by kernel_rfl) (by kernel_rfl) ?_
    refine seqQ_norm ?_
    refine W_seq (by kernel_rfl) ?_
    obtain ⟨v4, h5, h⟩ := bind_of h
    refine W_run 7 [(9, .val (.dat .bool v4))] [1, 2, 7] [2] (fr' := [(1, aD (.slice .bool) a1), (2, .one (.ptr 2 0)), (7, aB v4)]) (L' := [(2, .one (.pair (.slice .bool) (.slice (.pair (.slice tI) (.slice tI)))) a0)]) (obs := [Idx a0.1 (List.length a1 : Int) v4]) (by kernel_rfl) (by kernel_rfl) (by kernel_rfl) (allP1 (Idx.of h5)) ?_
    refine seqQ_norm ?_
    refine W_seq (by kernel_rfl) ?_
    refine W_seq (by kernel_rfl) ?_
    refine W_run 3 [] [1, 2, 7, 32, 33, 34] [2, 32] (fr' := [(1, aD (.slice .bool) a1), (2, .one (.ptr 2 0)), (7, aB v4), (32, .one (.slc 32)), (33, aI (2 : Int)), (34, aI (0 : Int))]) (L' := [(2, .one (.pair (.slice .bool) (.slice (.pair (.slice tI) (.slice tI)))) a0), (32, .seq .bool [false, true])]) (obs := []) (by kernel_rfl) (by kernel_rfl) (by kernel_rfl) allP0 ?_
    refine seqQ_norm ?_
    refine W_block (id := 0) (by kernel_rfl) ?_
    obtain ⟨v34, h35, h⟩ := bind_of h
    obtain ⟨h36, h37⟩ := forI_iter h35
    refine W_weaken [1, 2, 7, 32, 33, 34] [2, 32] (fr' := ((all_game_wins_s2 a0 a1 v4) ((0 : Int), ())).1) (L' := ((all_game_wins_s2 a0 a1 v4) ((0 : Int), ())).2) (by kernel_rfl) ?_
    refine W_cutK (W_loop (S := (all_game_wins_s2 a0 a1 v4)) (J := (escQ (exQ .ret all_game_wins_s3) (exQ (.exit 0) (all_game_wins_s4 v4)))) (by kernel_rfl) ?_ h36 _ v34 h37) ?_
    · rintro ⟨i22, x23⟩ s h
      refine W_seq (by kernel_rfl) ?_
      refine W_run 1 [] [1, 2, 7, 32, 33, 34, 35] [2, 32] (fr' := [(1, aD (.slice .bool) a1), (2, .one (.ptr 2 0)), (7, aB v4), (32, .one (.slc 32)), (33, aI (2 : Int)), (34, aI i22), (35, aB (decide (i22 < (2 : Int))))]) (L' := [(2, .one (.pair (.slice .bool) (.slice (.pair (.slice tI) (.slice tI)))) a0), (32, .seq .bool [false, true])]) (obs := []) (by kernel_rfl) (by kernel_rfl) (by kernel_rfl) allP0 ?_
      refine seqQ_norm ?_
      refine W_seq (by kernel_rfl) ?_
      refine W_cond (o := .tmp 35) (b := decide (i22 < (2 : Int))) (by kernel_rfl) (by kernel_rfl) (fun h25 => ?_) (fun h25 => ?_)
      · replace h := stepI_true h25 h
        obtain ⟨_, h, rfl⟩ := h
        refine W_skip [1, 2, 7, 32, 33, 34] [2, 32] (fr' := [(1, aD (.slice .bool) a1), (2, .one (.ptr 2 0)), (7, aB v4), (32, .one (.slc 32)), (33, aI (2 : Int)), (34, aI i22)]) (L' := [(2, .one (.pair (.slice .bool) (.slice (.pair (.slice tI) (.slice tI)))) a0), (32, .seq .bool [false, true])]) (by kernel_rfl) (by kernel_rfl) ?_
        refine seqQ_norm ?_
        refine W_seq (by kernel_rfl) ?_
        refine W_block (id := 1) (by kernel_rfl) ?_
        refine W_seq (by kernel_rfl) ?_
        obtain ⟨v26, h27, h⟩ := bind_of h
        refine W_run 3 [(3, .val (.dat .bool v26))] [1, 2, 7, 9, 32, 33, 34] [2, 32] (fr' := [(1, aD (.slice .bool) a1), (2, .one (.ptr 2 0)), (7, aB v4), (9, aB v26), (32, .one (.slc 32)), (33, aI (2 : Int)), (34, aI i22)]) (L' := [(2, .one (.pair (.slice .bool) (.slice (.pair (.slice tI) (.slice tI)))) a0), (32, .seq .bool [false, true])]) (obs := [InR i22 (List.length [false, true]), Idx [false, true] i22 v26]) (by kernel_rfl) (by kernel_rfl) (by kernel_rfl) (allP2 (InR.of h27) (allP1 (Idx.of h27))) ?_
        refine seqQ_norm ?_
        refine W_seq (by kernel_rfl) ?_
        obtain ⟨_, h28, h⟩ := bind_of h
        replace h28 := ck_some h28
        obtain ⟨_, h29, h⟩ := bind_of h
        replace h29 := ck_some h29
        obtain ⟨r30, h31, h⟩ := bind_of h
        refine W_draw5 13 [] [] [(10, [none, none], aB r30)] [1, 2, 7, 32, 33, 34, 50] [2, 32] (fr' := [(1, aD (.slice .bool) a1), (2, .one (.ptr 2 0)), (7, aB v4), (32, .one (.slc 32)), (33, aI (2 : Int)), (34, aI i22), (50, aB (r30 == v4))]) (L' := [(2, .one (.pair (.slice .bool) (.slice (.pair (.slice tI) (.slice tI)))) a0), (32, .seq .bool [false, true])]) (out := [(38, aD (.pair (.slice .bool) (.slice (.pair (.slice tI) (.slice tI)))) a0), (39, aD (.slice .bool) a1), (40, aD (.slice .bool) a1), (41, aI (List.length a1 : Int)), (42, aD (.slice .bool) a1), (43, aI (List.length a1 : Int)), (44, .one (.cdat .bool (sub a1 (0 : Int) (List.length a1 : Int)))), (45, aB v26), (46, aD (.slice .bool) [v26]), (47, aD (.slice .bool) ((sub a1 (0 : Int) (List.length a1 : Int)) ++ [v26])), (48, aB r30), (49, aB v4), (50, aB (r30 == v4))]) (obs := [Cuts (0 : Int) (List.length a1 : Int) (List.length a1) ∧ (List.length a1 : Int) = (List.length a1 : Int), True, True, 0 < List.length [v26] ∧ SmallLen (List.length (sub a1 (0 : Int) (List.length a1 : Int)) + List.length [v26]), True]) (obs2 := []) (calls := [(46, [aD (.pair (.slice .bool) (.slice (.pair (.slice tI) (.slice tI)))) a0, aD (.slice .bool) ((sub a1 (0 : Int) (List.length a1 : Int)) ++ [v26])], aB r30)]) (by kernel_rfl) (by kernel_rfl) (by kernel_rfl) (by kernel_rfl) (allP2 ⟨⟨h28.1, h28.2.1, h28.2.2.1⟩, h28.2.2.2⟩ (allP2 trivial (allP2 trivial (allP2 ⟨(Nat.succ_pos _), h29⟩ (allP1 trivial))))) (allD2 [] _ _ (by kernel_rfl) (ih_all_game_wins h31) (by kernel_rfl) (by kernel_rfl) (by kernel_rfl) (by kernel_rfl) allD0) (by kernel_rfl) allP0 ?_
        refine seqQ_norm ?_
        refine W_cond (o := .tmp 50) (b := r30 == v4) (by kernel_rfl) (by kernel_rfl) (fun h32 => ?_) (fun h32 => ?_)
        · replace h := ofT h32 h
          refine W_seq (by kernel_rfl) ?_
          refine W_run 2 [] [4] [] (fr' := [(4, aB v4)]) (L' := []) (obs := []) (by kernel_rfl) (by kernel_rfl) (by kernel_rfl) allP0 ?_
          refine seqQ_norm ?_
          obtain rfl := Option.some.inj h
          refine W_ret [4] [] (fr' := [(4, aB v4)]) (L' := []) (by kernel_rfl) (by kernel_rfl) ?_
          refine blockQ_ret ?_
          refine seqQ_ret ?_
          refine round_ret ?_
          refine escQ_ret ?_
          exact exQ_mk (by kernel_rfl) (by kernel_rfl)
        · replace h := ofF h32 h
          refine W_skip [1, 2, 7, 32, 33, 34] [2, 32] (fr' := [(1, aD (.slice .bool) a1), (2, .one (.ptr 2 0)), (7, aB v4), (32, .one (.slc 32)), (33, aI (2 : Int)), (34, aI i22)]) (L' := [(2, .one (.pair (.slice .bool) (.slice (.pair (.slice tI) (.slice tI)))) a0), (32, .seq .bool [false, true])]) (by kernel_rfl) (by kernel_rfl) ?_
          refine blockQ_norm ?_
          refine seqQ_norm ?_
          obtain rfl := Option.some.inj h
          refine W_run 2 [] [1, 2, 7, 32, 33, 34] [2, 32] (fr' := [(1, aD (.slice .bool) a1), (2, .one (.ptr 2 0)), (7, aB v4), (32, .one (.slc 32)), (33, aI (2 : Int)), (34, aI (w64 (i22 + (1 : Int))))]) (L' := [(2, .one (.pair (.slice .bool) (.slice (.pair (.slice tI) (.slice tI)))) a0), (32, .seq .bool [false, true])]) (obs := []) (by kernel_rfl) (by kernel_rfl) (by kernel_rfl) allP0 ?_
          exact round_next' (by kernel_rfl) (by kernel_rfl)
      · obtain rfl := stepI_false h25 h
        refine W_exit (id := 0) [7] [] (fr' := [(7, aB v4)]) (L' := []) (by kernel_rfl) (by kernel_rfl) ?_
        refine seqQ_exit ?_
        refine round_exit ?_
        refine escQ_brk ?_
        exact exQ_mk (by kernel_rfl) (by kernel_rfl)
    · intro e fr L hJ
      rcases v34 with v38 | v39
      · obtain ⟨rfl, rfl, rfl⟩ := hJ
        obtain rfl := Option.some.inj h
        refine LT_keep [4] [] (fr' := [(4, aB v38)]) (L' := []) (by kernel_rfl) ?_
        refine blockQ_ret ?_
        refine seqQ_ret ?_
        exact retQ_mk (by kernel_rfl) (by kernel_rfl) (by kernel_rfl)
      · obtain ⟨rfl, rfl, rfl⟩ := hJ
        refine LT_keep [7] [] (fr' := [(7, aB v4)]) (L' := []) (by kernel_rfl) ?_
        refine blockQ_hit ?_
        refine seqQ_norm ?_
        refine W_seq (by kernel_rfl) ?_
        refine W_run 3 [] [4] [] (fr' := [(4, aB (!v4))]) (L' := []) (obs := []) (by kernel_rfl) (by kernel_rfl) (by kernel_rfl) allP0 ?_
        refine seqQ_norm ?_
        obtain rfl := Option.some.inj h
        refine W_ret [4] [] (fr' := [(4, aB (!v4))]) (L' := []) (by kernel_rfl) (by kernel_rfl) ?_
        exact retQ_mk (by kernel_rfl) (by kernel_rfl) (by kernel_rfl)
theorem all_game_wins_ok : ∀ {fuel : Nat} {a0 : ((List Bool) × (List ((List Int) × (List Int))))} {a1 : (List Bool)} {r : Bool}, all_game_wins fuel a0 a1 = some r → FnC Try.prog 46 [aD (.pair (.slice .bool) (.slice (.pair (.slice tI) (.slice tI)))) a0, aD (.slice .bool) a1] [] (aB r) [] := by
  intro fuel
  induction fuel with
  | zero => intros a0 a1 r h; cases h
  | succ fuel ih => intros a0 a1 r h; exact all_game_wins_step_ok (fun h => ih h) (show all_game_wins_step (all_game_wins fuel) fuel a0 a1 = some r from h)

def all_Plan_b134 (i723 : Int) (i733 : Int) (x734 : (List Bool)) : Option (Flow (List Bool) (List Bool)) :=
(ck (0 ≤ i733)).bind fun _ =>
(ck ((List.length x734 : Int) + 1 ≤ 4294967296)).bind fun _ =>
some (.next (x734 ++ [(bAnd .i64 (bShr .i64 i723 i733) (1 : Int)) == (1 : Int)]))
@[reducible] def all_Plan_s135 (a0 : (List Bool)) (a1 : (List ((List Int) × (List Int)))) (i513 : Int) (i723 : Int) (x724 : (List Bool)) (v : Int × (List Bool)) : Fr × LL := ([(7, .one (.ptr 7 0)), (8, .one (.slc 60)), (9, aI i513), (11, aI i723), (12, .one (.slc 51)), (26, aD (.slice .bool) a0), (27, aI (List.length a0 : Int)), (28, aI i513), (36, aI (bShl .i64 (1 : Int) i513)), (37, aI i723), (40, aI i513), (41, aI v.1)], [(7, .one (.pair (.slice .bool) (.slice (.pair (.slice tI) (.slice tI)))) (a0, a1)), (60, .seq .bool x724), (51, .seq .bool v.2)])
@[reducible] def all_Plan_s136 (a0 : (List Bool)) (a1 : (List ((List Int) × (List Int)))) (i513 : Int) (i723 : Int) (x724 : (List Bool)) (v : (List Bool)) : Fr × LL := ([(7, .one (.ptr 7 0)), (8, .one (.slc 60)), (9, aI i513), (12, .one (.slc 51)), (26, aD (.slice .bool) a0), (27, aI (List.length a0 : Int)), (28, aI i513), (36, aI (bShl .i64 (1 : Int) i513)), (37, aI i723)], [(7, .one (.pair (.slice .bool) (.slice (.pair (.slice tI) (.slice tI)))) (a0, a1)), (60, .seq .bool x724), (51, .seq .bool v)])
def all_Plan_b137 (a0 : (List Bool)) (a1 : (List ((List Int) × (List Int)))) (fuel : Nat) (i513 : Int) (i723 : Int) (x724 : (List Bool)) : Option (Flow (List Bool) (List Bool)) :=
(forI (0 : Int) i513 (all_Plan_b134 i723) (fun x734 => x734) []).bind fun v740 =>
(ck ((List.length v740 : Int) + 1 ≤ 4294967296)).bind fun _ =>
(all_game_wins fuel (a0, a1) (v740 ++ [true])).bind fun r745 =>
(ck ((List.length x724 : Int) + 1 ≤ 4294967296)).bind fun _ =>
some (.next (x724 ++ [r745]))
@[reducible] def all_Plan_s138 (a0 : (List Bool)) (a1 : (List ((List Int) × (List Int)))) (i513 : Int) (v : Int × (List Bool)) : Fr × LL := ([(7, .one (.ptr 7 0)), (8, .one (.slc 60)), (9, aI i513), (26, aD (.slice .bool) a0), (27, aI (List.length a0 : Int)), (28, aI i513), (36, aI (bShl .i64 (1 : Int) i513)), (37, aI v.1)], [(7, .one (.pair (.slice .bool) (.slice (.pair (.slice tI) (.slice tI)))) (a0, a1)), (60, .seq .bool v.2)])
@[reducible] def all_Plan_s139 (a0 : (List Bool)) (a1 : (List ((List Int) × (List Int)))) (i513 : Int) (v : (List Bool)) : Fr × LL := ([(7, .one (.ptr 7 0)), (8, .one (.slc 60)), (26, aD (.slice .bool) a0), (27, aI (List.length a0 : Int)), (28, aI i513)], [(7, .one (.pair (.slice .bool) (.slice (.pair (.slice tI) (.slice tI)))) (a0, a1)), (60, .seq .bool v)])
def all_Plan_g140 (a0 : (List Bool)) (a1 : (List ((List Int) × (List Int)))) (fuel : Nat) (i513 : Int) (x514 : (List Bool)) (v516 : Bool) : Option (List Bool) :=
bif !v516 then
(some x514)
else
((ck (0 ≤ i513)).bind fun _ =>
(forI (0 : Int) (bShl .i64 (1 : Int) i513) (all_Plan_b137 a0 a1 fuel i513) (fun x724 => x724) x514).bind fun v749 =>
some v749)
@[reducible] def all_Plan_s141 (a0 : (List Bool)) (a1 : (List ((List Int) × (List Int)))) (i513 : Int) (v : (List Bool)) : Fr × LL := ([(7, .one (.ptr 7 0)), (8, .one (.slc 60)), (26, aD (.slice .bool) a0), (27, aI (List.length a0 : Int)), (28, aI i513)], [(7, .one (.pair (.slice .bool) (.slice (.pair (.slice tI) (.slice tI)))) (a0, a1)), (60, .seq .bool v)])
def all_Plan_b142 (a0 : (List Bool)) (a1 : (List ((List Int) × (List Int)))) (fuel : Nat) (i513 : Int) (v516 : Bool) (x514 : (List Bool)) : Option (Flow (List Bool) (List Bool)) :=
(all_Plan_g140 a0 a1 fuel i513 x514 v516).bind fun v753 =>
some (.next v753)
@[reducible] def all_Plan_s143 (a0 : (List Bool)) (a1 : (List ((List Int) × (List Int)))) (v : Int × (List Bool)) : Fr × LL := ([(7, .one (.ptr 7 0)), (8, .one (.slc 60)), (26, aD (.slice .bool) a0), (27, aI (List.length a0 : Int)), (28, aI v.1)], [(7, .one (.pair (.slice .bool) (.slice (.pair (.slice tI) (.slice tI)))) (a0, a1)), (60, .seq .bool v.2)])
@[reducible] def all_Plan_s144 (v : (List Bool)) : Fr × LL := ([(8, .one (.slc 60))], [(60, .seq .bool v)])
def all_Plan (fuel : Nat) (a0 : (List Bool)) (a1 : (List ((List Int) × (List Int)))) : Option ((List Bool) × Int) :=
(all_wrong a0 a1).bind fun r1 =>
bif r1 != (0 : Int) then
(some ([], r1))
else
((all_game_wins fuel (a0, a1) []).bind fun r4 =>
bif !r4 then
(some ([], (5 : Int)))
else
((forL (all_Plan_b142 a0 a1 fuel) (fun x514 => x514) a0 0 []).bind fun v756 =>
some (v756, (0 : Int))))
theorem all_Plan_ok {fuel : Nat} {a0 : (List Bool)} {a1 : (List ((List Int) × (List Int)))} {r : ((List Bool) × Int)} (h : all_Plan fuel a0 a1 = some r) : FnC Try.prog 25 [aD (.slice .bool) a0, aD (.slice (.pair (.slice tI) (.slice tI))) a1] [] (.tup [.dat (.slice .bool) r.1, .dat tI r.2]) [] := by
  refine fnC_of_W (B := bodyOf Try.f25) (n := 64) Try.func25 (by kernel_rfl) (by kernel_rfl) (by kernel_rfl) (by kernel_rfl) (by kernel_rfl) ?_
  intro K
  refine W_seq (by kernel_rfl) ?_
  refine W_run 2 [] [0, 1] [] (fr' := [(0, aD (.slice .bool) a0), (1, aD (.slice (.pair (.slice tI) (.slice tI))) a1)]) (L' := []) (obs := []) (by kernel_rfl) (by kernel_rfl) (by kernel_rfl) allP0 ?_
  refine seqQ_norm ?_
  refine W_seq (by kernel_rfl) ?_
  refine W_seq (by kernel_rfl) ?_
  refine W_region (by kernel_rfl) ?_
  refine WO_run (j := 2) (k := 2) (orcs := []) (kF := [0, 1, 14, 15]) (kL := []) (fr' := [(0, aD (.slice .bool) a0), (1, aD (.slice (.pair (.slice tI) (.slice tI))) a1), (14, aD (.slice .bool) a0), (15, aD (.slice (.pair (.slice tI) (.slice tI))) a1)]) (L' := []) (obs := []) rfl (by kernel_rfl) allP0 ?_
  obtain ⟨r1, h2, h⟩ := bind_of h
  refine WO_call0 (us := [none, none]) (d := 16) (p := True) (j := 3) rfl ⟨by kernel_rfl, by kernel_rfl, by kernel_rfl⟩ trivial (all_wrong_ok h2) (by kernel_rfl) ?_
  refine WO_run (j := 4) (k := 1) (orcs := []) (kF := [0, 1, 6]) (kL := []) (fr' := [(0, aD (.slice .bool) a0), (1, aD (.slice (.pair (.slice tI) (.slice tI))) a1), (6, aI r1)]) (L' := []) (obs := []) rfl (by kernel_rfl) allP0 ?_
  refine WO_fin [0, 1, 6] [] (fr' := [(0, aD (.slice .bool) a0), (1, aD (.slice (.pair (.slice tI) (.slice tI))) a1), (6, aI r1)]) (L' := []) (by kernel_rfl) (by kernel_rfl) ?_
  refine seqQ_norm ?_
  refine W_seq (by kernel_rfl) ?_
  refine W_run 2 [] [0, 1, 6, 18] [] (fr' := [(0, aD (.slice .bool) a0), (1, aD (.slice (.pair (.slice tI) (.slice tI))) a1), (6, aI r1), (18, aB (r1 != (0 : Int)))]) (L' := []) (obs := []) (by kernel_rfl) (by kernel_rfl) (by kernel_rfl) allP0 ?_
  refine seqQ_norm ?_
  refine W_cond (o := .tmp 18) (b := r1 != (0 : Int)) (by kernel_rfl) (by kernel_rfl) (fun h3 => ?_) (fun h3 => ?_)
  · replace h := ofT h3 h
    refine W_seq (by kernel_rfl) ?_
    refine W_run 3 [] [4, 5] [] (fr' := [(4, .one (.nilS)), (5, aI r1)]) (L' := []) (obs := []) (by kernel_rfl) (by kernel_rfl) (by kernel_rfl) allP0 ?_
    refine seqQ_norm ?_
    obtain rfl := Option.some.inj h
    refine W_cnv 4 (.slice .bool) (by kernel_rfl) ?_
    refine W_ret [4, 5] [] (fr' := [(4, aD (.slice .bool) []), (5, aI r1)]) (L' := []) (by kernel_rfl) (by kernel_rfl) ?_
    refine seqQ_ret ?_
    exact retQ_mk (by kernel_rfl) (by kernel_rfl) (by kernel_rfl)
  · replace h := ofF h3 h
    refine W_skip [0, 1] [] (fr' := [(0, aD (.slice .bool) a0), (1, aD (.slice (.pair (.slice tI) (.slice tI))) a1)]) (L' := []) (by kernel_rfl) (by kernel_rfl) ?_
    refine seqQ_norm ?_
    refine W_seq (by kernel_rfl) ?_
    refine W_run 5 [(7, .typed)] [0, 7] [7] (fr' := [(0, aD (.slice .bool) a0), (7, .one (.ptr 7 0))]) (L' := [(7, .one (.pair (.slice .bool) (.slice (.pair (.slice tI) (.slice tI)))) (a0, a1))]) (obs := [True]) (by kernel_rfl) (by kernel_rfl) (by kernel_rfl) (allP1 trivial) ?_
    refine seqQ_norm ?_
    refine W_seq (by kernel_rfl) ?_
    refine W_seq (by kernel_rfl) ?_
    refine W_region (by kernel_rfl) ?_
    refine WO_run (j := 1) (k := 1) (orcs := []) (kF := [0, 7, 23]) (kL := [7]) (fr' := [(0, aD (.slice .bool) a0), (7, .one (.ptr 7 0)), (23, aD (.pair (.slice .bool) (.slice (.pair (.slice tI) (.slice tI)))) (a0, a1))]) (L' := [(7, .one (.pair (.slice .bool) (.slice (.pair (.slice tI) (.slice tI)))) (a0, a1))]) (obs := []) rfl (by kernel_rfl) allP0 ?_
    obtain ⟨r4, h5, h⟩ := bind_of h
    refine WO_call0 (us := [none, some (.slice .bool)]) (d := 24) (p := True) (j := 2) rfl ⟨by kernel_rfl, by kernel_rfl, by kernel_rfl⟩ trivial (all_game_wins_ok h5) (by kernel_rfl) ?_
    refine WO_run (j := 3) (k := 1) (orcs := []) (kF := [0, 7, 25]) (kL := [7]) (fr' := [(0, aD (.slice .bool) a0), (7, .one (.ptr 7 0)), (25, aB (!r4))]) (L' := [(7, .one (.pair (.slice .bool) (.slice (.pair (.slice tI) (.slice tI)))) (a0, a1))]) (obs := []) rfl (by kernel_rfl) allP0 ?_
    refine WO_fin [0, 7, 25] [7] (fr' := [(0, aD (.slice .bool) a0), (7, .one (.ptr 7 0)), (25, aB (!r4))]) (L' := [(7, .one (.pair (.slice .bool) (.slice (.pair (.slice tI) (.slice tI)))) (a0, a1))]) (by kernel_rfl) (by kernel_rfl) ?_
    refine seqQ_norm ?_
    refine W_cond (o := .tmp 25) (b := !r4) (by kernel_rfl) (by kernel_rfl) (fun h6 => ?_) (fun h6 => ?_)
    · replace h := ofT h6 h
      refine W_seq (by kernel_rfl) ?_
      refine W_run 2 [] [4, 5] [] (fr' := [(4, .one (.nilS)), (5, aI (5 : Int))]) (L' := []) (obs := []) (by kernel_rfl) (by kernel_rfl) (by kernel_rfl) allP0 ?_
      refine seqQ_norm ?_
      obtain rfl := Option.some.inj h
      refine W_cnv 4 (.slice .bool) (by kernel_rfl) ?_
      refine W_ret [4, 5] [] (fr' := [(4, aD (.slice .bool) []), (5, aI (5 : Int))]) (L' := []) (by kernel_rfl) (by kernel_rfl) ?_
      refine seqQ_ret ?_
      exact retQ_mk (by kernel_rfl) (by kernel_rfl) (by kernel_rfl)
    · replace h := ofF h6 h
      refine W_skip [0, 7] [7] (fr' := [(0, aD (.slice .bool) a0), (7, .one (.ptr 7 0))]) (L' := [(7, .one (.pair (.slice .bool) (.slice (.pair (.slice tI) (.slice tI)))) (a0, a1))]) (by kernel_rfl) (by kernel_rfl) ?_
      refine seqQ_norm ?_
      refine W_seq (by kernel_rfl) ?_
      refine W_run 1 [] [0, 7, 8] [7] (fr' := [(0, aD (.slice .bool) a0), (7, .one (.ptr 7 0)), (8, .one (.nilS))]) (L' := [(7, .one (.pair (.slice .bool) (.slice (.pair (.slice tI) (.slice tI)))) (a0, a1))]) (obs := []) (by kernel_rfl) (by kernel_rfl) (by kernel_rfl) allP0 ?_
      refine seqQ_norm ?_
      refine W_seq (by kernel_rfl) ?_
      refine W_seq (by kernel_rfl) ?_
      refine W_run 3 [] [7, 8, 26, 27, 28] [7] (fr' := [(7, .one (.ptr 7 0)), (8, .one (.nilS)), (26, aD (.slice .bool) a0), (27, aI (List.length a0 : Int)), (28, aI (0 : Int))]) (L' := [(7, .one (.pair (.slice .bool) (.slice (.pair (.slice tI) (.slice tI)))) (a0, a1))]) (obs := []) (by kernel_rfl) (by kernel_rfl) (by kernel_rfl) allP0 ?_
      refine seqQ_norm ?_
      refine W_block (id := 0) (by kernel_rfl) ?_
      obtain ⟨v756, h757, h⟩ := bind_of h
      refine W_len (t := 26) (u := .bool) (xs := a0) (by kernel_rfl) (fun h760 => ?_)
      obtain ⟨h758, h759⟩ := forL_iter h760 h757
      refine W_mine 8 60 .bool (by kernel_rfl) ?_
      refine W_weaken [7, 8, 26, 27, 28] [7, 60] (fr' := ((all_Plan_s143 a0 a1) ((0 : Int), [])).1) (L' := ((all_Plan_s143 a0 a1) ((0 : Int), [])).2) (by kernel_rfl) ?_
      refine W_cutK (W_loop (S := (all_Plan_s143 a0 a1)) (J := (exQ (.exit 0) all_Plan_s144)) (by kernel_rfl) ?_ h758 _ v756 h759) ?_
      · rintro ⟨i513, x514⟩ s h
        refine W_seq (by kernel_rfl) ?_
        refine W_run 1 [] [7, 8, 26, 27, 28, 29] [7, 60] (fr' := [(7, .one (.ptr 7 0)), (8, .one (.slc 60)), (26, aD (.slice .bool) a0), (27, aI (List.length a0 : Int)), (28, aI i513), (29, aB (decide (i513 < (List.length a0 : Int))))]) (L' := [(7, .one (.pair (.slice .bool) (.slice (.pair (.slice tI) (.slice tI)))) (a0, a1)), (60, .seq .bool x514)]) (obs := []) (by kernel_rfl) (by kernel_rfl) (by kernel_rfl) allP0 ?_
        refine seqQ_norm ?_
        refine W_seq (by kernel_rfl) ?_
        refine W_cond (o := .tmp 29) (b := decide (i513 < (List.length a0 : Int))) (by kernel_rfl) (by kernel_rfl) (fun h518 => ?_) (fun h518 => ?_)
        · replace h := stepL_true h518 h
          obtain ⟨v516, _, h517, h, rfl⟩ := h
          refine W_skip [7, 8, 26, 27, 28] [7, 60] (fr' := [(7, .one (.ptr 7 0)), (8, .one (.slc 60)), (26, aD (.slice .bool) a0), (27, aI (List.length a0 : Int)), (28, aI i513)]) (L' := [(7, .one (.pair (.slice .bool) (.slice (.pair (.slice tI) (.slice tI)))) (a0, a1)), (60, .seq .bool x514)]) (by kernel_rfl) (by kernel_rfl) ?_
          refine seqQ_norm ?_
          refine W_seq (by kernel_rfl) ?_
          obtain ⟨v753, h754, h⟩ := bind_of h
          refine W_cutK (Q' := (exQ .normal (all_Plan_s141 a0 a1 i513)) v753) ?_ ?_
          · replace h := h754
            refine W_block (id := 1) (by kernel_rfl) ?_
            refine W_seq (by kernel_rfl) ?_
            refine W_run 5 [(3, .val (.dat .bool v516))] [7, 8, 9, 10, 26, 27, 28] [7, 60] (fr' := [(7, .one (.ptr 7 0)), (8, .one (.slc 60)), (9, aI i513), (10, aB v516), (26, aD (.slice .bool) a0), (27, aI (List.length a0 : Int)), (28, aI i513)]) (L' := [(7, .one (.pair (.slice .bool) (.slice (.pair (.slice tI) (.slice tI)))) (a0, a1)), (60, .seq .bool x514)]) (obs := [Idx a0 i513 v516]) (by kernel_rfl) (by kernel_rfl) (by kernel_rfl) (allP1 (Idx.of h517)) ?_
            refine seqQ_norm ?_
            refine W_seq (by kernel_rfl) ?_
            refine W_seq (by kernel_rfl) ?_
            refine W_run 2 [] [7, 8, 9, 26, 27, 28, 34] [7, 60] (fr' := [(7, .one (.ptr 7 0)), (8, .one (.slc 60)), (9, aI i513), (26, aD (.slice .bool) a0), (27, aI (List.length a0 : Int)), (28, aI i513), (34, aB (!v516))]) (L' := [(7, .one (.pair (.slice .bool) (.slice (.pair (.slice tI) (.slice tI)))) (a0, a1)), (60, .seq .bool x514)]) (obs := []) (by kernel_rfl) (by kernel_rfl) (by kernel_rfl) allP0 ?_
            refine seqQ_norm ?_
            refine W_cond (o := .tmp 34) (b := !v516) (by kernel_rfl) (by kernel_rfl) (fun h675 => ?_) (fun h675 => ?_)
            · replace h := ofT h675 h
              obtain rfl := Option.some.inj h
              refine W_exit (id := 1) [7, 8, 26, 27, 28] [7, 60] (fr' := [(7, .one (.ptr 7 0)), (8, .one (.slc 60)), (26, aD (.slice .bool) a0), (27, aI (List.length a0 : Int)), (28, aI i513)]) (L' := [(7, .one (.pair (.slice .bool) (.slice (.pair (.slice tI) (.slice tI)))) (a0, a1)), (60, .seq .bool x514)]) (by kernel_rfl) (by kernel_rfl) ?_
              refine seqQ_exit ?_
              refine blockQ_hit ?_
              exact exQ_mk (by kernel_rfl) (by kernel_rfl)
            · replace h := ofF h675 h
              refine W_skip [7, 8, 9, 26, 27, 28] [7, 60] (fr' := [(7, .one (.ptr 7 0)), (8, .one (.slc 60)), (9, aI i513), (26, aD (.slice .bool) a0), (27, aI (List.length a0 : Int)), (28, aI i513)]) (L' := [(7, .one (.pair (.slice .bool) (.slice (.pair (.slice tI) (.slice tI)))) (a0, a1)), (60, .seq .bool x514)]) (by kernel_rfl) (by kernel_rfl) ?_
              refine seqQ_norm ?_
              refine W_seq (by kernel_rfl) ?_
              obtain ⟨_, h676, h⟩ := bind_of h
              replace h676 := ck_some h676
              refine W_run 3 [] [7, 8, 9, 26, 27, 28, 36, 37] [7, 60] (fr' := [(7, .one (.ptr 7 0)), (8, .one (.slc 60)), (9, aI i513), (26, aD (.slice .bool) a0), (27, aI (List.length a0 : Int)), (28, aI i513), (36, aI (bShl .i64 (1 : Int) i513)), (37, aI (0 : Int))]) (L' := [(7, .one (.pair (.slice .bool) (.slice (.pair (.slice tI) (.slice tI)))) (a0, a1)), (60, .seq .bool x514)]) (obs := [(0 ≤ i513)]) (by kernel_rfl) (by kernel_rfl) (by kernel_rfl) (allP1 h676) ?_
              refine seqQ_norm ?_
              refine W_block (id := 2) (by kernel_rfl) ?_
              obtain ⟨v749, h750, h⟩ := bind_of h
              obtain ⟨h751, h752⟩ := forI_iter h750
              refine W_weaken [7, 8, 9, 26, 27, 28, 36, 37] [7, 60] (fr' := ((all_Plan_s138 a0 a1 i513) ((0 : Int), x514)).1) (L' := ((all_Plan_s138 a0 a1 i513) ((0 : Int), x514)).2) (by kernel_rfl) ?_
              refine W_cutK (W_loop (S := (all_Plan_s138 a0 a1 i513)) (J := (exQ (.exit 2) (all_Plan_s139 a0 a1 i513))) (by kernel_rfl) ?_ h751 _ v749 h752) ?_
              · rintro ⟨i723, x724⟩ s h
                refine W_seq (by kernel_rfl) ?_
                refine W_run 1 [] [7, 8, 9, 26, 27, 28, 36, 37, 38] [7, 60] (fr' := [(7, .one (.ptr 7 0)), (8, .one (.slc 60)), (9, aI i513), (26, aD (.slice .bool) a0), (27, aI (List.length a0 : Int)), (28, aI i513), (36, aI (bShl .i64 (1 : Int) i513)), (37, aI i723), (38, aB (decide (i723 < (bShl .i64 (1 : Int) i513))))]) (L' := [(7, .one (.pair (.slice .bool) (.slice (.pair (.slice tI) (.slice tI)))) (a0, a1)), (60, .seq .bool x724)]) (obs := []) (by kernel_rfl) (by kernel_rfl) (by kernel_rfl) allP0 ?_
                refine seqQ_norm ?_
                refine W_seq (by kernel_rfl) ?_
                refine W_cond (o := .tmp 38) (b := decide (i723 < (bShl .i64 (1 : Int) i513))) (by kernel_rfl) (by kernel_rfl) (fun h726 => ?_) (fun h726 => ?_)
                · replace h := stepI_true h726 h
                  obtain ⟨_, h, rfl⟩ := h
                  refine W_skip [7, 8, 9, 26, 27, 28, 36, 37] [7, 60] (fr' := [(7, .one (.ptr 7 0)), (8, .one (.slc 60)), (9, aI i513), (26, aD (.slice .bool) a0), (27, aI (List.length a0 : Int)), (28, aI i513), (36, aI (bShl .i64 (1 : Int) i513)), (37, aI i723)]) (L' := [(7, .one (.pair (.slice .bool) (.slice (.pair (.slice tI) (.slice tI)))) (a0, a1)), (60, .seq .bool x724)]) (by kernel_rfl) (by kernel_rfl) ?_
                  refine seqQ_norm ?_
                  refine W_seq (by kernel_rfl) ?_
                  refine W_block (id := 3) (by kernel_rfl) ?_
                  refine W_seq (by kernel_rfl) ?_
                  refine W_run 2 [] [7, 8, 9, 11, 26, 27, 28, 36, 37] [7, 60] (fr' := [(7, .one (.ptr 7 0)), (8, .one (.slc 60)), (9, aI i513), (11, aI i723), (26, aD (.slice .bool) a0), (27, aI (List.length a0 : Int)), (28, aI i513), (36, aI (bShl .i64 (1 : Int) i513)), (37, aI i723)]) (L' := [(7, .one (.pair (.slice .bool) (.slice (.pair (.slice tI) (.slice tI)))) (a0, a1)), (60, .seq .bool x724)]) (obs := []) (by kernel_rfl) (by kernel_rfl) (by kernel_rfl) allP0 ?_
                  refine seqQ_norm ?_
                  refine W_seq (by kernel_rfl) ?_
                  refine W_run 1 [] [7, 8, 9, 11, 12, 26, 27, 28, 36, 37] [7, 60] (fr' := [(7, .one (.ptr 7 0)), (8, .one (.slc 60)), (9, aI i513), (11, aI i723), (12, .one (.nilS)), (26, aD (.slice .bool) a0), (27, aI (List.length a0 : Int)), (28, aI i513), (36, aI (bShl .i64 (1 : Int) i513)), (37, aI i723)]) (L' := [(7, .one (.pair (.slice .bool) (.slice (.pair (.slice tI) (.slice tI)))) (a0, a1)), (60, .seq .bool x724)]) (obs := []) (by kernel_rfl) (by kernel_rfl) (by kernel_rfl) allP0 ?_
                  refine seqQ_norm ?_
                  refine W_seq (by kernel_rfl) ?_
                  refine W_seq (by kernel_rfl) ?_
                  refine W_run 2 [] [7, 8, 9, 11, 12, 26, 27, 28, 36, 37, 40, 41] [7, 60] (fr' := [(7, .one (.ptr 7 0)), (8, .one (.slc 60)), (9, aI i513), (11, aI i723), (12, .one (.nilS)), (26, aD (.slice .bool) a0), (27, aI (List.length a0 : Int)), (28, aI i513), (36, aI (bShl .i64 (1 : Int) i513)), (37, aI i723), (40, aI i513), (41, aI (0 : Int))]) (L' := [(7, .one (.pair (.slice .bool) (.slice (.pair (.slice tI) (.slice tI)))) (a0, a1)), (60, .seq .bool x724)]) (obs := []) (by kernel_rfl) (by kernel_rfl) (by kernel_rfl) allP0 ?_
                  refine seqQ_norm ?_
                  refine W_block (id := 4) (by kernel_rfl) ?_
                  obtain ⟨v740, h741, h⟩ := bind_of h
                  obtain ⟨h742, h743⟩ := forI_iter h741
                  refine W_mine 12 51 .bool (by kernel_rfl) ?_
                  refine W_weaken [7, 8, 9, 11, 12, 26, 27, 28, 36, 37, 40, 41] [7, 60, 51] (fr' := ((all_Plan_s135 a0 a1 i513 i723 x724) ((0 : Int), [])).1) (L' := ((all_Plan_s135 a0 a1 i513 i723 x724) ((0 : Int), [])).2) (by kernel_rfl) ?_
                  refine W_cutK (W_loop (S := (all_Plan_s135 a0 a1 i513 i723 x724)) (J := (exQ (.exit 4) (all_Plan_s136 a0 a1 i513 i723 x724))) (by kernel_rfl) ?_ h742 _ v740 h743) ?_
                  · rintro ⟨i733, x734⟩ s h
                    refine W_seq (by kernel_rfl) ?_
                    refine W_run 1 [] [7, 8, 9, 11, 12, 26, 27, 28, 36, 37, 40, 41, 42] [7, 60, 51] (fr' := [(7, .one (.ptr 7 0)), (8, .one (.slc 60)), (9, aI i513), (11, aI i723), (12, .one (.slc 51)), (26, aD (.slice .bool) a0), (27, aI (List.length a0 : Int)), (28, aI i513), (36, aI (bShl .i64 (1 : Int) i513)), (37, aI i723), (40, aI i513), (41, aI i733), (42, aB (decide (i733 < i513)))]) (L' := [(7, .one (.pair (.slice .bool) (.slice (.pair (.slice tI) (.slice tI)))) (a0, a1)), (60, .seq .bool x724), (51, .seq .bool x734)]) (obs := []) (by kernel_rfl) (by kernel_rfl) (by kernel_rfl) allP0 ?_
                    refine seqQ_norm ?_
                    refine W_seq (by kernel_rfl) ?_
                    refine W_cond (o := .tmp 42) (b := decide (i733 < i513)) (by kernel_rfl) (by kernel_rfl) (fun h736 => ?_) (fun h736 => ?_)
                    · replace h := stepI_true h736 h
                      obtain ⟨_, h, rfl⟩ := h
                      refine W_skip [7, 8, 9, 11, 12, 26, 27, 28, 36, 37, 40, 41] [7, 60, 51] (fr' := [(7, .one (.ptr 7 0)), (8, .one (.slc 60)), (9, aI i513), (11, aI i723), (12, .one (.slc 51)), (26, aD (.slice .bool) a0), (27, aI (List.length a0 : Int)), (28, aI i513), (36, aI (bShl .i64 (1 : Int) i513)), (37, aI i723), (40, aI i513), (41, aI i733)]) (L' := [(7, .one (.pair (.slice .bool) (.slice (.pair (.slice tI) (.slice tI)))) (a0, a1)), (60, .seq .bool x724), (51, .seq .bool x734)]) (by kernel_rfl) (by kernel_rfl) ?_
                      refine seqQ_norm ?_
                      refine W_seq (by kernel_rfl) ?_
                      refine W_block (id := 5) (by kernel_rfl) ?_
                      refine W_seq (by kernel_rfl) ?_
                      refine W_run 2 [] [7, 8, 9, 11, 12, 13, 26, 27, 28, 36, 37, 40, 41] [7, 60, 51] (fr' := [(7, .one (.ptr 7 0)), (8, .one (.slc 60)), (9, aI i513), (11, aI i723), (12, .one (.slc 51)), (13, aI i733), (26, aD (.slice .bool) a0), (27, aI (List.length a0 : Int)), (28, aI i513), (36, aI (bShl .i64 (1 : Int) i513)), (37, aI i723), (40, aI i513), (41, aI i733)]) (L' := [(7, .one (.pair (.slice .bool) (.slice (.pair (.slice tI) (.slice tI)))) (a0, a1)), (60, .seq .bool x724), (51, .seq .bool x734)]) (obs := []) (by kernel_rfl) (by kernel_rfl) (by kernel_rfl) allP0 ?_
                      refine seqQ_norm ?_
                      obtain ⟨_, h737, h⟩ := bind_of h
                      replace h737 := ck_some h737
                      obtain ⟨_, h738, h⟩ := bind_of h
                      replace h738 := ck_some h738
                      refine W_run 9 [] [7, 8, 9, 11, 12, 26, 27, 28, 36, 37, 40, 41] [7, 60, 51] (fr' := [(7, .one (.ptr 7 0)), (8, .one (.slc 60)), (9, aI i513), (11, aI i723), (12, .one (.slc 51)), (26, aD (.slice .bool) a0), (27, aI (List.length a0 : Int)), (28, aI i513), (36, aI (bShl .i64 (1 : Int) i513)), (37, aI i723), (40, aI i513), (41, aI i733)]) (L' := [(7, .one (.pair (.slice .bool) (.slice (.pair (.slice tI) (.slice tI)))) (a0, a1)), (60, .seq .bool x724), (51, .seq .bool (x734 ++ [(bAnd .i64 (bShr .i64 i723 i733) (1 : Int)) == (1 : Int)]))]) (obs := [(0 ≤ i733), SmallLen (List.length x734 + List.length [(bAnd .i64 (bShr .i64 i723 i733) (1 : Int)) == (1 : Int)])]) (by kernel_rfl) (by kernel_rfl) (by kernel_rfl) (allP2 h737 (allP1 h738)) ?_
                      refine blockQ_norm ?_
                      refine seqQ_norm ?_
                      obtain rfl := Option.some.inj h
                      refine W_run 2 [] [7, 8, 9, 11, 12, 26, 27, 28, 36, 37, 40, 41] [7, 60, 51] (fr' := [(7, .one (.ptr 7 0)), (8, .one (.slc 60)), (9, aI i513), (11, aI i723), (12, .one (.slc 51)), (26, aD (.slice .bool) a0), (27, aI (List.length a0 : Int)), (28, aI i513), (36, aI (bShl .i64 (1 : Int) i513)), (37, aI i723), (40, aI i513), (41, aI (w64 (i733 + (1 : Int))))]) (L' := [(7, .one (.pair (.slice .bool) (.slice (.pair (.slice tI) (.slice tI)))) (a0, a1)), (60, .seq .bool x724), (51, .seq .bool (x734 ++ [(bAnd .i64 (bShr .i64 i723 i733) (1 : Int)) == (1 : Int)]))]) (obs := []) (by kernel_rfl) (by kernel_rfl) (by kernel_rfl) allP0 ?_
                      exact round_next' (by kernel_rfl) (by kernel_rfl)
                    · obtain rfl := stepI_false h736 h
                      refine W_exit (id := 4) [7, 8, 9, 12, 26, 27, 28, 36, 37] [7, 60, 51] (fr' := [(7, .one (.ptr 7 0)), (8, .one (.slc 60)), (9, aI i513), (12, .one (.slc 51)), (26, aD (.slice .bool) a0), (27, aI (List.length a0 : Int)), (28, aI i513), (36, aI (bShl .i64 (1 : Int) i513)), (37, aI i723)]) (L' := [(7, .one (.pair (.slice .bool) (.slice (.pair (.slice tI) (.slice tI)))) (a0, a1)), (60, .seq .bool x724), (51, .seq .bool x734)]) (by kernel_rfl) (by kernel_rfl) ?_
                      refine seqQ_exit ?_
                      refine round_exit ?_
                      exact exQ_mk (by kernel_rfl) (by kernel_rfl)
                  · intro e fr L hJ
                    obtain ⟨rfl, rfl, rfl⟩ := hJ
                    refine LT_keep [7, 8, 9, 12, 26, 27, 28, 36, 37] [7, 60, 51] (fr' := [(7, .one (.ptr 7 0)), (8, .one (.slc 60)), (9, aI i513), (12, .one (.slc 51)), (26, aD (.slice .bool) a0), (27, aI (List.length a0 : Int)), (28, aI i513), (36, aI (bShl .i64 (1 : Int) i513)), (37, aI i723)]) (L' := [(7, .one (.pair (.slice .bool) (.slice (.pair (.slice tI) (.slice tI)))) (a0, a1)), (60, .seq .bool x724), (51, .seq .bool v740)]) (by kernel_rfl) ?_
                    refine blockQ_hit ?_
                    refine seqQ_norm ?_
                    obtain ⟨_, h744, h⟩ := bind_of h
                    replace h744 := ck_some h744
                    obtain ⟨r745, h746, h⟩ := bind_of h
                    refine W_drawC5 7 [(4, [51], [])] [] [(4, aD (.slice .bool) (v740 ++ [true]))] [] [(5, [none, none], aB r745)] [7, 8, 9, 26, 27, 28, 36, 37, 53, 59] [7, 60] (out := [(53, .one (.slc 60)), (54, aD (.pair (.slice .bool) (.slice (.pair (.slice tI) (.slice tI)))) (a0, a1)), (55, .one (.slc 51)), (56, aD (.slice .bool) [true]), (57, aD (.slice .bool) (v740 ++ [true])), (58, aB r745), (59, aD (.slice .bool) [r745])]) (obs := [True, True, True]) (calls := [(46, [aD (.pair (.slice .bool) (.slice (.pair (.slice tI) (.slice tI)))) (a0, a1), aD (.slice .bool) (v740 ++ [true])], aB r745)]) (fr' := [(7, .one (.ptr 7 0)), (8, .one (.slc 60)), (9, aI i513), (26, aD (.slice .bool) a0), (27, aI (List.length a0 : Int)), (28, aI i513), (36, aI (bShl .i64 (1 : Int) i513)), (37, aI i723), (53, .one (.slc 60)), (59, aD (.slice .bool) [r745])]) (L' := [(7, .one (.pair (.slice .bool) (.slice (.pair (.slice tI) (.slice tI)))) (a0, a1)), (60, .seq .bool x724)]) (by kernel_rfl) (by kernel_rfl) (by kernel_rfl) (by kernel_rfl) (by kernel_rfl) (allP2 trivial (allP2 trivial (allP1 trivial))) (allD2 [] _ _ (by kernel_rfl) (all_game_wins_ok h746) (by kernel_rfl) (by kernel_rfl) (by kernel_rfl) (by kernel_rfl) allD0) (chFz (ty := false) (d := 57) (u := .bool) (xs := v740 ++ [true]) (p := SmallLen (List.length v740 + List.length [true])) (by kernel_rfl) h744 (by kernel_rfl) (by kernel_rfl) chNil) mkNil (by kernel_rfl) ?_
                    obtain ⟨_, h747, h⟩ := bind_of h
                    replace h747 := ck_some h747
                    refine WO_run (j := 9) (k := 2) (orcs := []) (kF := [7, 8, 9, 26, 27, 28, 36, 37]) (kL := [7, 60]) (fr' := [(7, .one (.ptr 7 0)), (8, .one (.slc 60)), (9, aI i513), (26, aD (.slice .bool) a0), (27, aI (List.length a0 : Int)), (28, aI i513), (36, aI (bShl .i64 (1 : Int) i513)), (37, aI i723)]) (L' := [(7, .one (.pair (.slice .bool) (.slice (.pair (.slice tI) (.slice tI)))) (a0, a1)), (60, .seq .bool (x724 ++ [r745]))]) (obs := [SmallLen (List.length x724 + List.length [r745])]) rfl (by kernel_rfl) (allP1 h747) ?_
                    refine WO_fin [7, 8, 9, 26, 27, 28, 36, 37] [7, 60] (fr' := [(7, .one (.ptr 7 0)), (8, .one (.slc 60)), (9, aI i513), (26, aD (.slice .bool) a0), (27, aI (List.length a0 : Int)), (28, aI i513), (36, aI (bShl .i64 (1 : Int) i513)), (37, aI i723)]) (L' := [(7, .one (.pair (.slice .bool) (.slice (.pair (.slice tI) (.slice tI)))) (a0, a1)), (60, .seq .bool (x724 ++ [r745]))]) (by kernel_rfl) (by kernel_rfl) ?_
                    refine ⟨rfl, ?_⟩
                    refine blockQ_norm ?_
                    refine seqQ_norm ?_
                    obtain rfl := Option.some.inj h
                    refine W_run 2 [] [7, 8, 9, 26, 27, 28, 36, 37] [7, 60] (fr' := [(7, .one (.ptr 7 0)), (8, .one (.slc 60)), (9, aI i513), (26, aD (.slice .bool) a0), (27, aI (List.length a0 : Int)), (28, aI i513), (36, aI (bShl .i64 (1 : Int) i513)), (37, aI (w64 (i723 + (1 : Int))))]) (L' := [(7, .one (.pair (.slice .bool) (.slice (.pair (.slice tI) (.slice tI)))) (a0, a1)), (60, .seq .bool (x724 ++ [r745]))]) (obs := []) (by kernel_rfl) (by kernel_rfl) (by kernel_rfl) allP0 ?_
                    exact round_next' (by kernel_rfl) (by kernel_rfl)
                · obtain rfl := stepI_false h726 h
                  refine W_exit (id := 2) [7, 8, 26, 27, 28] [7, 60] (fr' := [(7, .one (.ptr 7 0)), (8, .one (.slc 60)), (26, aD (.slice .bool) a0), (27, aI (List.length a0 : Int)), (28, aI i513)]) (L' := [(7, .one (.pair (.slice .bool) (.slice (.pair (.slice tI) (.slice tI)))) (a0, a1)), (60, .seq .bool x724)]) (by kernel_rfl) (by kernel_rfl) ?_
                  refine seqQ_exit ?_
                  refine round_exit ?_
                  exact exQ_mk (by kernel_rfl) (by kernel_rfl)
              · intro e fr L hJ
                obtain ⟨rfl, rfl, rfl⟩ := hJ
                obtain rfl := Option.some.inj h
                refine LT_keep [7, 8, 26, 27, 28] [7, 60] (fr' := [(7, .one (.ptr 7 0)), (8, .one (.slc 60)), (26, aD (.slice .bool) a0), (27, aI (List.length a0 : Int)), (28, aI i513)]) (L' := [(7, .one (.pair (.slice .bool) (.slice (.pair (.slice tI) (.slice tI)))) (a0, a1)), (60, .seq .bool v749)]) (by kernel_rfl) ?_
                refine blockQ_hit ?_
                refine blockQ_norm ?_
                exact exQ_mk (by kernel_rfl) (by kernel_rfl)
          · intro e fr L hJ
            obtain ⟨rfl, rfl, rfl⟩ := hJ
            refine LT_keep [7, 8, 26, 27, 28] [7, 60] (fr' := [(7, .one (.ptr 7 0)), (8, .one (.slc 60)), (26, aD (.slice .bool) a0), (27, aI (List.length a0 : Int)), (28, aI i513)]) (L' := [(7, .one (.pair (.slice .bool) (.slice (.pair (.slice tI) (.slice tI)))) (a0, a1)), (60, .seq .bool v753)]) (by kernel_rfl) ?_
            refine seqQ_norm ?_
            obtain rfl := Option.some.inj h
            refine W_run 2 [] [7, 8, 26, 27, 28] [7, 60] (fr' := [(7, .one (.ptr 7 0)), (8, .one (.slc 60)), (26, aD (.slice .bool) a0), (27, aI (List.length a0 : Int)), (28, aI (w64 (i513 + (1 : Int))))]) (L' := [(7, .one (.pair (.slice .bool) (.slice (.pair (.slice tI) (.slice tI)))) (a0, a1)), (60, .seq .bool v753)]) (obs := []) (by kernel_rfl) (by kernel_rfl) (by kernel_rfl) allP0 ?_
            exact round_next' (by kernel_rfl) (by kernel_rfl)
        · obtain rfl := stepL_false h518 h
          refine W_exit (id := 0) [8] [60] (fr' := [(8, .one (.slc 60))]) (L' := [(60, .seq .bool x514)]) (by kernel_rfl) (by kernel_rfl) ?_
          refine seqQ_exit ?_
          refine round_exit ?_
          exact exQ_mk (by kernel_rfl) (by kernel_rfl)
      · intro e fr L hJ
        obtain ⟨rfl, rfl, rfl⟩ := hJ
        refine LT_keep [8] [60] (fr' := [(8, .one (.slc 60))]) (L' := [(60, .seq .bool v756)]) (by kernel_rfl) ?_
        refine blockQ_hit ?_
        refine seqQ_norm ?_
        refine W_seq (by kernel_rfl) ?_
        refine W_run 3 [] [4, 5] [60] (fr' := [(4, .one (.slc 60)), (5, aI (0 : Int))]) (L' := [(60, .seq .bool v756)]) (obs := []) (by kernel_rfl) (by kernel_rfl) (by kernel_rfl) allP0 ?_
        refine seqQ_norm ?_
        obtain rfl := Option.some.inj h
        refine W_frz 60 (by kernel_rfl) ?_
        refine W_ret [4, 5] [] (fr' := [(4, aD (.slice .bool) v756), (5, aI (0 : Int))]) (L' := []) (by kernel_rfl) (by kernel_rfl) ?_
        exact retQ_mk (by kernel_rfl) (by kernel_rfl) (by kernel_rfl)

def ref_Within (a0 : Int) (a1 : Int) (a2 : Int) : Option Bool :=
some ((decide (a0 ≤ a1)) && (decide (a1 ≤ a2)))
theorem ref_Within_ok {a0 : Int} {a1 : Int} {a2 : Int} {r : Bool} (h : ref_Within a0 a1 a2 = some r) : FnC Try.prog 13 [aI a0, aI a1, aI a2] [] (aB r) [] := by
  refine fnC_of_W (B := bodyOf Try.f13) (n := 15) Try.func13 (by kernel_rfl) (by kernel_rfl) (by kernel_rfl) (by kernel_rfl) (by kernel_rfl) ?_
  intro K
  refine W_seq (by kernel_rfl) ?_
  refine W_run 1 [] [0, 1, 2] [] (fr' := [(0, aI a0), (1, aI a1), (2, aI a2)]) (L' := []) (obs := []) (by kernel_rfl) (by kernel_rfl) (by kernel_rfl) allP0 ?_
  refine seqQ_norm ?_
  refine W_seq (by kernel_rfl) ?_
  refine W_run 9 [] [6] [] (fr' := [(6, aB ((decide (a0 ≤ a1)) && (decide (a1 ≤ a2))))]) (L' := []) (obs := []) (by kernel_rfl) (by kernel_rfl) (by kernel_rfl) allP0 ?_
  refine seqQ_norm ?_
  obtain rfl := Option.some.inj h
  refine W_ret [6] [] (fr' := [(6, aB ((decide (a0 ≤ a1)) && (decide (a1 ≤ a2))))]) (L' := []) (by kernel_rfl) (by kernel_rfl) ?_
  exact retQ_mk (by kernel_rfl) (by kernel_rfl) (by kernel_rfl)

def ref_Inside_b1 (a0 : Int) (i11 : Int) (v14 : Int) (x12 : Unit) : Option (Flow Unit (Esc Bool Unit)) :=
bif (decide (v14 < (0 : Int))) || (decide (v14 ≥ a0)) then
(some (.done (.ret false)))
else
(some (.next ()))
@[reducible] def ref_Inside_s2 (a0 : Int) (a1 : (List Int)) (v : Int × Unit) : Fr × LL := ([(0, aI a0), (7, aD (.slice tI) a1), (8, aI (List.length a1 : Int)), (9, aI v.1)], [])
@[reducible] def ref_Inside_s3 (v : Bool) : Fr × LL := ([(4, aB v)], [])
@[reducible] def ref_Inside_s4 (v : Unit) : Fr × LL := ([], [])
def ref_Inside (a0 : Int) (a1 : (List Int)) : Option Bool :=
(forL (ref_Inside_b1 a0) (fun x12 => (.brk ())) a1 0 ()).bind fun v19 =>
match v19 with
| .ret v24 =>
(some v24)
| .brk v25 =>
(some true)
theorem ref_Inside_ok {a0 : Int} {a1 : (List Int)} {r : Bool} (h : ref_Inside a0 a1 = some r) : FnC Try.prog 14 [aI a0, aD (.slice tI) a1] [] (aB r) [] := by
  refine fnC_of_W (B := bodyOf Try.f14) (n := 21) Try.func14 (by kernel_rfl) (by kernel_rfl) (by kernel_rfl) (by kernel_rfl) (by kernel_rfl) ?_
  intro K
  refine W_seq (by kernel_rfl) ?_
  refine W_run 1 [] [0, 1] [] (fr' := [(0, aI a0), (1, aD (.slice tI) a1)]) (L' := []) (obs := []) (by kernel_rfl) (by kernel_rfl) (by kernel_rfl) allP0 ?_
  refine seqQ_norm ?_
  refine W_seq (by kernel_rfl) ?_
  refine W_seq (by kernel_rfl) ?_
  refine W_run 3 [] [0, 7, 8, 9] [] (fr' := [(0, aI a0), (7, aD (.slice tI) a1), (8, aI (List.length a1 : Int)), (9, aI (0 : Int))]) (L' := []) (obs := []) (by kernel_rfl) (by kernel_rfl) (by kernel_rfl) allP0 ?_
  refine seqQ_norm ?_
  refine W_block (id := 0) (by kernel_rfl) ?_
  obtain ⟨v19, h20, h⟩ := bind_of h
  refine W_len (t := 7) (u := tI) (xs := a1) (by kernel_rfl) (fun h23 => ?_)
  obtain ⟨h21, h22⟩ := forL_iter h23 h20
  refine W_weaken [0, 7, 8, 9] [] (fr' := ((ref_Inside_s2 a0 a1) ((0 : Int), ())).1) (L' := ((ref_Inside_s2 a0 a1) ((0 : Int), ())).2) (by kernel_rfl) ?_
  refine W_cutK (W_loop (S := (ref_Inside_s2 a0 a1)) (J := (escQ (exQ .ret ref_Inside_s3) (exQ (.exit 0) ref_Inside_s4))) (by kernel_rfl) ?_ h21 _ v19 h22) ?_
  · rintro ⟨i11, x12⟩ s h
    refine W_seq (by kernel_rfl) ?_
    refine W_run 1 [] [0, 7, 8, 9, 10] [] (fr' := [(0, aI a0), (7, aD (.slice tI) a1), (8, aI (List.length a1 : Int)), (9, aI i11), (10, aB (decide (i11 < (List.length a1 : Int))))]) (L' := []) (obs := []) (by kernel_rfl) (by kernel_rfl) (by kernel_rfl) allP0 ?_
    refine seqQ_norm ?_
    refine W_seq (by kernel_rfl) ?_
    refine W_cond (o := .tmp 10) (b := decide (i11 < (List.length a1 : Int))) (by kernel_rfl) (by kernel_rfl) (fun h16 => ?_) (fun h16 => ?_)
    · replace h := stepL_true h16 h
      obtain ⟨v14, _, h15, h, rfl⟩ := h
      refine W_skip [0, 7, 8, 9] [] (fr' := [(0, aI a0), (7, aD (.slice tI) a1), (8, aI (List.length a1 : Int)), (9, aI i11)]) (L' := []) (by kernel_rfl) (by kernel_rfl) ?_
      refine seqQ_norm ?_
      refine W_seq (by kernel_rfl) ?_
      refine W_block (id := 1) (by kernel_rfl) ?_
      refine W_seq (by kernel_rfl) ?_
      refine W_run 3 [(1, .val (.dat tI v14))] [0, 6, 7, 8, 9] [] (fr' := [(0, aI a0), (6, aI v14), (7, aD (.slice tI) a1), (8, aI (List.length a1 : Int)), (9, aI i11)]) (L' := []) (obs := [Idx a1 i11 v14]) (by kernel_rfl) (by kernel_rfl) (by kernel_rfl) (allP1 (Idx.of h15)) ?_
      refine seqQ_norm ?_
      refine W_seq (by kernel_rfl) ?_
      refine W_run 7 [] [0, 7, 8, 9, 19] [] (fr' := [(0, aI a0), (7, aD (.slice tI) a1), (8, aI (List.length a1 : Int)), (9, aI i11), (19, aB ((decide (v14 < (0 : Int))) || (decide (v14 ≥ a0))))]) (L' := []) (obs := []) (by kernel_rfl) (by kernel_rfl) (by kernel_rfl) allP0 ?_
      refine seqQ_norm ?_
      refine W_cond (o := .tmp 19) (b := (decide (v14 < (0 : Int))) || (decide (v14 ≥ a0))) (by kernel_rfl) (by kernel_rfl) (fun h17 => ?_) (fun h17 => ?_)
      · replace h := ofT h17 h
        refine W_seq (by kernel_rfl) ?_
        refine W_run 1 [] [4] [] (fr' := [(4, aB false)]) (L' := []) (obs := []) (by kernel_rfl) (by kernel_rfl) (by kernel_rfl) allP0 ?_
        refine seqQ_norm ?_
        obtain rfl := Option.some.inj h
        refine W_ret [4] [] (fr' := [(4, aB false)]) (L' := []) (by kernel_rfl) (by kernel_rfl) ?_
        refine blockQ_ret ?_
        refine seqQ_ret ?_
        refine round_ret ?_
        refine escQ_ret ?_
        exact exQ_mk (by kernel_rfl) (by kernel_rfl)
      · replace h := ofF h17 h
        refine W_skip [0, 7, 8, 9] [] (fr' := [(0, aI a0), (7, aD (.slice tI) a1), (8, aI (List.length a1 : Int)), (9, aI i11)]) (L' := []) (by kernel_rfl) (by kernel_rfl) ?_
        refine blockQ_norm ?_
        refine seqQ_norm ?_
        obtain rfl := Option.some.inj h
        refine W_run 2 [] [0, 7, 8, 9] [] (fr' := [(0, aI a0), (7, aD (.slice tI) a1), (8, aI (List.length a1 : Int)), (9, aI (w64 (i11 + (1 : Int))))]) (L' := []) (obs := []) (by kernel_rfl) (by kernel_rfl) (by kernel_rfl) allP0 ?_
        exact round_next' (by kernel_rfl) (by kernel_rfl)
    · obtain rfl := stepL_false h16 h
      refine W_exit (id := 0) [] [] (fr' := []) (L' := []) (by kernel_rfl) (by kernel_rfl) ?_
      refine seqQ_exit ?_
      refine round_exit ?_
      refine escQ_brk ?_
      exact exQ_mk (by kernel_rfl) (by kernel_rfl)
  · intro e fr L hJ
    rcases v19 with v24 | v25
    · obtain ⟨rfl, rfl, rfl⟩ := hJ
      obtain rfl := Option.some.inj h
      refine LT_keep [4] [] (fr' := [(4, aB v24)]) (L' := []) (by kernel_rfl) ?_
      refine blockQ_ret ?_
      refine seqQ_ret ?_
      exact retQ_mk (by kernel_rfl) (by kernel_rfl) (by kernel_rfl)
    · obtain ⟨rfl, rfl, rfl⟩ := hJ
      refine LT_keep [] [] (fr' := []) (L' := []) (by kernel_rfl) ?_
      refine blockQ_hit ?_
      refine seqQ_norm ?_
      refine W_seq (by kernel_rfl) ?_
      refine W_run 1 [] [4] [] (fr' := [(4, aB true)]) (L' := []) (obs := []) (by kernel_rfl) (by kernel_rfl) (by kernel_rfl) allP0 ?_
      refine seqQ_norm ?_
      obtain rfl := Option.some.inj h
      refine W_ret [4] [] (fr' := [(4, aB true)]) (L' := []) (by kernel_rfl) (by kernel_rfl) ?_
      exact retQ_mk (by kernel_rfl) (by kernel_rfl) (by kernel_rfl)

@[reducible] def ref_ClausesCheck_s5 (a0 : Int) (a2 : (List ((List Int) × (List Int)))) (i62 : Int) (v : Bool) : Fr × LL := ([(0, aI a0), (18, aD (.slice (.pair (.slice tI) (.slice tI))) a2), (19, aI (List.length a2 : Int)), (20, aI i62), (45, aB v)], [])
@[reducible] def ref_ClausesCheck_s6 (a0 : Int) (a2 : (List ((List Int) × (List Int)))) (i62 : Int) (v65 : ((List Int) × (List Int))) (v : Bool) : Fr × LL := ([(0, aI a0), (8, .one (.ptr 8 0)), (18, aD (.slice (.pair (.slice tI) (.slice tI))) a2), (19, aI (List.length a2 : Int)), (20, aI i62), (33, aB v)], [(8, .one (.pair (.slice tI) (.slice tI)) v65)])
def ref_ClausesCheck_b7 (a0 : Int) (i62 : Int) (v65 : ((List Int) × (List Int))) (x63 : Unit) : Option (Flow Unit (Esc Int Unit)) :=
(bif decide ((List.length v65.1 : Int) > (8 : Int)) then
(some true)
else
(some (decide ((List.length v65.2 : Int) > (8 : Int))))).bind fun v71 =>
bif v71 then
(some (.done (.ret (1 : Int))))
else
(((ref_Inside a0 v65.1).bind fun r84 =>
bif !r84 then
(some true)
else
((ref_Inside a0 v65.2).bind fun r87 =>
some (!r87))).bind fun v89 =>
bif v89 then
(some (.done (.ret (2 : Int))))
else
(some (.next ())))
@[reducible] def ref_ClausesCheck_s8 (a0 : Int) (a2 : (List ((List Int) × (List Int)))) (v : Int × Unit) : Fr × LL := ([(0, aI a0), (18, aD (.slice (.pair (.slice tI) (.slice tI))) a2), (19, aI (List.length a2 : Int)), (20, aI v.1)], [])
@[reducible] def ref_ClausesCheck_s9 (v : Int) : Fr × LL := ([(6, aI v)], [])
@[reducible] def ref_ClausesCheck_s10 (v : Unit) : Fr × LL := ([], [])
def ref_ClausesCheck (a0 : Int) (a1 : Int) (a2 : (List ((List Int) × (List Int)))) : Option Int :=
(ref_Within (0 : Int) a0 a1).bind fun r3 =>
bif (!r3) || (decide ((List.length a2 : Int) > (200 : Int))) then
(some (1 : Int))
else
((forL (ref_ClausesCheck_b7 a0) (fun x63 => (.brk ())) a2 0 ()).bind fun v93 =>
match v93 with
| .ret v98 =>
(some v98)
| .brk v99 =>
(some (0 : Int)))
theorem ref_ClausesCheck_ok {a0 : Int} {a1 : Int} {a2 : (List ((List Int) × (List Int)))} {r : Int} (h : ref_ClausesCheck a0 a1 a2 = some r) : FnC Try.prog 47 [aI a0, aI a1, aD (.slice (.pair (.slice tI) (.slice tI))) a2] [] (aI r) [] := by
  refine fnC_of_W (B := bodyOf Try.f47) (n := 47) Try.func47 (by kernel_rfl) (by kernel_rfl) (by kernel_rfl) (by kernel_rfl) (by kernel_rfl) ?_
  intro K
  refine W_seq (by kernel_rfl) ?_
  refine W_run 1 [] [0, 1, 2] [] (fr' := [(0, aI a0), (1, aI a1), (2, aD (.slice (.pair (.slice tI) (.slice tI))) a2)]) (L' := []) (obs := []) (by kernel_rfl) (by kernel_rfl) (by kernel_rfl) allP0 ?_
  refine seqQ_norm ?_
  refine W_seq (by kernel_rfl) ?_
  refine W_seq (by kernel_rfl) ?_
  refine W_region (by kernel_rfl) ?_
  refine WO_run (j := 2) (k := 2) (orcs := []) (kF := [0, 2, 9, 10]) (kL := []) (fr' := [(0, aI a0), (2, aD (.slice (.pair (.slice tI) (.slice tI))) a2), (9, aI a0), (10, aI a1)]) (L' := []) (obs := []) rfl (by kernel_rfl) allP0 ?_
  obtain ⟨r3, h4, h⟩ := bind_of h
  refine WO_call0 (us := [none, none, none]) (d := 11) (p := True) (j := 3) rfl ⟨by kernel_rfl, by kernel_rfl, by kernel_rfl⟩ trivial (ref_Within_ok h4) (by kernel_rfl) ?_
  refine WO_run (j := 9) (k := 6) (orcs := []) (kF := [0, 2, 17]) (kL := []) (fr' := [(0, aI a0), (2, aD (.slice (.pair (.slice tI) (.slice tI))) a2), (17, aB ((!r3) || (decide ((List.length a2 : Int) > (200 : Int)))))]) (L' := []) (obs := []) rfl (by kernel_rfl) allP0 ?_
  refine WO_fin [0, 2, 17] [] (fr' := [(0, aI a0), (2, aD (.slice (.pair (.slice tI) (.slice tI))) a2), (17, aB ((!r3) || (decide ((List.length a2 : Int) > (200 : Int)))))]) (L' := []) (by kernel_rfl) (by kernel_rfl) ?_
  refine seqQ_norm ?_
  refine W_cond (o := .tmp 17) (b := (!r3) || (decide ((List.length a2 : Int) > (200 : Int)))) (by kernel_rfl) (by kernel_rfl) (fun h5 => ?_) (fun h5 => ?_)
  · replace h := ofT h5 h
    refine W_seq (by kernel_rfl) ?_
    refine W_run 1 [] [6] [] (fr' := [(6, aI (1 : Int))]) (L' := []) (obs := []) (by kernel_rfl) (by kernel_rfl) (by kernel_rfl) allP0 ?_
    refine seqQ_norm ?_
    obtain rfl := Option.some.inj h
    refine W_ret [6] [] (fr' := [(6, aI (1 : Int))]) (L' := []) (by kernel_rfl) (by kernel_rfl) ?_
    refine seqQ_ret ?_
    exact retQ_mk (by kernel_rfl) (by kernel_rfl) (by kernel_rfl)
  · replace h := ofF h5 h
    refine W_skip [0, 2] [] (fr' := [(0, aI a0), (2, aD (.slice (.pair (.slice tI) (.slice tI))) a2)]) (L' := []) (by kernel_rfl) (by kernel_rfl) ?_
    refine seqQ_norm ?_
    refine W_seq (by kernel_rfl) ?_
    refine W_seq (by kernel_rfl) ?_
    refine W_run 3 [] [0, 18, 19, 20] [] (fr' := [(0, aI a0), (18, aD (.slice (.pair (.slice tI) (.slice tI))) a2), (19, aI (List.length a2 : Int)), (20, aI (0 : Int))]) (L' := []) (obs := []) (by kernel_rfl) (by kernel_rfl) (by kernel_rfl) allP0 ?_
    refine seqQ_norm ?_
    refine W_block (id := 0) (by kernel_rfl) ?_
    obtain ⟨v93, h94, h⟩ := bind_of h
    refine W_len (t := 18) (u := (.pair (.slice tI) (.slice tI))) (xs := a2) (by kernel_rfl) (fun h97 => ?_)
    obtain ⟨h95, h96⟩ := forL_iter h97 h94
    refine W_weaken [0, 18, 19, 20] [] (fr' := ((ref_ClausesCheck_s8 a0 a2) ((0 : Int), ())).1) (L' := ((ref_ClausesCheck_s8 a0 a2) ((0 : Int), ())).2) (by kernel_rfl) ?_
    refine W_cutK (W_loop (S := (ref_ClausesCheck_s8 a0 a2)) (J := (escQ (exQ .ret ref_ClausesCheck_s9) (exQ (.exit 0) ref_ClausesCheck_s10))) (by kernel_rfl) ?_ h95 _ v93 h96) ?_
    · rintro ⟨i62, x63⟩ s h
      refine W_seq (by kernel_rfl) ?_
      refine W_run 1 [] [0, 18, 19, 20, 21] [] (fr' := [(0, aI a0), (18, aD (.slice (.pair (.slice tI) (.slice tI))) a2), (19, aI (List.length a2 : Int)), (20, aI i62), (21, aB (decide (i62 < (List.length a2 : Int))))]) (L' := []) (obs := []) (by kernel_rfl) (by kernel_rfl) (by kernel_rfl) allP0 ?_
      refine seqQ_norm ?_
      refine W_seq (by kernel_rfl) ?_
      refine W_cond (o := .tmp 21) (b := decide (i62 < (List.length a2 : Int))) (by kernel_rfl) (by kernel_rfl) (fun h67 => ?_) (fun h67 => ?_)
      · replace h := stepL_true h67 h
        obtain ⟨v65, _, h66, h, rfl⟩ := h
        refine W_skip [0, 18, 19, 20] [] (fr' := [(0, aI a0), (18, aD (.slice (.pair (.slice tI) (.slice tI))) a2), (19, aI (List.length a2 : Int)), (20, aI i62)]) (L' := []) (by kernel_rfl) (by kernel_rfl) ?_
        refine seqQ_norm ?_
        refine W_seq (by kernel_rfl) ?_
        refine W_block (id := 1) (by kernel_rfl) ?_
        refine W_seq (by kernel_rfl) ?_
        refine W_run 4 [(1, .val (.dat (.pair (.slice tI) (.slice tI)) v65)), (5, .typed)] [0, 8, 18, 19, 20] [8] (fr' := [(0, aI a0), (8, .one (.ptr 8 0)), (18, aD (.slice (.pair (.slice tI) (.slice tI))) a2), (19, aI (List.length a2 : Int)), (20, aI i62)]) (L' := [(8, .one (.pair (.slice tI) (.slice tI)) v65)]) (obs := [Idx a2 i62 v65, True]) (by kernel_rfl) (by kernel_rfl) (by kernel_rfl) (allP2 (Idx.of h66) (allP1 trivial)) ?_
        refine seqQ_norm ?_
        refine W_seq (by kernel_rfl) ?_
        refine W_seq (by kernel_rfl) ?_
        obtain ⟨v71, h72, h⟩ := bind_of h
        refine W_cutK (Q' := (exQ .normal (ref_ClausesCheck_s6 a0 a2 i62 v65)) v71) ?_ ?_
        · replace h := h72
          refine W_region (by kernel_rfl) ?_
          refine WO_run (j := 5) (k := 5) (orcs := []) (kF := [0, 8, 18, 19, 20, 28]) (kL := [8]) (fr' := [(0, aI a0), (8, .one (.ptr 8 0)), (18, aD (.slice (.pair (.slice tI) (.slice tI))) a2), (19, aI (List.length a2 : Int)), (20, aI i62), (28, aB (decide ((List.length v65.1 : Int) > (8 : Int))))]) (L' := [(8, .one (.pair (.slice tI) (.slice tI)) v65)]) (obs := []) rfl (by kernel_rfl) allP0 ?_
          rcases Bool.eq_false_or_eq_true (decide ((List.length v65.1 : Int) > (8 : Int))) with h70 | h70
          · replace h := ofT h70 h
            refine WO_run (j := 10) (k := 5) (orcs := [(10, .known true), (12, .known true), (14, .known true), (16, .known true), (19, .val (.dat .bool true))]) (kF := [0, 8, 18, 19, 20, 33]) (kL := [8]) (fr' := [(0, aI a0), (8, .one (.ptr 8 0)), (18, aD (.slice (.pair (.slice tI) (.slice tI))) a2), (19, aI (List.length a2 : Int)), (20, aI i62), (33, aB true)]) (L' := [(8, .one (.pair (.slice tI) (.slice tI)) v65)]) (obs := [((decide ((List.length v65.1 : Int) > (8 : Int))) = true), ((decide ((List.length v65.1 : Int) > (8 : Int))) = true), ((decide ((List.length v65.1 : Int) > (8 : Int))) = true), ((decide ((List.length v65.1 : Int) > (8 : Int))) = true), ((decide ((List.length v65.1 : Int) > (8 : Int))) = true)]) rfl (by kernel_rfl) (allP2 h70 (allP2 h70 (allP2 h70 (allP2 h70 (allP1 h70))))) ?_
            obtain rfl := Option.some.inj h
            refine WO_fin [0, 8, 18, 19, 20, 33] [8] (fr' := [(0, aI a0), (8, .one (.ptr 8 0)), (18, aD (.slice (.pair (.slice tI) (.slice tI))) a2), (19, aI (List.length a2 : Int)), (20, aI i62), (33, aB true)]) (L' := [(8, .one (.pair (.slice tI) (.slice tI)) v65)]) (by kernel_rfl) (by kernel_rfl) ?_
            exact exQ_mk (by kernel_rfl) (by kernel_rfl)
          · replace h := ofF h70 h
            refine WO_run (j := 10) (k := 5) (orcs := [(10, .known false), (12, .known false), (14, .known false), (16, .known false), (19, .val (.dat .bool false))]) (kF := [0, 8, 18, 19, 20, 33]) (kL := [8]) (fr' := [(0, aI a0), (8, .one (.ptr 8 0)), (18, aD (.slice (.pair (.slice tI) (.slice tI))) a2), (19, aI (List.length a2 : Int)), (20, aI i62), (33, aB (decide ((List.length v65.2 : Int) > (8 : Int))))]) (L' := [(8, .one (.pair (.slice tI) (.slice tI)) v65)]) (obs := [((decide ((List.length v65.1 : Int) > (8 : Int))) = false), ((decide ((List.length v65.1 : Int) > (8 : Int))) = false), ((decide ((List.length v65.1 : Int) > (8 : Int))) = false), ((decide ((List.length v65.1 : Int) > (8 : Int))) = false), ((decide ((List.length v65.1 : Int) > (8 : Int))) = false)]) rfl (by kernel_rfl) (allP2 h70 (allP2 h70 (allP2 h70 (allP2 h70 (allP1 h70))))) ?_
            obtain rfl := Option.some.inj h
            refine WO_fin [0, 8, 18, 19, 20, 33] [8] (fr' := [(0, aI a0), (8, .one (.ptr 8 0)), (18, aD (.slice (.pair (.slice tI) (.slice tI))) a2), (19, aI (List.length a2 : Int)), (20, aI i62), (33, aB (decide ((List.length v65.2 : Int) > (8 : Int))))]) (L' := [(8, .one (.pair (.slice tI) (.slice tI)) v65)]) (by kernel_rfl) (by kernel_rfl) ?_
            exact exQ_mk (by kernel_rfl) (by kernel_rfl)
        · intro e fr L hJ
          obtain ⟨rfl, rfl, rfl⟩ := hJ
          refine LT_keep [0, 8, 18, 19, 20, 33] [8] (fr' := [(0, aI a0), (8, .one (.ptr 8 0)), (18, aD (.slice (.pair (.slice tI) (.slice tI))) a2), (19, aI (List.length a2 : Int)), (20, aI i62), (33, aB v71)]) (L' := [(8, .one (.pair (.slice tI) (.slice tI)) v65)]) (by kernel_rfl) ?_
          refine seqQ_norm ?_
          refine W_cond (o := .tmp 33) (b := v71) (by kernel_rfl) (by kernel_rfl) (fun h73 => ?_) (fun h73 => ?_)
          · replace h := ofT h73 h
            refine W_seq (by kernel_rfl) ?_
            refine W_run 1 [] [6] [] (fr' := [(6, aI (1 : Int))]) (L' := []) (obs := []) (by kernel_rfl) (by kernel_rfl) (by kernel_rfl) allP0 ?_
            refine seqQ_norm ?_
            obtain rfl := Option.some.inj h
            refine W_ret [6] [] (fr' := [(6, aI (1 : Int))]) (L' := []) (by kernel_rfl) (by kernel_rfl) ?_
            refine seqQ_ret ?_
            refine blockQ_ret ?_
            refine seqQ_ret ?_
            refine round_ret ?_
            refine escQ_ret ?_
            exact exQ_mk (by kernel_rfl) (by kernel_rfl)
          · replace h := ofF h73 h
            refine W_skip [0, 8, 18, 19, 20] [8] (fr' := [(0, aI a0), (8, .one (.ptr 8 0)), (18, aD (.slice (.pair (.slice tI) (.slice tI))) a2), (19, aI (List.length a2 : Int)), (20, aI i62)]) (L' := [(8, .one (.pair (.slice tI) (.slice tI)) v65)]) (by kernel_rfl) (by kernel_rfl) ?_
            refine seqQ_norm ?_
            refine W_seq (by kernel_rfl) ?_
            obtain ⟨v89, h90, h⟩ := bind_of h
            refine W_cutK (Q' := (exQ .normal (ref_ClausesCheck_s5 a0 a2 i62)) v89) ?_ ?_
            · replace h := h90
              refine W_region (by kernel_rfl) ?_
              refine WO_run (j := 3) (k := 3) (orcs := []) (kF := [0, 8, 18, 19, 20, 34, 36]) (kL := [8]) (fr' := [(0, aI a0), (8, .one (.ptr 8 0)), (18, aD (.slice (.pair (.slice tI) (.slice tI))) a2), (19, aI (List.length a2 : Int)), (20, aI i62), (34, aI a0), (36, aD (.slice tI) v65.1)]) (L' := [(8, .one (.pair (.slice tI) (.slice tI)) v65)]) (obs := []) rfl (by kernel_rfl) allP0 ?_
              obtain ⟨r84, h85, h⟩ := bind_of h
              refine WO_call0 (us := [none, none]) (d := 37) (p := True) (j := 4) rfl ⟨by kernel_rfl, by kernel_rfl, by kernel_rfl⟩ trivial (ref_Inside_ok h85) (by kernel_rfl) ?_
              refine WO_run (j := 6) (k := 2) (orcs := []) (kF := [0, 8, 18, 19, 20, 39]) (kL := [8]) (fr' := [(0, aI a0), (8, .one (.ptr 8 0)), (18, aD (.slice (.pair (.slice tI) (.slice tI))) a2), (19, aI (List.length a2 : Int)), (20, aI i62), (39, aB (!r84))]) (L' := [(8, .one (.pair (.slice tI) (.slice tI)) v65)]) (obs := []) rfl (by kernel_rfl) allP0 ?_
              rcases Bool.eq_false_or_eq_true (!r84) with h86 | h86
              · replace h := ofT h86 h
                refine WO_run (j := 12) (k := 6) (orcs := [(12, .known true), (14, .known true), (16, .known true), (18, .known true), (20, .known true), (23, .val (.dat .bool true))]) (kF := [0, 18, 19, 20, 45]) (kL := [8]) (fr' := [(0, aI a0), (18, aD (.slice (.pair (.slice tI) (.slice tI))) a2), (19, aI (List.length a2 : Int)), (20, aI i62), (45, aB true)]) (L' := [(8, .one (.pair (.slice tI) (.slice tI)) v65)]) (obs := [((!r84) = true), ((!r84) = true), ((!r84) = true), ((!r84) = true), ((!r84) = true), ((!r84) = true)]) rfl (by kernel_rfl) (allP2 h86 (allP2 h86 (allP2 h86 (allP2 h86 (allP2 h86 (allP1 h86)))))) ?_
                obtain rfl := Option.some.inj h
                refine WO_fin [0, 18, 19, 20, 45] [] (fr' := [(0, aI a0), (18, aD (.slice (.pair (.slice tI) (.slice tI))) a2), (19, aI (List.length a2 : Int)), (20, aI i62), (45, aB true)]) (L' := []) (by kernel_rfl) (by kernel_rfl) ?_
                exact exQ_mk (by kernel_rfl) (by kernel_rfl)
              · replace h := ofF h86 h
                refine WO_run (j := 9) (k := 3) (orcs := [(12, .known false), (14, .known false), (16, .known false)]) (kF := [0, 18, 19, 20, 39, 40, 42]) (kL := [8]) (fr' := [(0, aI a0), (18, aD (.slice (.pair (.slice tI) (.slice tI))) a2), (19, aI (List.length a2 : Int)), (20, aI i62), (39, aB (!r84)), (40, aI a0), (42, aD (.slice tI) v65.2)]) (L' := [(8, .one (.pair (.slice tI) (.slice tI)) v65)]) (obs := [((!r84) = false), ((!r84) = false), ((!r84) = false)]) rfl (by kernel_rfl) (allP2 h86 (allP2 h86 (allP1 h86))) ?_
                obtain ⟨r87, h88, h⟩ := bind_of h
                refine WO_call0 (us := [none, none]) (d := 43) (p := ((!r84) = false)) (j := 10) rfl ⟨by kernel_rfl, by kernel_rfl, by kernel_rfl⟩ h86 (ref_Inside_ok h88) (by kernel_rfl) ?_
                refine WO_run (j := 12) (k := 2) (orcs := [(20, .known false), (23, .val (.dat .bool false))]) (kF := [0, 18, 19, 20, 45]) (kL := [8]) (fr' := [(0, aI a0), (18, aD (.slice (.pair (.slice tI) (.slice tI))) a2), (19, aI (List.length a2 : Int)), (20, aI i62), (45, aB (!r87))]) (L' := [(8, .one (.pair (.slice tI) (.slice tI)) v65)]) (obs := [((!r84) = false), ((!r84) = false)]) rfl (by kernel_rfl) (allP2 h86 (allP1 h86)) ?_
                obtain rfl := Option.some.inj h
                refine WO_fin [0, 18, 19, 20, 45] [] (fr' := [(0, aI a0), (18, aD (.slice (.pair (.slice tI) (.slice tI))) a2), (19, aI (List.length a2 : Int)), (20, aI i62), (45, aB (!r87))]) (L' := []) (by kernel_rfl) (by kernel_rfl) ?_
                exact exQ_mk (by kernel_rfl) (by kernel_rfl)
            · intro e fr L hJ
              obtain ⟨rfl, rfl, rfl⟩ := hJ
              refine LT_keep [0, 18, 19, 20, 45] [] (fr' := [(0, aI a0), (18, aD (.slice (.pair (.slice tI) (.slice tI))) a2), (19, aI (List.length a2 : Int)), (20, aI i62), (45, aB v89)]) (L' := []) (by kernel_rfl) ?_
              refine seqQ_norm ?_
              refine W_cond (o := .tmp 45) (b := v89) (by kernel_rfl) (by kernel_rfl) (fun h91 => ?_) (fun h91 => ?_)
              · replace h := ofT h91 h
                refine W_seq (by kernel_rfl) ?_
                refine W_run 1 [] [6] [] (fr' := [(6, aI (2 : Int))]) (L' := []) (obs := []) (by kernel_rfl) (by kernel_rfl) (by kernel_rfl) allP0 ?_
                refine seqQ_norm ?_
                obtain rfl := Option.some.inj h
                refine W_ret [6] [] (fr' := [(6, aI (2 : Int))]) (L' := []) (by kernel_rfl) (by kernel_rfl) ?_
                refine blockQ_ret ?_
                refine seqQ_ret ?_
                refine round_ret ?_
                refine escQ_ret ?_
                exact exQ_mk (by kernel_rfl) (by kernel_rfl)
              · replace h := ofF h91 h
                refine W_skip [0, 18, 19, 20] [] (fr' := [(0, aI a0), (18, aD (.slice (.pair (.slice tI) (.slice tI))) a2), (19, aI (List.length a2 : Int)), (20, aI i62)]) (L' := []) (by kernel_rfl) (by kernel_rfl) ?_
                refine blockQ_norm ?_
                refine seqQ_norm ?_
                obtain rfl := Option.some.inj h
                refine W_run 2 [] [0, 18, 19, 20] [] (fr' := [(0, aI a0), (18, aD (.slice (.pair (.slice tI) (.slice tI))) a2), (19, aI (List.length a2 : Int)), (20, aI (w64 (i62 + (1 : Int))))]) (L' := []) (obs := []) (by kernel_rfl) (by kernel_rfl) (by kernel_rfl) allP0 ?_
                exact round_next' (by kernel_rfl) (by kernel_rfl)
      · obtain rfl := stepL_false h67 h
        refine W_exit (id := 0) [] [] (fr' := []) (L' := []) (by kernel_rfl) (by kernel_rfl) ?_
        refine seqQ_exit ?_
        refine round_exit ?_
        refine escQ_brk ?_
        exact exQ_mk (by kernel_rfl) (by kernel_rfl)
    · intro e fr L hJ
      rcases v93 with v98 | v99
      · obtain ⟨rfl, rfl, rfl⟩ := hJ
        obtain rfl := Option.some.inj h
        refine LT_keep [6] [] (fr' := [(6, aI v98)]) (L' := []) (by kernel_rfl) ?_
        refine blockQ_ret ?_
        refine seqQ_ret ?_
        exact retQ_mk (by kernel_rfl) (by kernel_rfl) (by kernel_rfl)
      · obtain ⟨rfl, rfl, rfl⟩ := hJ
        refine LT_keep [] [] (fr' := []) (L' := []) (by kernel_rfl) ?_
        refine blockQ_hit ?_
        refine seqQ_norm ?_
        refine W_seq (by kernel_rfl) ?_
        refine W_run 1 [] [6] [] (fr' := [(6, aI (0 : Int))]) (L' := []) (obs := []) (by kernel_rfl) (by kernel_rfl) (by kernel_rfl) allP0 ?_
        refine seqQ_norm ?_
        obtain rfl := Option.some.inj h
        refine W_ret [6] [] (fr' := [(6, aI (0 : Int))]) (L' := []) (by kernel_rfl) (by kernel_rfl) ?_
        exact retQ_mk (by kernel_rfl) (by kernel_rfl) (by kernel_rfl)

def ref_AllCheck (a0 : (List Bool)) (a1 : (List ((List Int) × (List Int)))) : Option Int :=
bif (decide ((List.length a0 : Int) > (8 : Int))) || (decide ((List.length a1 : Int) > (12 : Int))) then
(some (1 : Int))
else
((ref_ClausesCheck (List.length a0 : Int) (8 : Int) a1).bind fun r2 =>
some r2)
theorem ref_AllCheck_ok {a0 : (List Bool)} {a1 : (List ((List Int) × (List Int)))} {r : Int} (h : ref_AllCheck a0 a1 = some r) : FnC Try.prog 19 [aD (.slice .bool) a0, aD (.slice (.pair (.slice tI) (.slice tI))) a1] [] (aI r) [] := by
  refine fnC_of_W (B := bodyOf Try.f19) (n := 17) Try.func19 (by kernel_rfl) (by kernel_rfl) (by kernel_rfl) (by kernel_rfl) (by kernel_rfl) ?_
  intro K
  refine W_seq (by kernel_rfl) ?_
  refine W_run 1 [] [0, 1] [] (fr' := [(0, aD (.slice .bool) a0), (1, aD (.slice (.pair (.slice tI) (.slice tI))) a1)]) (L' := []) (obs := []) (by kernel_rfl) (by kernel_rfl) (by kernel_rfl) allP0 ?_
  refine seqQ_norm ?_
  refine W_seq (by kernel_rfl) ?_
  refine W_seq (by kernel_rfl) ?_
  refine W_run 8 [] [0, 1, 12] [] (fr' := [(0, aD (.slice .bool) a0), (1, aD (.slice (.pair (.slice tI) (.slice tI))) a1), (12, aB ((decide ((List.length a0 : Int) > (8 : Int))) || (decide ((List.length a1 : Int) > (12 : Int)))))]) (L' := []) (obs := []) (by kernel_rfl) (by kernel_rfl) (by kernel_rfl) allP0 ?_
  refine seqQ_norm ?_
  refine W_cond (o := .tmp 12) (b := (decide ((List.length a0 : Int) > (8 : Int))) || (decide ((List.length a1 : Int) > (12 : Int)))) (by kernel_rfl) (by kernel_rfl) (fun h1 => ?_) (fun h1 => ?_)
  · replace h := ofT h1 h
    refine W_seq (by kernel_rfl) ?_
    refine W_run 1 [] [4] [] (fr' := [(4, aI (1 : Int))]) (L' := []) (obs := []) (by kernel_rfl) (by kernel_rfl) (by kernel_rfl) allP0 ?_
    refine seqQ_norm ?_
    obtain rfl := Option.some.inj h
    refine W_ret [4] [] (fr' := [(4, aI (1 : Int))]) (L' := []) (by kernel_rfl) (by kernel_rfl) ?_
    refine seqQ_ret ?_
    exact retQ_mk (by kernel_rfl) (by kernel_rfl) (by kernel_rfl)
  · replace h := ofF h1 h
    refine W_skip [0, 1] [] (fr' := [(0, aD (.slice .bool) a0), (1, aD (.slice (.pair (.slice tI) (.slice tI))) a1)]) (L' := []) (by kernel_rfl) (by kernel_rfl) ?_
    refine seqQ_norm ?_
    refine W_seq (by kernel_rfl) ?_
    refine W_region (by kernel_rfl) ?_
    refine WO_run (j := 3) (k := 3) (orcs := []) (kF := [14, 15]) (kL := []) (fr' := [(14, aI (List.length a0 : Int)), (15, aD (.slice (.pair (.slice tI) (.slice tI))) a1)]) (L' := []) (obs := []) rfl (by kernel_rfl) allP0 ?_
    obtain ⟨r2, h3, h⟩ := bind_of h
    refine WO_call0 (us := [none, none, none]) (d := 16) (p := True) (j := 4) rfl ⟨by kernel_rfl, by kernel_rfl, by kernel_rfl⟩ trivial (ref_ClausesCheck_ok h3) (by kernel_rfl) ?_
    refine WO_run (j := 5) (k := 1) (orcs := []) (kF := [4]) (kL := []) (fr' := [(4, aI r2)]) (L' := []) (obs := []) rfl (by kernel_rfl) allP0 ?_
    refine WO_fin [4] [] (fr' := [(4, aI r2)]) (L' := []) (by kernel_rfl) (by kernel_rfl) ?_
    refine seqQ_norm ?_
    obtain rfl := Option.some.inj h
    refine W_ret [4] [] (fr' := [(4, aI r2)]) (L' := []) (by kernel_rfl) (by kernel_rfl) ?_
    exact retQ_mk (by kernel_rfl) (by kernel_rfl) (by kernel_rfl)

def ref_ClauseTrue_b1 (a1 : (List Bool)) (i15 : Int) (v18 : Int) (x16 : Unit) : Option (Flow Unit (Esc Bool Unit)) :=
(idx a1 v18).bind fun v21 =>
bif v21 then
(some (.done (.ret true)))
else
(some (.next ()))
@[reducible] def ref_ClauseTrue_s2 (a0 : ((List Int) × (List Int))) (a1 : (List Bool)) (v : Int × Unit) : Fr × LL := ([(1, aD (.slice .bool) a1), (2, .one (.ptr 2 0)), (10, aD (.slice tI) a0.1), (11, aI (List.length a0.1 : Int)), (12, aI v.1)], [(2, .one (.pair (.slice tI) (.slice tI)) a0)])
@[reducible] def ref_ClauseTrue_s3 (v : Bool) : Fr × LL := ([(4, aB v)], [])
@[reducible] def ref_ClauseTrue_s4 (a0 : ((List Int) × (List Int))) (a1 : (List Bool)) (v : Unit) : Fr × LL := ([(1, aD (.slice .bool) a1), (2, .one (.ptr 2 0))], [(2, .one (.pair (.slice tI) (.slice tI)) a0)])
def ref_ClauseTrue_b5 (a1 : (List Bool)) (i46 : Int) (v49 : Int) (x47 : Unit) : Option (Flow Unit (Esc Bool Unit)) :=
(idx a1 v49).bind fun v52 =>
bif !v52 then
(some (.done (.ret true)))
else
(some (.next ()))
@[reducible] def ref_ClauseTrue_s6 (a0 : ((List Int) × (List Int))) (a1 : (List Bool)) (v : Int × Unit) : Fr × LL := ([(1, aD (.slice .bool) a1), (22, aD (.slice tI) a0.2), (23, aI (List.length a0.2 : Int)), (24, aI v.1)], [])
@[reducible] def ref_ClauseTrue_s7 (v : Bool) : Fr × LL := ([(4, aB v)], [])
@[reducible] def ref_ClauseTrue_s8 (v : Unit) : Fr × LL := ([], [])
def ref_ClauseTrue (a0 : ((List Int) × (List Int))) (a1 : (List Bool)) : Option Bool :=
(forL (ref_ClauseTrue_b1 a1) (fun x16 => (.brk ())) a0.1 0 ()).bind fun v25 =>
match v25 with
| .ret v30 =>
(some v30)
| .brk v31 =>
((forL (ref_ClauseTrue_b5 a1) (fun x47 => (.brk ())) a0.2 0 ()).bind fun v56 =>
match v56 with
| .ret v61 =>
(some v61)
| .brk v62 =>
(some false))
theorem ref_ClauseTrue_ok {a0 : ((List Int) × (List Int))} {a1 : (List Bool)} {r : Bool} (h : ref_ClauseTrue a0 a1 = some r) : FnC Try.prog 49 [aD (.pair (.slice tI) (.slice tI)) a0, aD (.slice .bool) a1] [] (aB r) [] := by
  refine fnC_of_W (B := bodyOf Try.f49) (n := 34) Try.func49 (by kernel_rfl) (by kernel_rfl) (by kernel_rfl) (by kernel_rfl) (by kernel_rfl) ?_
  intro K
  refine W_seq (by kernel_rfl) ?_
  refine W_run 2 [] [1, 2] [2] (fr' := [(1, aD (.slice .bool) a1), (2, .one (.ptr 2 0))]) (L' := [(2, .one (.pair (.slice tI) (.slice tI)) a0)]) (obs := []) (by kernel_rfl) (by kernel_rfl) (by kernel_rfl) allP0 ?_
  refine seqQ_norm ?_
  refine W_seq (by kernel_rfl) ?_
  refine W_seq (by kernel_rfl) ?_
  refine W_run 4 [] [1, 2, 10, 11, 12] [2] (fr' := [(1, aD (.slice .bool) a1), (2, .one (.ptr 2 0)), (10, aD (.slice tI) a0.1), (11, aI (List.length a0.1 : Int)), (12, aI (0 : Int))]) (L' := [(2, .one (.pair (.slice tI) (.slice tI)) a0)]) (obs := []) (by kernel_rfl) (by kernel_rfl) (by kernel_rfl) allP0 ?_
  refine seqQ_norm ?_
  refine W_block (id := 0) (by kernel_rfl) ?_
  obtain ⟨v25, h26, h⟩ := bind_of h
  refine W_len (t := 10) (u := tI) (xs := a0.1) (by kernel_rfl) (fun h29 => ?_)
  obtain ⟨h27, h28⟩ := forL_iter h29 h26
  refine W_weaken [1, 2, 10, 11, 12] [2] (fr' := ((ref_ClauseTrue_s2 a0 a1) ((0 : Int), ())).1) (L' := ((ref_ClauseTrue_s2 a0 a1) ((0 : Int), ())).2) (by kernel_rfl) ?_
  refine W_cutK (W_loop (S := (ref_ClauseTrue_s2 a0 a1)) (J := (escQ (exQ .ret ref_ClauseTrue_s3) (exQ (.exit 0) (ref_ClauseTrue_s4 a0 a1)))) (by kernel_rfl) ?_ h27 _ v25 h28) ?_
  · rintro ⟨i15, x16⟩ s h
    refine W_seq (by kernel_rfl) ?_
    refine W_run 1 [] [1, 2, 10, 11, 12, 13] [2] (fr' := [(1, aD (.slice .bool) a1), (2, .one (.ptr 2 0)), (10, aD (.slice tI) a0.1), (11, aI (List.length a0.1 : Int)), (12, aI i15), (13, aB (decide (i15 < (List.length a0.1 : Int))))]) (L' := [(2, .one (.pair (.slice tI) (.slice tI)) a0)]) (obs := []) (by kernel_rfl) (by kernel_rfl) (by kernel_rfl) allP0 ?_
    refine seqQ_norm ?_
    refine W_seq (by kernel_rfl) ?_
    refine W_cond (o := .tmp 13) (b := decide (i15 < (List.length a0.1 : Int))) (by kernel_rfl) (by kernel_rfl) (fun h20 => ?_) (fun h20 => ?_)
    · replace h := stepL_true h20 h
      obtain ⟨v18, _, h19, h, rfl⟩ := h
      refine W_skip [1, 2, 10, 11, 12] [2] (fr' := [(1, aD (.slice .bool) a1), (2, .one (.ptr 2 0)), (10, aD (.slice tI) a0.1), (11, aI (List.length a0.1 : Int)), (12, aI i15)]) (L' := [(2, .one (.pair (.slice tI) (.slice tI)) a0)]) (by kernel_rfl) (by kernel_rfl) ?_
      refine seqQ_norm ?_
      refine W_seq (by kernel_rfl) ?_
      refine W_block (id := 1) (by kernel_rfl) ?_
      refine W_seq (by kernel_rfl) ?_
      refine W_run 3 [(1, .val (.dat tI v18))] [1, 2, 6, 10, 11, 12] [2] (fr' := [(1, aD (.slice .bool) a1), (2, .one (.ptr 2 0)), (6, aI v18), (10, aD (.slice tI) a0.1), (11, aI (List.length a0.1 : Int)), (12, aI i15)]) (L' := [(2, .one (.pair (.slice tI) (.slice tI)) a0)]) (obs := [Idx a0.1 i15 v18]) (by kernel_rfl) (by kernel_rfl) (by kernel_rfl) (allP1 (Idx.of h19)) ?_
      refine seqQ_norm ?_
      refine W_seq (by kernel_rfl) ?_
      obtain ⟨v21, h22, h⟩ := bind_of h
      refine W_run 4 [(5, .val (.dat .bool v21))] [1, 2, 10, 11, 12, 19] [2] (fr' := [(1, aD (.slice .bool) a1), (2, .one (.ptr 2 0)), (10, aD (.slice tI) a0.1), (11, aI (List.length a0.1 : Int)), (12, aI i15), (19, aB v21)]) (L' := [(2, .one (.pair (.slice tI) (.slice tI)) a0)]) (obs := [Idx a1 v18 v21]) (by kernel_rfl) (by kernel_rfl) (by kernel_rfl) (allP1 (Idx.of h22)) ?_
      refine seqQ_norm ?_
      refine W_cond (o := .tmp 19) (b := v21) (by kernel_rfl) (by kernel_rfl) (fun h23 => ?_) (fun h23 => ?_)
      · replace h := ofT h23 h
        refine W_seq (by kernel_rfl) ?_
        refine W_run 1 [] [4] [] (fr' := [(4, aB true)]) (L' := []) (obs := []) (by kernel_rfl) (by kernel_rfl) (by kernel_rfl) allP0 ?_
        refine seqQ_norm ?_
        obtain rfl := Option.some.inj h
        refine W_ret [4] [] (fr' := [(4, aB true)]) (L' := []) (by kernel_rfl) (by kernel_rfl) ?_
        refine blockQ_ret ?_
        refine seqQ_ret ?_
        refine round_ret ?_
        refine escQ_ret ?_
        exact exQ_mk (by kernel_rfl) (by kernel_rfl)
      · replace h := ofF h23 h
        refine W_skip [1, 2, 10, 11, 12] [2] (fr' := [(1, aD (.slice .bool) a1), (2, .one (.ptr 2 0)), (10, aD (.slice tI) a0.1), (11, aI (List.length a0.1 : Int)), (12, aI i15)]) (L' := [(2, .one (.pair (.slice tI) (.slice tI)) a0)]) (by kernel_rfl) (by kernel_rfl) ?_
        refine blockQ_norm ?_
        refine seqQ_norm ?_
        obtain rfl := Option.some.inj h
        refine W_run 2 [] [1, 2, 10, 11, 12] [2] (fr' := [(1, aD (.slice .bool) a1), (2, .one (.ptr 2 0)), (10, aD (.slice tI) a0.1), (11, aI (List.length a0.1 : Int)), (12, aI (w64 (i15 + (1 : Int))))]) (L' := [(2, .one (.pair (.slice tI) (.slice tI)) a0)]) (obs := []) (by kernel_rfl) (by kernel_rfl) (by kernel_rfl) allP0 ?_
        exact round_next' (by kernel_rfl) (by kernel_rfl)
    · obtain rfl := stepL_false h20 h
      refine W_exit (id := 0) [1, 2] [2] (fr' := [(1, aD (.slice .bool) a1), (2, .one (.ptr 2 0))]) (L' := [(2, .one (.pair (.slice tI) (.slice tI)) a0)]) (by kernel_rfl) (by kernel_rfl) ?_
      refine seqQ_exit ?_
      refine round_exit ?_
      refine escQ_brk ?_
      exact exQ_mk (by kernel_rfl) (by kernel_rfl)
  · intro e fr L hJ
    rcases v25 with v30 | v31
    · obtain ⟨rfl, rfl, rfl⟩ := hJ
      obtain rfl := Option.some.inj h
      refine LT_keep [4] [] (fr' := [(4, aB v30)]) (L' := []) (by kernel_rfl) ?_
      refine blockQ_ret ?_
      refine seqQ_ret ?_
      exact retQ_mk (by kernel_rfl) (by kernel_rfl) (by kernel_rfl)
    · obtain ⟨rfl, rfl, rfl⟩ := hJ
      refine LT_keep [1, 2] [2] (fr' := [(1, aD (.slice .bool) a1), (2, .one (.ptr 2 0))]) (L' := [(2, .one (.pair (.slice tI) (.slice tI)) a0)]) (by kernel_rfl) ?_
      refine blockQ_hit ?_
      refine seqQ_norm ?_
      refine W_seq (by kernel_rfl) ?_
      refine W_seq (by kernel_rfl) ?_
      refine W_run 4 [] [1, 22, 23, 24] [] (fr' := [(1, aD (.slice .bool) a1), (22, aD (.slice tI) a0.2), (23, aI (List.length a0.2 : Int)), (24, aI (0 : Int))]) (L' := []) (obs := []) (by kernel_rfl) (by kernel_rfl) (by kernel_rfl) allP0 ?_
      refine seqQ_norm ?_
      refine W_block (id := 2) (by kernel_rfl) ?_
      obtain ⟨v56, h57, h⟩ := bind_of h
      refine W_len (t := 22) (u := tI) (xs := a0.2) (by kernel_rfl) (fun h60 => ?_)
      obtain ⟨h58, h59⟩ := forL_iter h60 h57
      refine W_weaken [1, 22, 23, 24] [] (fr' := ((ref_ClauseTrue_s6 a0 a1) ((0 : Int), ())).1) (L' := ((ref_ClauseTrue_s6 a0 a1) ((0 : Int), ())).2) (by kernel_rfl) ?_
      refine W_cutK (W_loop (S := (ref_ClauseTrue_s6 a0 a1)) (J := (escQ (exQ .ret ref_ClauseTrue_s7) (exQ (.exit 2) ref_ClauseTrue_s8))) (by kernel_rfl) ?_ h58 _ v56 h59) ?_
      · rintro ⟨i46, x47⟩ s h
        refine W_seq (by kernel_rfl) ?_
        refine W_run 1 [] [1, 22, 23, 24, 25] [] (fr' := [(1, aD (.slice .bool) a1), (22, aD (.slice tI) a0.2), (23, aI (List.length a0.2 : Int)), (24, aI i46), (25, aB (decide (i46 < (List.length a0.2 : Int))))]) (L' := []) (obs := []) (by kernel_rfl) (by kernel_rfl) (by kernel_rfl) allP0 ?_
        refine seqQ_norm ?_
        refine W_seq (by kernel_rfl) ?_
        refine W_cond (o := .tmp 25) (b := decide (i46 < (List.length a0.2 : Int))) (by kernel_rfl) (by kernel_rfl) (fun h51 => ?_) (fun h51 => ?_)
        · replace h := stepL_true h51 h
          obtain ⟨v49, _, h50, h, rfl⟩ := h
          refine W_skip [1, 22, 23, 24] [] (fr' := [(1, aD (.slice .bool) a1), (22, aD (.slice tI) a0.2), (23, aI (List.length a0.2 : Int)), (24, aI i46)]) (L' := []) (by kernel_rfl) (by kernel_rfl) ?_
          refine seqQ_norm ?_
          refine W_seq (by kernel_rfl) ?_
          refine W_block (id := 3) (by kernel_rfl) ?_
          refine W_seq (by kernel_rfl) ?_
          refine W_run 3 [(1, .val (.dat tI v49))] [1, 8, 22, 23, 24] [] (fr' := [(1, aD (.slice .bool) a1), (8, aI v49), (22, aD (.slice tI) a0.2), (23, aI (List.length a0.2 : Int)), (24, aI i46)]) (L' := []) (obs := [Idx a0.2 i46 v49]) (by kernel_rfl) (by kernel_rfl) (by kernel_rfl) (allP1 (Idx.of h50)) ?_
          refine seqQ_norm ?_
          refine W_seq (by kernel_rfl) ?_
          obtain ⟨v52, h53, h⟩ := bind_of h
          refine W_run 5 [(5, .val (.dat .bool v52))] [1, 22, 23, 24, 32] [] (fr' := [(1, aD (.slice .bool) a1), (22, aD (.slice tI) a0.2), (23, aI (List.length a0.2 : Int)), (24, aI i46), (32, aB (!v52))]) (L' := []) (obs := [Idx a1 v49 v52]) (by kernel_rfl) (by kernel_rfl) (by kernel_rfl) (allP1 (Idx.of h53)) ?_
          refine seqQ_norm ?_
          refine W_cond (o := .tmp 32) (b := !v52) (by kernel_rfl) (by kernel_rfl) (fun h54 => ?_) (fun h54 => ?_)
          · replace h := ofT h54 h
            refine W_seq (by kernel_rfl) ?_
            refine W_run 1 [] [4] [] (fr' := [(4, aB true)]) (L' := []) (obs := []) (by kernel_rfl) (by kernel_rfl) (by kernel_rfl) allP0 ?_
            refine seqQ_norm ?_
            obtain rfl := Option.some.inj h
            refine W_ret [4] [] (fr' := [(4, aB true)]) (L' := []) (by kernel_rfl) (by kernel_rfl) ?_
            refine blockQ_ret ?_
            refine seqQ_ret ?_
            refine round_ret ?_
            refine escQ_ret ?_
            exact exQ_mk (by kernel_rfl) (by kernel_rfl)
          · replace h := ofF h54 h
            refine W_skip [1, 22, 23, 24] [] (fr' := [(1, aD (.slice .bool) a1), (22, aD (.slice tI) a0.2), (23, aI (List.length a0.2 : Int)), (24, aI i46)]) (L' := []) (by kernel_rfl) (by kernel_rfl) ?_
            refine blockQ_norm ?_
            refine seqQ_norm ?_
            obtain rfl := Option.some.inj h
            refine W_run 2 [] [1, 22, 23, 24] [] (fr' := [(1, aD (.slice .bool) a1), (22, aD (.slice tI) a0.2), (23, aI (List.length a0.2 : Int)), (24, aI (w64 (i46 + (1 : Int))))]) (L' := []) (obs := []) (by kernel_rfl) (by kernel_rfl) (by kernel_rfl) allP0 ?_
            exact round_next' (by kernel_rfl) (by kernel_rfl)
        · obtain rfl := stepL_false h51 h
          refine W_exit (id := 2) [] [] (fr' := []) (L' := []) (by kernel_rfl) (by kernel_rfl) ?_
          refine seqQ_exit ?_
          refine round_exit ?_
          refine escQ_brk ?_
          exact exQ_mk (by kernel_rfl) (by kernel_rfl)
      · intro e fr L hJ
        rcases v56 with v61 | v62
        · obtain ⟨rfl, rfl, rfl⟩ := hJ
          obtain rfl := Option.some.inj h
          refine LT_keep [4] [] (fr' := [(4, aB v61)]) (L' := []) (by kernel_rfl) ?_
          refine blockQ_ret ?_
          refine seqQ_ret ?_
          exact retQ_mk (by kernel_rfl) (by kernel_rfl) (by kernel_rfl)
        · obtain ⟨rfl, rfl, rfl⟩ := hJ
          refine LT_keep [] [] (fr' := []) (L' := []) (by kernel_rfl) ?_
          refine blockQ_hit ?_
          refine seqQ_norm ?_
          refine W_seq (by kernel_rfl) ?_
          refine W_run 1 [] [4] [] (fr' := [(4, aB false)]) (L' := []) (obs := []) (by kernel_rfl) (by kernel_rfl) (by kernel_rfl) allP0 ?_
          refine seqQ_norm ?_
          obtain rfl := Option.some.inj h
          refine W_ret [4] [] (fr' := [(4, aB false)]) (L' := []) (by kernel_rfl) (by kernel_rfl) ?_
          exact retQ_mk (by kernel_rfl) (by kernel_rfl) (by kernel_rfl)

def ref_True_b1 (a1 : (List Bool)) (i15 : Int) (v18 : ((List Int) × (List Int))) (x16 : Unit) : Option (Flow Unit (Esc Bool Unit)) :=
(ref_ClauseTrue v18 a1).bind fun r21 =>
bif !r21 then
(some (.done (.ret false)))
else
(some (.next ()))
@[reducible] def ref_True_s2 (a0 : (List ((List Int) × (List Int)))) (a1 : (List Bool)) (v : Int × Unit) : Fr × LL := ([(1, aD (.slice .bool) a1), (7, aD (.slice (.pair (.slice tI) (.slice tI))) a0), (8, aI (List.length a0 : Int)), (9, aI v.1)], [])
@[reducible] def ref_True_s3 (v : Bool) : Fr × LL := ([(4, aB v)], [])
@[reducible] def ref_True_s4 (v : Unit) : Fr × LL := ([], [])
def ref_True (a0 : (List ((List Int) × (List Int)))) (a1 : (List Bool)) : Option Bool :=
(forL (ref_True_b1 a1) (fun x16 => (.brk ())) a0 0 ()).bind fun v25 =>
match v25 with
| .ret v30 =>
(some v30)
| .brk v31 =>
(some true)
theorem ref_True_ok {a0 : (List ((List Int) × (List Int)))} {a1 : (List Bool)} {r : Bool} (h : ref_True a0 a1 = some r) : FnC Try.prog 23 [aD (.slice (.pair (.slice tI) (.slice tI))) a0, aD (.slice .bool) a1] [] (aB r) [] := by
  refine fnC_of_W (B := bodyOf Try.f23) (n := 18) Try.func23 (by kernel_rfl) (by kernel_rfl) (by kernel_rfl) (by kernel_rfl) (by kernel_rfl) ?_
  intro K
  refine W_seq (by kernel_rfl) ?_
  refine W_run 1 [] [0, 1] [] (fr' := [(0, aD (.slice (.pair (.slice tI) (.slice tI))) a0), (1, aD (.slice .bool) a1)]) (L' := []) (obs := []) (by kernel_rfl) (by kernel_rfl) (by kernel_rfl) allP0 ?_
  refine seqQ_norm ?_
  refine W_seq (by kernel_rfl) ?_
  refine W_seq (by kernel_rfl) ?_
  refine W_run 3 [] [1, 7, 8, 9] [] (fr' := [(1, aD (.slice .bool) a1), (7, aD (.slice (.pair (.slice tI) (.slice tI))) a0), (8, aI (List.length a0 : Int)), (9, aI (0 : Int))]) (L' := []) (obs := []) (by kernel_rfl) (by kernel_rfl) (by kernel_rfl) allP0 ?_
  refine seqQ_norm ?_
  refine W_block (id := 0) (by kernel_rfl) ?_
  obtain ⟨v25, h26, h⟩ := bind_of h
  refine W_len (t := 7) (u := (.pair (.slice tI) (.slice tI))) (xs := a0) (by kernel_rfl) (fun h29 => ?_)
  obtain ⟨h27, h28⟩ := forL_iter h29 h26
  refine W_weaken [1, 7, 8, 9] [] (fr' := ((ref_True_s2 a0 a1) ((0 : Int), ())).1) (L' := ((ref_True_s2 a0 a1) ((0 : Int), ())).2) (by kernel_rfl) ?_
  refine W_cutK (W_loop (S := (ref_True_s2 a0 a1)) (J := (escQ (exQ .ret ref_True_s3) (exQ (.exit 0) ref_True_s4))) (by kernel_rfl) ?_ h27 _ v25 h28) ?_
  · rintro ⟨i15, x16⟩ s h
    refine W_seq (by kernel_rfl) ?_
    refine W_run 1 [] [1, 7, 8, 9, 10] [] (fr' := [(1, aD (.slice .bool) a1), (7, aD (.slice (.pair (.slice tI) (.slice tI))) a0), (8, aI (List.length a0 : Int)), (9, aI i15), (10, aB (decide (i15 < (List.length a0 : Int))))]) (L' := []) (obs := []) (by kernel_rfl) (by kernel_rfl) (by kernel_rfl) allP0 ?_
    refine seqQ_norm ?_
    refine W_seq (by kernel_rfl) ?_
    refine W_cond (o := .tmp 10) (b := decide (i15 < (List.length a0 : Int))) (by kernel_rfl) (by kernel_rfl) (fun h20 => ?_) (fun h20 => ?_)
    · replace h := stepL_true h20 h
      obtain ⟨v18, _, h19, h, rfl⟩ := h
      refine W_skip [1, 7, 8, 9] [] (fr' := [(1, aD (.slice .bool) a1), (7, aD (.slice (.pair (.slice tI) (.slice tI))) a0), (8, aI (List.length a0 : Int)), (9, aI i15)]) (L' := []) (by kernel_rfl) (by kernel_rfl) ?_
      refine seqQ_norm ?_
      refine W_seq (by kernel_rfl) ?_
      refine W_block (id := 1) (by kernel_rfl) ?_
      refine W_seq (by kernel_rfl) ?_
      refine W_run 4 [(1, .val (.dat (.pair (.slice tI) (.slice tI)) v18)), (5, .typed)] [1, 6, 7, 8, 9] [6] (fr' := [(1, aD (.slice .bool) a1), (6, .one (.ptr 6 0)), (7, aD (.slice (.pair (.slice tI) (.slice tI))) a0), (8, aI (List.length a0 : Int)), (9, aI i15)]) (L' := [(6, .one (.pair (.slice tI) (.slice tI)) v18)]) (obs := [Idx a0 i15 v18, True]) (by kernel_rfl) (by kernel_rfl) (by kernel_rfl) (allP2 (Idx.of h19) (allP1 trivial)) ?_
      refine seqQ_norm ?_
      refine W_seq (by kernel_rfl) ?_
      refine W_region (by kernel_rfl) ?_
      refine WO_run (j := 2) (k := 2) (orcs := []) (kF := [1, 7, 8, 9, 13, 14]) (kL := [6]) (fr' := [(1, aD (.slice .bool) a1), (7, aD (.slice (.pair (.slice tI) (.slice tI))) a0), (8, aI (List.length a0 : Int)), (9, aI i15), (13, aD (.pair (.slice tI) (.slice tI)) v18), (14, aD (.slice .bool) a1)]) (L' := [(6, .one (.pair (.slice tI) (.slice tI)) v18)]) (obs := []) rfl (by kernel_rfl) allP0 ?_
      obtain ⟨r21, h22, h⟩ := bind_of h
      refine WO_call0 (us := [none, none]) (d := 15) (p := True) (j := 3) rfl ⟨by kernel_rfl, by kernel_rfl, by kernel_rfl⟩ trivial (ref_ClauseTrue_ok h22) (by kernel_rfl) ?_
      refine WO_run (j := 4) (k := 1) (orcs := []) (kF := [1, 7, 8, 9, 16]) (kL := [6]) (fr' := [(1, aD (.slice .bool) a1), (7, aD (.slice (.pair (.slice tI) (.slice tI))) a0), (8, aI (List.length a0 : Int)), (9, aI i15), (16, aB (!r21))]) (L' := [(6, .one (.pair (.slice tI) (.slice tI)) v18)]) (obs := []) rfl (by kernel_rfl) allP0 ?_
      refine WO_fin [1, 7, 8, 9, 16] [] (fr' := [(1, aD (.slice .bool) a1), (7, aD (.slice (.pair (.slice tI) (.slice tI))) a0), (8, aI (List.length a0 : Int)), (9, aI i15), (16, aB (!r21))]) (L' := []) (by kernel_rfl) (by kernel_rfl) ?_
      refine seqQ_norm ?_
      refine W_cond (o := .tmp 16) (b := !r21) (by kernel_rfl) (by kernel_rfl) (fun h23 => ?_) (fun h23 => ?_)
      · replace h := ofT h23 h
        refine W_seq (by kernel_rfl) ?_
        refine W_run 1 [] [4] [] (fr' := [(4, aB false)]) (L' := []) (obs := []) (by kernel_rfl) (by kernel_rfl) (by kernel_rfl) allP0 ?_
        refine seqQ_norm ?_
        obtain rfl := Option.some.inj h
        refine W_ret [4] [] (fr' := [(4, aB false)]) (L' := []) (by kernel_rfl) (by kernel_rfl) ?_
        refine blockQ_ret ?_
        refine seqQ_ret ?_
        refine round_ret ?_
        refine escQ_ret ?_
        exact exQ_mk (by kernel_rfl) (by kernel_rfl)
      · replace h := ofF h23 h
        refine W_skip [1, 7, 8, 9] [] (fr' := [(1, aD (.slice .bool) a1), (7, aD (.slice (.pair (.slice tI) (.slice tI))) a0), (8, aI (List.length a0 : Int)), (9, aI i15)]) (L' := []) (by kernel_rfl) (by kernel_rfl) ?_
        refine blockQ_norm ?_
        refine seqQ_norm ?_
        obtain rfl := Option.some.inj h
        refine W_run 2 [] [1, 7, 8, 9] [] (fr' := [(1, aD (.slice .bool) a1), (7, aD (.slice (.pair (.slice tI) (.slice tI))) a0), (8, aI (List.length a0 : Int)), (9, aI (w64 (i15 + (1 : Int))))]) (L' := []) (obs := []) (by kernel_rfl) (by kernel_rfl) (by kernel_rfl) allP0 ?_
        exact round_next' (by kernel_rfl) (by kernel_rfl)
    · obtain rfl := stepL_false h20 h
      refine W_exit (id := 0) [] [] (fr' := []) (L' := []) (by kernel_rfl) (by kernel_rfl) ?_
      refine seqQ_exit ?_
      refine round_exit ?_
      refine escQ_brk ?_
      exact exQ_mk (by kernel_rfl) (by kernel_rfl)
  · intro e fr L hJ
    rcases v25 with v30 | v31
    · obtain ⟨rfl, rfl, rfl⟩ := hJ
      obtain rfl := Option.some.inj h
      refine LT_keep [4] [] (fr' := [(4, aB v30)]) (L' := []) (by kernel_rfl) ?_
      refine blockQ_ret ?_
      refine seqQ_ret ?_
      exact retQ_mk (by kernel_rfl) (by kernel_rfl) (by kernel_rfl)
    · obtain ⟨rfl, rfl, rfl⟩ := hJ
      refine LT_keep [] [] (fr' := []) (L' := []) (by kernel_rfl) ?_
      refine blockQ_hit ?_
      refine seqQ_norm ?_
      refine W_seq (by kernel_rfl) ?_
      refine W_run 1 [] [4] [] (fr' := [(4, aB true)]) (L' := []) (obs := []) (by kernel_rfl) (by kernel_rfl) (by kernel_rfl) allP0 ?_
      refine seqQ_norm ?_
      obtain rfl := Option.some.inj h
      refine W_ret [4] [] (fr' := [(4, aB true)]) (L' := []) (by kernel_rfl) (by kernel_rfl) ?_
      exact retQ_mk (by kernel_rfl) (by kernel_rfl) (by kernel_rfl)

def ref_Wins_step (rf_ref_Wins : (List Bool) → (List ((List Int) × (List Int))) → (List Bool) → Option Bool) (fuel : Nat) (a0 : (List Bool)) (a1 : (List ((List Int) × (List Int)))) (a2 : (List Bool)) : Option Bool :=
bif (List.length a2 : Int) == (List.length a0 : Int) then
((ref_True a1 a2).bind fun r2 =>
some r2)
else
((ck ((0 : Int) + (List.length a2 : Int) ≤ 4294967296)).bind fun _ =>
(ck ((List.length ([] ++ a2) : Int) + 1 ≤ 4294967296)).bind fun _ =>
(rf_ref_Wins a0 a1 (([] ++ a2) ++ [false])).bind fun r6 =>
(rf_ref_Wins a0 a1 (([] ++ a2) ++ [true])).bind fun r8 =>
(idx a0 (List.length a2 : Int)).bind fun v10 =>
bif v10 then
(some (r6 || r8))
else
(some (r6 && r8)))
def ref_Wins : Nat → (List Bool) → (List ((List Int) × (List Int))) → (List Bool) → Option Bool
  | 0 => fun _ _ _ => none
  | fuel + 1 => fun a0 a1 a2 => ref_Wins_step (ref_Wins fuel) fuel a0 a1 a2
theorem ref_Wins_step_ok {rf_ref_Wins : (List Bool) → (List ((List Int) × (List Int))) → (List Bool) → Option Bool} (ih_ref_Wins : ∀ {a0 : (List Bool)} {a1 : (List ((List Int) × (List Int)))} {a2 : (List Bool)} {r : Bool}, rf_ref_Wins a0 a1 a2 = some r → FnC Try.prog 20 [aD (.slice .bool) a0, aD (.slice (.pair (.slice tI) (.slice tI))) a1, aD (.slice .bool) a2] [] (aB r) []) {fuel : Nat} {a0 : (List Bool)} {a1 : (List ((List Int) × (List Int)))} {a2 : (List Bool)} {r : Bool} (h : ref_Wins_step rf_ref_Wins fuel a0 a1 a2 = some r) : FnC Try.prog 20 [aD (.slice .bool) a0, aD (.slice (.pair (.slice tI) (.slice tI))) a1, aD (.slice .bool) a2] [] (aB r) [] := by
  refine fnC_of_W (B := bodyOf Try.f20) (n := 46) Try.func20 (by kernel_rfl) (by kernel_rfl) (by kernel_rfl) (by kernel_rfl) (by kernel_rfl) ?_
  intro K
  refine W_seq (by kernel_rfl) ?_
  refine W_run 1 [] [0, 1, 2] [] (fr' := [(0, aD (.slice .bool) a0), (1, aD (.slice (.pair (.slice tI) (.slice tI))) a1), (2, aD (.slice .bool) a2)]) (L' := []) (obs := []) (by kernel_rfl) (by kernel_rfl) (by kernel_rfl) allP0 ?_
  refine seqQ_norm ?_
  refine W_seq (by kernel_rfl) ?_
  refine W_seq (by kernel_rfl) ?_
  refine W_run 5 [] [0, 1, 2, 13] [] (fr' := [(0, aD (.slice .bool) a0), (1, aD (.slice (.pair (.slice tI) (.slice tI))) a1), (2, aD (.slice .bool) a2), (13, aB ((List.length a2 : Int) == (List.length a0 : Int)))]) (L' := []) (obs := []) (by kernel_rfl) (by kernel_rfl) (by kernel_rfl) allP0 ?_
  refine seqQ_norm ?_
  refine W_cond (o := .tmp 13) (b := (List.length a2 : Int) == (List.length a0 : Int)) (by kernel_rfl) (by kernel_rfl) (fun h1 => ?_) (fun h1 => ?_)
  · replace h := ofT h1 h
    refine W_seq (by kernel_rfl) ?_
    refine W_region (by kernel_rfl) ?_
    refine WO_run (j := 2) (k := 2) (orcs := []) (kF := [14, 15]) (kL := []) (fr' := [(14, aD (.slice (.pair (.slice tI) (.slice tI))) a1), (15, aD (.slice .bool) a2)]) (L' := []) (obs := []) rfl (by kernel_rfl) allP0 ?_
    obtain ⟨r2, h3, h⟩ := bind_of h
    refine WO_call0 (us := [none, none]) (d := 16) (p := True) (j := 3) rfl ⟨by kernel_rfl, by kernel_rfl, by kernel_rfl⟩ trivial (ref_True_ok h3) (by kernel_rfl) ?_
    refine WO_run (j := 4) (k := 1) (orcs := []) (kF := [6]) (kL := []) (fr' := [(6, aB r2)]) (L' := []) (obs := []) rfl (by kernel_rfl) allP0 ?_
    refine WO_fin [6] [] (fr' := [(6, aB r2)]) (L' := []) (by kernel_rfl) (by kernel_rfl) ?_
    refine seqQ_norm ?_
    obtain rfl := Option.some.inj h
    refine W_ret [6] [] (fr' := [(6, aB r2)]) (L' := []) (by kernel_rfl) (by kernel_rfl) ?_
    refine seqQ_ret ?_
    exact retQ_mk (by kernel_rfl) (by kernel_rfl) (by kernel_rfl)
  · replace h := ofF h1 h
    refine W_skip [0, 1, 2] [] (fr' := [(0, aD (.slice .bool) a0), (1, aD (.slice (.pair (.slice tI) (.slice tI))) a1), (2, aD (.slice .bool) a2)]) (L' := []) (by kernel_rfl) (by kernel_rfl) ?_
    refine seqQ_norm ?_
    refine W_seq (by kernel_rfl) ?_
    obtain ⟨_, h4, h⟩ := bind_of h
    replace h4 := ck_some h4
    obtain ⟨_, h5, h⟩ := bind_of h
    replace h5 := ck_some h5
    refine W_region (by kernel_rfl) ?_
    refine WO_run (j := 7) (k := 7) (orcs := []) (kF := [0, 1, 2, 17, 18, 23]) (kL := [19, 22]) (fr' := [(0, aD (.slice .bool) a0), (1, aD (.slice (.pair (.slice tI) (.slice tI))) a1), (2, aD (.slice .bool) a2), (17, aD (.slice .bool) a0), (18, aD (.slice (.pair (.slice tI) (.slice tI))) a1), (23, .one (.slc 19))]) (L' := [(19, .seq .bool (([] ++ a2) ++ [false])), (22, .seq .bool [false])]) (obs := [SmallLen (List.length ([] : (List Bool)) + List.length a2), SmallLen (List.length ([] ++ a2) + List.length [false])]) rfl (by kernel_rfl) (allP2 h4 (allP1 h5)) ?_
    obtain ⟨r6, h7, h⟩ := bind_of h
    refine WO_frz 19 (by kernel_rfl) ?_
    refine WO_call0 (us := [none, none, none]) (d := 24) (p := True) (j := 8) rfl ⟨by kernel_rfl, by kernel_rfl, by kernel_rfl⟩ trivial (ih_ref_Wins h7) (by kernel_rfl) ?_
    refine WO_run (j := 9) (k := 1) (orcs := []) (kF := [0, 1, 2, 7]) (kL := [22]) (fr' := [(0, aD (.slice .bool) a0), (1, aD (.slice (.pair (.slice tI) (.slice tI))) a1), (2, aD (.slice .bool) a2), (7, aB r6)]) (L' := [(22, .seq .bool [false])]) (obs := []) rfl (by kernel_rfl) allP0 ?_
    refine WO_fin [0, 1, 2, 7] [] (fr' := [(0, aD (.slice .bool) a0), (1, aD (.slice (.pair (.slice tI) (.slice tI))) a1), (2, aD (.slice .bool) a2), (7, aB r6)]) (L' := []) (by kernel_rfl) (by kernel_rfl) ?_
    refine seqQ_norm ?_
    refine W_seq (by kernel_rfl) ?_
    refine W_region (by kernel_rfl) ?_
    refine WO_run (j := 7) (k := 7) (orcs := []) (kF := [0, 2, 7, 25, 26, 31]) (kL := [27, 30]) (fr' := [(0, aD (.slice .bool) a0), (2, aD (.slice .bool) a2), (7, aB r6), (25, aD (.slice .bool) a0), (26, aD (.slice (.pair (.slice tI) (.slice tI))) a1), (31, .one (.slc 27))]) (L' := [(27, .seq .bool (([] ++ a2) ++ [true])), (30, .seq .bool [true])]) (obs := [SmallLen (List.length ([] : (List Bool)) + List.length a2), SmallLen (List.length ([] ++ a2) + List.length [true])]) rfl (by kernel_rfl) (allP2 h4 (allP1 h5)) ?_
    obtain ⟨r8, h9, h⟩ := bind_of h
    refine WO_frz 27 (by kernel_rfl) ?_
    refine WO_call0 (us := [none, none, none]) (d := 32) (p := True) (j := 8) rfl ⟨by kernel_rfl, by kernel_rfl, by kernel_rfl⟩ trivial (ih_ref_Wins h9) (by kernel_rfl) ?_
    refine WO_run (j := 9) (k := 1) (orcs := []) (kF := [0, 2, 7, 8]) (kL := [30]) (fr' := [(0, aD (.slice .bool) a0), (2, aD (.slice .bool) a2), (7, aB r6), (8, aB r8)]) (L' := [(30, .seq .bool [true])]) (obs := []) rfl (by kernel_rfl) allP0 ?_
    refine WO_fin [0, 2, 7, 8] [] (fr' := [(0, aD (.slice .bool) a0), (2, aD (.slice .bool) a2), (7, aB r6), (8, aB r8)]) (L' := []) (by kernel_rfl) (by kernel_rfl) ?_
    refine seqQ_norm ?_
    refine W_seq (by kernel_rfl) ?_
    refine W_seq (by kernel_rfl) ?_
    obtain ⟨v10, h11, h⟩ := bind_of h
    refine W_run 5 [(7, .val (.dat .bool v10))] [7, 8, 37] [] (fr' := [(7, aB r6), (8, aB r8), (37, aB v10)]) (L' := []) (obs := [Idx a0 (List.length a2 : Int) v10]) (by kernel_rfl) (by kernel_rfl) (by kernel_rfl) (allP1 (Idx.of h11)) ?_
    refine seqQ_norm ?_
    refine W_cond (o := .tmp 37) (b := v10) (by kernel_rfl) (by kernel_rfl) (fun h12 => ?_) (fun h12 => ?_)
    · replace h := ofT h12 h
      refine W_seq (by kernel_rfl) ?_
      refine W_run 5 [] [6] [] (fr' := [(6, aB (r6 || r8))]) (L' := []) (obs := []) (by kernel_rfl) (by kernel_rfl) (by kernel_rfl) allP0 ?_
      refine seqQ_norm ?_
      obtain rfl := Option.some.inj h
      refine W_ret [6] [] (fr' := [(6, aB (r6 || r8))]) (L' := []) (by kernel_rfl) (by kernel_rfl) ?_
      refine seqQ_ret ?_
      exact retQ_mk (by kernel_rfl) (by kernel_rfl) (by kernel_rfl)
    · replace h := ofF h12 h
      refine W_skip [7, 8] [] (fr' := [(7, aB r6), (8, aB r8)]) (L' := []) (by kernel_rfl) (by kernel_rfl) ?_
      refine seqQ_norm ?_
      refine W_seq (by kernel_rfl) ?_
      refine W_run 5 [] [6] [] (fr' := [(6, aB (r6 && r8))]) (L' := []) (obs := []) (by kernel_rfl) (by kernel_rfl) (by kernel_rfl) allP0 ?_
      refine seqQ_norm ?_
      obtain rfl := Option.some.inj h
      refine W_ret [6] [] (fr' := [(6, aB (r6 && r8))]) (L' := []) (by kernel_rfl) (by kernel_rfl) ?_
      exact retQ_mk (by kernel_rfl) (by kernel_rfl) (by kernel_rfl)
theorem ref_Wins_ok : ∀ {fuel : Nat} {a0 : (List Bool)} {a1 : (List ((List Int) × (List Int)))} {a2 : (List Bool)} {r : Bool}, ref_Wins fuel a0 a1 a2 = some r → FnC Try.prog 20 [aD (.slice .bool) a0, aD (.slice (.pair (.slice tI) (.slice tI))) a1, aD (.slice .bool) a2] [] (aB r) [] := by
  intro fuel
  induction fuel with
  | zero => intros a0 a1 a2 r h; cases h
  | succ fuel ih => intros a0 a1 a2 r h; exact ref_Wins_step_ok (fun h => ih h) (show ref_Wins_step (ref_Wins fuel) fuel a0 a1 a2 = some r from h)

def ref_Plans_g4 (i30 : Int) (x31 : (Int × Int)) (v33 : Bool) : Option (Int × Int) :=
bif v33 then
((ck (0 ≤ IntKind.wrap .u64 (i30))).bind fun _ =>
some (w64 (x31.1 + (bShl .i64 (1 : Int) (IntKind.wrap .u64 (i30)))), x31.2))
else
(some (x31.1, w64 (x31.2 + (1 : Int))))
@[reducible] def ref_Plans_s5 (a0 : (List Bool)) (i30 : Int) (v : (Int × Int)) : Fr × LL := ([(4, aI v.1), (5, aI v.2), (8, aD (.slice .bool) a0), (9, aI (List.length a0 : Int)), (10, aI i30)], [])
def ref_Plans_b6 (i30 : Int) (v33 : Bool) (x31 : (Int × Int)) : Option (Flow (Int × Int) (Int × Int)) :=
(ref_Plans_g4 i30 x31 v33).bind fun v42 =>
some (.next (v42.1, v42.2))
@[reducible] def ref_Plans_s7 (a0 : (List Bool)) (v : Int × (Int × Int)) : Fr × LL := ([(4, aI v.2.1), (5, aI v.2.2), (8, aD (.slice .bool) a0), (9, aI (List.length a0 : Int)), (10, aI v.1)], [])
@[reducible] def ref_Plans_s8 (v : (Int × Int)) : Fr × LL := ([(4, aI v.1), (5, aI v.2)], [])
def ref_Plans (a0 : (List Bool)) : Option (Int × Int) :=
(forL ref_Plans_b6 (fun x31 => (x31.1, x31.2)) a0 0 ((0 : Int), (0 : Int))).bind fun v45 =>
some (v45.1, v45.2)
theorem ref_Plans_ok {a0 : (List Bool)} {r : (Int × Int)} (h : ref_Plans a0 = some r) : FnC Try.prog 22 [aD (.slice .bool) a0] [] (.tup [.dat tI r.1, .dat tI r.2]) [] := by
  refine fnC_of_W (B := bodyOf Try.f22) (n := 26) Try.func22 (by kernel_rfl) (by kernel_rfl) (by kernel_rfl) (by kernel_rfl) (by kernel_rfl) ?_
  intro K
  refine W_seq (by kernel_rfl) ?_
  refine W_run 2 [] [0] [] (fr' := [(0, aD (.slice .bool) a0)]) (L' := []) (obs := []) (by kernel_rfl) (by kernel_rfl) (by kernel_rfl) allP0 ?_
  refine seqQ_norm ?_
  refine W_seq (by kernel_rfl) ?_
  refine W_run 1 [] [0, 4] [] (fr' := [(0, aD (.slice .bool) a0), (4, aI (0 : Int))]) (L' := []) (obs := []) (by kernel_rfl) (by kernel_rfl) (by kernel_rfl) allP0 ?_
  refine seqQ_norm ?_
  refine W_seq (by kernel_rfl) ?_
  refine W_run 1 [] [0, 4, 5] [] (fr' := [(0, aD (.slice .bool) a0), (4, aI (0 : Int)), (5, aI (0 : Int))]) (L' := []) (obs := []) (by kernel_rfl) (by kernel_rfl) (by kernel_rfl) allP0 ?_
  refine seqQ_norm ?_
  refine W_seq (by kernel_rfl) ?_
  refine W_seq (by kernel_rfl) ?_
  refine W_run 3 [] [4, 5, 8, 9, 10] [] (fr' := [(4, aI (0 : Int)), (5, aI (0 : Int)), (8, aD (.slice .bool) a0), (9, aI (List.length a0 : Int)), (10, aI (0 : Int))]) (L' := []) (obs := []) (by kernel_rfl) (by kernel_rfl) (by kernel_rfl) allP0 ?_
  refine seqQ_norm ?_
  refine W_block (id := 0) (by kernel_rfl) ?_
  obtain ⟨v45, h46, h⟩ := bind_of h
  refine W_len (t := 8) (u := .bool) (xs := a0) (by kernel_rfl) (fun h49 => ?_)
  obtain ⟨h47, h48⟩ := forL_iter h49 h46
  refine W_weaken [4, 5, 8, 9, 10] [] (fr' := ((ref_Plans_s7 a0) ((0 : Int), ((0 : Int), (0 : Int)))).1) (L' := ((ref_Plans_s7 a0) ((0 : Int), ((0 : Int), (0 : Int)))).2) (by kernel_rfl) ?_
  refine W_cutK (W_loop (S := (ref_Plans_s7 a0)) (J := (exQ (.exit 0) ref_Plans_s8)) (by kernel_rfl) ?_ h47 _ v45 h48) ?_
  · rintro ⟨i30, x31⟩ s h
    refine W_seq (by kernel_rfl) ?_
    refine W_run 1 [] [4, 5, 8, 9, 10, 11] [] (fr' := [(4, aI x31.1), (5, aI x31.2), (8, aD (.slice .bool) a0), (9, aI (List.length a0 : Int)), (10, aI i30), (11, aB (decide (i30 < (List.length a0 : Int))))]) (L' := []) (obs := []) (by kernel_rfl) (by kernel_rfl) (by kernel_rfl) allP0 ?_
    refine seqQ_norm ?_
    refine W_seq (by kernel_rfl) ?_
    refine W_cond (o := .tmp 11) (b := decide (i30 < (List.length a0 : Int))) (by kernel_rfl) (by kernel_rfl) (fun h35 => ?_) (fun h35 => ?_)
    · replace h := stepL_true h35 h
      obtain ⟨v33, _, h34, h, rfl⟩ := h
      refine W_skip [4, 5, 8, 9, 10] [] (fr' := [(4, aI x31.1), (5, aI x31.2), (8, aD (.slice .bool) a0), (9, aI (List.length a0 : Int)), (10, aI i30)]) (L' := []) (by kernel_rfl) (by kernel_rfl) ?_
      refine seqQ_norm ?_
      refine W_seq (by kernel_rfl) ?_
      obtain ⟨v42, h43, h⟩ := bind_of h
      refine W_cutK (Q' := (exQ .normal (ref_Plans_s5 a0 i30)) v42) ?_ ?_
      · replace h := h43
        refine W_block (id := 1) (by kernel_rfl) ?_
        refine W_seq (by kernel_rfl) ?_
        refine W_run 5 [(3, .val (.dat .bool v33))] [4, 5, 6, 7, 8, 9, 10] [] (fr' := [(4, aI x31.1), (5, aI x31.2), (6, aI i30), (7, aB v33), (8, aD (.slice .bool) a0), (9, aI (List.length a0 : Int)), (10, aI i30)]) (L' := []) (obs := [Idx a0 i30 v33]) (by kernel_rfl) (by kernel_rfl) (by kernel_rfl) (allP1 (Idx.of h34)) ?_
        refine seqQ_norm ?_
        refine W_seq (by kernel_rfl) ?_
        refine W_run 1 [] [4, 5, 6, 8, 9, 10, 15] [] (fr' := [(4, aI x31.1), (5, aI x31.2), (6, aI i30), (8, aD (.slice .bool) a0), (9, aI (List.length a0 : Int)), (10, aI i30), (15, aB v33)]) (L' := []) (obs := []) (by kernel_rfl) (by kernel_rfl) (by kernel_rfl) allP0 ?_
        refine seqQ_norm ?_
        refine W_cond (o := .tmp 15) (b := v33) (by kernel_rfl) (by kernel_rfl) (fun h40 => ?_) (fun h40 => ?_)
        · replace h := ofT h40 h
          obtain ⟨_, h41, h⟩ := bind_of h
          replace h41 := ck_some h41
          obtain rfl := Option.some.inj h
          refine W_run 6 [] [4, 5, 8, 9, 10] [] (fr' := [(4, aI (w64 (x31.1 + (bShl .i64 (1 : Int) (IntKind.wrap .u64 (i30)))))), (5, aI x31.2), (8, aD (.slice .bool) a0), (9, aI (List.length a0 : Int)), (10, aI i30)]) (L' := []) (obs := [(0 ≤ IntKind.wrap .u64 (i30))]) (by kernel_rfl) (by kernel_rfl) (by kernel_rfl) (allP1 h41) ?_
          refine blockQ_norm ?_
          exact exQ_mk (by kernel_rfl) (by kernel_rfl)
        · replace h := ofF h40 h
          obtain rfl := Option.some.inj h
          refine W_run 3 [] [4, 5, 8, 9, 10] [] (fr' := [(4, aI x31.1), (5, aI (w64 (x31.2 + (1 : Int)))), (8, aD (.slice .bool) a0), (9, aI (List.length a0 : Int)), (10, aI i30)]) (L' := []) (obs := []) (by kernel_rfl) (by kernel_rfl) (by kernel_rfl) allP0 ?_
          refine blockQ_norm ?_
          exact exQ_mk (by kernel_rfl) (by kernel_rfl)
      · intro e fr L hJ
        obtain ⟨rfl, rfl, rfl⟩ := hJ
        refine LT_keep [4, 5, 8, 9, 10] [] (fr' := [(4, aI v42.1), (5, aI v42.2), (8, aD (.slice .bool) a0), (9, aI (List.length a0 : Int)), (10, aI i30)]) (L' := []) (by kernel_rfl) ?_
        refine seqQ_norm ?_
        obtain rfl := Option.some.inj h
        refine W_run 2 [] [4, 5, 8, 9, 10] [] (fr' := [(4, aI v42.1), (5, aI v42.2), (8, aD (.slice .bool) a0), (9, aI (List.length a0 : Int)), (10, aI (w64 (i30 + (1 : Int))))]) (L' := []) (obs := []) (by kernel_rfl) (by kernel_rfl) (by kernel_rfl) allP0 ?_
        exact round_next' (by kernel_rfl) (by kernel_rfl)
    · obtain rfl := stepL_false h35 h
      refine W_exit (id := 0) [4, 5] [] (fr' := [(4, aI x31.1), (5, aI x31.2)]) (L' := []) (by kernel_rfl) (by kernel_rfl) ?_
      refine seqQ_exit ?_
      refine round_exit ?_
      exact exQ_mk (by kernel_rfl) (by kernel_rfl)
  · intro e fr L hJ
    obtain ⟨rfl, rfl, rfl⟩ := hJ
    refine LT_keep [4, 5] [] (fr' := [(4, aI v45.1), (5, aI v45.2)]) (L' := []) (by kernel_rfl) ?_
    refine blockQ_hit ?_
    refine seqQ_norm ?_
    refine W_seq (by kernel_rfl) ?_
    refine W_run 4 [] [2, 3] [] (fr' := [(2, aI v45.1), (3, aI v45.2)]) (L' := []) (obs := []) (by kernel_rfl) (by kernel_rfl) (by kernel_rfl) allP0 ?_
    refine seqQ_norm ?_
    obtain rfl := Option.some.inj h
    refine W_ret [2, 3] [] (fr' := [(2, aI v45.1), (3, aI v45.2)]) (L' := []) (by kernel_rfl) (by kernel_rfl) ?_
    exact retQ_mk (by kernel_rfl) (by kernel_rfl) (by kernel_rfl)

def ref_Bit (a0 : Int) (a1 : Int) : Option Bool :=
bif (decide (a1 ≥ (0 : Int))) && (decide (a1 < (63 : Int))) then
((ck (0 ≤ IntKind.wrap .u64 (a1))).bind fun _ =>
some ((bAnd .i64 a0 (bShl .i64 (1 : Int) (IntKind.wrap .u64 (a1)))) != (0 : Int)))
else
(some false)
theorem ref_Bit_ok {a0 : Int} {a1 : Int} {r : Bool} (h : ref_Bit a0 a1 = some r) : FnC Try.prog 27 [aI a0, aI a1] [] (aB r) [] := by
  refine fnC_of_W (B := bodyOf Try.f27) (n := 19) Try.func27 (by kernel_rfl) (by kernel_rfl) (by kernel_rfl) (by kernel_rfl) (by kernel_rfl) ?_
  intro K
  refine W_seq (by kernel_rfl) ?_
  refine W_run 1 [] [0, 1] [] (fr' := [(0, aI a0), (1, aI a1)]) (L' := []) (obs := []) (by kernel_rfl) (by kernel_rfl) (by kernel_rfl) allP0 ?_
  refine seqQ_norm ?_
  refine W_seq (by kernel_rfl) ?_
  refine W_region (by kernel_rfl) ?_
  refine WO_run (j := 7) (k := 7) (orcs := []) (kF := [0, 1, 11]) (kL := []) (fr' := [(0, aI a0), (1, aI a1), (11, aB ((decide (a1 ≥ (0 : Int))) && (decide (a1 < (63 : Int)))))]) (L' := []) (obs := []) rfl (by kernel_rfl) allP0 ?_
  rcases Bool.eq_false_or_eq_true ((decide (a1 ≥ (0 : Int))) && (decide (a1 < (63 : Int)))) with h1 | h1
  · replace h := ofT h1 h
    obtain ⟨_, h2, h⟩ := bind_of h
    replace h2 := ck_some h2
    refine WO_run (j := 15) (k := 8) (orcs := [(14, .known true), (16, .known true), (18, .known true), (20, .known true), (22, .known true), (24, .known true), (27, .val (.dat .bool true))]) (kF := [4]) (kL := []) (fr' := [(4, aB ((bAnd .i64 a0 (bShl .i64 (1 : Int) (IntKind.wrap .u64 (a1)))) != (0 : Int)))]) (L' := []) (obs := [(((decide (a1 ≥ (0 : Int))) && (decide (a1 < (63 : Int)))) = true), (((decide (a1 ≥ (0 : Int))) && (decide (a1 < (63 : Int)))) = true), (((decide (a1 ≥ (0 : Int))) && (decide (a1 < (63 : Int)))) = true), (((decide (a1 ≥ (0 : Int))) && (decide (a1 < (63 : Int)))) = true), (0 ≤ IntKind.wrap .u64 (a1)), (((decide (a1 ≥ (0 : Int))) && (decide (a1 < (63 : Int)))) = true), (((decide (a1 ≥ (0 : Int))) && (decide (a1 < (63 : Int)))) = true), (((decide (a1 ≥ (0 : Int))) && (decide (a1 < (63 : Int)))) = true)]) rfl (by kernel_rfl) (allP2 h1 (allP2 h1 (allP2 h1 (allP2 h1 (allP2 h2 (allP2 h1 (allP2 h1 (allP1 h1)))))))) ?_
    refine WO_fin [4] [] (fr' := [(4, aB ((bAnd .i64 a0 (bShl .i64 (1 : Int) (IntKind.wrap .u64 (a1)))) != (0 : Int)))]) (L' := []) (by kernel_rfl) (by kernel_rfl) ?_
    refine seqQ_norm ?_
    obtain rfl := Option.some.inj h
    refine W_ret [4] [] (fr' := [(4, aB ((bAnd .i64 a0 (bShl .i64 (1 : Int) (IntKind.wrap .u64 (a1)))) != (0 : Int)))]) (L' := []) (by kernel_rfl) (by kernel_rfl) ?_
    exact retQ_mk (by kernel_rfl) (by kernel_rfl) (by kernel_rfl)
  · replace h := ofF h1 h
    refine WO_run (j := 15) (k := 8) (orcs := [(14, .known false), (16, .known false), (18, .known false), (20, .known false), (22, .known false), (24, .known false), (27, .val (.dat .bool false))]) (kF := [4]) (kL := []) (fr' := [(4, aB false)]) (L' := []) (obs := [(((decide (a1 ≥ (0 : Int))) && (decide (a1 < (63 : Int)))) = false), (((decide (a1 ≥ (0 : Int))) && (decide (a1 < (63 : Int)))) = false), (((decide (a1 ≥ (0 : Int))) && (decide (a1 < (63 : Int)))) = false), (((decide (a1 ≥ (0 : Int))) && (decide (a1 < (63 : Int)))) = false), (((decide (a1 ≥ (0 : Int))) && (decide (a1 < (63 : Int)))) = false), (((decide (a1 ≥ (0 : Int))) && (decide (a1 < (63 : Int)))) = false), (((decide (a1 ≥ (0 : Int))) && (decide (a1 < (63 : Int)))) = false)]) rfl (by kernel_rfl) (allP2 h1 (allP2 h1 (allP2 h1 (allP2 h1 (allP2 h1 (allP2 h1 (allP1 h1))))))) ?_
    refine WO_fin [4] [] (fr' := [(4, aB false)]) (L' := []) (by kernel_rfl) (by kernel_rfl) ?_
    refine seqQ_norm ?_
    obtain rfl := Option.some.inj h
    refine W_ret [4] [] (fr' := [(4, aB false)]) (L' := []) (by kernel_rfl) (by kernel_rfl) ?_
    exact retQ_mk (by kernel_rfl) (by kernel_rfl) (by kernel_rfl)

def ref_Bits_b1 (a1 : Int) (i10 : Int) (x11 : (List Bool)) : Option (Flow (List Bool) (List Bool)) :=
(ref_Bit a1 i10).bind fun r14 =>
(ck ((List.length x11 : Int) + 1 ≤ 4294967296)).bind fun _ =>
some (.next (x11 ++ [r14]))
@[reducible] def ref_Bits_s2 (a0 : Int) (a1 : Int) (v : Int × (List Bool)) : Fr × LL := ([(0, aI a0), (1, aI a1), (5, .one (.slc 17)), (6, aI v.1)], [(17, .seq .bool v.2)])
@[reducible] def ref_Bits_s3 (v : (List Bool)) : Fr × LL := ([(5, .one (.slc 17))], [(17, .seq .bool v)])
def ref_Bits (a0 : Int) (a1 : Int) : Option (List Bool) :=
(forI (0 : Int) a0 (ref_Bits_b1 a1) (fun x11 => x11) []).bind fun v18 =>
some v18
theorem ref_Bits_ok {a0 : Int} {a1 : Int} {r : (List Bool)} (h : ref_Bits a0 a1 = some r) : FnC Try.prog 17 [aI a0, aI a1] [] (aD (.slice .bool) r) [] := by
  refine fnC_of_W (B := bodyOf Try.f17) (n := 19) Try.func17 (by kernel_rfl) (by kernel_rfl) (by kernel_rfl) (by kernel_rfl) (by kernel_rfl) ?_
  intro K
  refine W_seq (by kernel_rfl) ?_
  refine W_run 1 [] [0, 1] [] (fr' := [(0, aI a0), (1, aI a1)]) (L' := []) (obs := []) (by kernel_rfl) (by kernel_rfl) (by kernel_rfl) allP0 ?_
  refine seqQ_norm ?_
  refine W_seq (by kernel_rfl) ?_
  refine W_run 1 [] [0, 1, 5] [] (fr' := [(0, aI a0), (1, aI a1), (5, .one (.nilS))]) (L' := []) (obs := []) (by kernel_rfl) (by kernel_rfl) (by kernel_rfl) allP0 ?_
  refine seqQ_norm ?_
  refine W_seq (by kernel_rfl) ?_
  refine W_seq (by kernel_rfl) ?_
  refine W_run 1 [] [0, 1, 5, 6] [] (fr' := [(0, aI a0), (1, aI a1), (5, .one (.nilS)), (6, aI (0 : Int))]) (L' := []) (obs := []) (by kernel_rfl) (by kernel_rfl) (by kernel_rfl) allP0 ?_
  refine seqQ_norm ?_
  refine W_block (id := 0) (by kernel_rfl) ?_
  obtain ⟨v18, h19, h⟩ := bind_of h
  obtain ⟨h20, h21⟩ := forI_iter h19
  refine W_mine 5 17 .bool (by kernel_rfl) ?_
  refine W_weaken [0, 1, 5, 6] [17] (fr' := ((ref_Bits_s2 a0 a1) ((0 : Int), [])).1) (L' := ((ref_Bits_s2 a0 a1) ((0 : Int), [])).2) (by kernel_rfl) ?_
  refine W_cutK (W_loop (S := (ref_Bits_s2 a0 a1)) (J := (exQ (.exit 0) ref_Bits_s3)) (by kernel_rfl) ?_ h20 _ v18 h21) ?_
  · rintro ⟨i10, x11⟩ s h
    refine W_seq (by kernel_rfl) ?_
    refine W_seq (by kernel_rfl) ?_
    refine W_run 3 [] [0, 1, 5, 6, 9] [17] (fr' := [(0, aI a0), (1, aI a1), (5, .one (.slc 17)), (6, aI i10), (9, aB (decide (i10 < a0)))]) (L' := [(17, .seq .bool x11)]) (obs := []) (by kernel_rfl) (by kernel_rfl) (by kernel_rfl) allP0 ?_
    refine seqQ_norm ?_
    refine W_cond (o := .tmp 9) (b := decide (i10 < a0)) (by kernel_rfl) (by kernel_rfl) (fun h13 => ?_) (fun h13 => ?_)
    · replace h := stepI_true h13 h
      obtain ⟨_, h, rfl⟩ := h
      refine W_skip [0, 1, 5, 6] [17] (fr' := [(0, aI a0), (1, aI a1), (5, .one (.slc 17)), (6, aI i10)]) (L' := [(17, .seq .bool x11)]) (by kernel_rfl) (by kernel_rfl) ?_
      refine seqQ_norm ?_
      refine W_seq (by kernel_rfl) ?_
      refine W_block (id := 1) (by kernel_rfl) ?_
      refine W_region (by kernel_rfl) ?_
      refine WO_run (j := 3) (k := 3) (orcs := []) (kF := [0, 1, 5, 6, 12, 13, 14]) (kL := [17]) (fr' := [(0, aI a0), (1, aI a1), (5, .one (.slc 17)), (6, aI i10), (12, .one (.slc 17)), (13, aI a1), (14, aI i10)]) (L' := [(17, .seq .bool x11)]) (obs := []) rfl (by kernel_rfl) allP0 ?_
      obtain ⟨r14, h15, h⟩ := bind_of h
      refine WO_call0 (us := [none, none]) (d := 15) (p := True) (j := 4) rfl ⟨by kernel_rfl, by kernel_rfl, by kernel_rfl⟩ trivial (ref_Bit_ok h15) (by kernel_rfl) ?_
      obtain ⟨_, h16, h⟩ := bind_of h
      replace h16 := ck_some h16
      refine WO_run (j := 7) (k := 3) (orcs := []) (kF := [0, 1, 5, 6]) (kL := [16, 17]) (fr' := [(0, aI a0), (1, aI a1), (5, .one (.slc 17)), (6, aI i10)]) (L' := [(16, .seq .bool [r14]), (17, .seq .bool (x11 ++ [r14]))]) (obs := [SmallLen (List.length x11 + List.length [r14])]) rfl (by kernel_rfl) (allP1 h16) ?_
      refine WO_fin [0, 1, 5, 6] [17] (fr' := [(0, aI a0), (1, aI a1), (5, .one (.slc 17)), (6, aI i10)]) (L' := [(17, .seq .bool (x11 ++ [r14]))]) (by kernel_rfl) (by kernel_rfl) ?_
      refine blockQ_norm ?_
      refine seqQ_norm ?_
      obtain rfl := Option.some.inj h
      refine W_run 3 [] [0, 1, 5, 6] [17] (fr' := [(0, aI a0), (1, aI a1), (5, .one (.slc 17)), (6, aI (w64 (i10 + (1 : Int))))]) (L' := [(17, .seq .bool (x11 ++ [r14]))]) (obs := []) (by kernel_rfl) (by kernel_rfl) (by kernel_rfl) allP0 ?_
      exact round_next' (by kernel_rfl) (by kernel_rfl)
    · obtain rfl := stepI_false h13 h
      refine W_exit (id := 0) [5] [17] (fr' := [(5, .one (.slc 17))]) (L' := [(17, .seq .bool x11)]) (by kernel_rfl) (by kernel_rfl) ?_
      refine seqQ_exit ?_
      refine round_exit ?_
      exact exQ_mk (by kernel_rfl) (by kernel_rfl)
  · intro e fr L hJ
    obtain ⟨rfl, rfl, rfl⟩ := hJ
    refine LT_keep [5] [17] (fr' := [(5, .one (.slc 17))]) (L' := [(17, .seq .bool v18)]) (by kernel_rfl) ?_
    refine blockQ_hit ?_
    refine seqQ_norm ?_
    refine W_seq (by kernel_rfl) ?_
    refine W_run 2 [] [4] [17] (fr' := [(4, .one (.slc 17))]) (L' := [(17, .seq .bool v18)]) (obs := []) (by kernel_rfl) (by kernel_rfl) (by kernel_rfl) allP0 ?_
    refine seqQ_norm ?_
    obtain rfl := Option.some.inj h
    refine W_frz 17 (by kernel_rfl) ?_
    refine W_ret [4] [] (fr' := [(4, aD (.slice .bool) v18)]) (L' := []) (by kernel_rfl) (by kernel_rfl) ?_
    exact retQ_mk (by kernel_rfl) (by kernel_rfl) (by kernel_rfl)

@[reducible] def ref_Word_s4 (a0 : (List Bool)) (i30 : Int) (v : Int) : Fr × LL := ([(3, aI v), (6, aD (.slice .bool) a0), (7, aI (List.length a0 : Int)), (8, aI i30)], [])
def ref_Word_b5 (i30 : Int) (v33 : Bool) (x31 : Int) : Option (Flow Int Int) :=
(bif v33 then
((ck (0 ≤ IntKind.wrap .u64 (i30))).bind fun _ =>
some (w64 (x31 + (bShl .i64 (1 : Int) (IntKind.wrap .u64 (i30))))))
else
(some x31)).bind fun v42 =>
some (.next v42)
@[reducible] def ref_Word_s6 (a0 : (List Bool)) (v : Int × Int) : Fr × LL := ([(3, aI v.2), (6, aD (.slice .bool) a0), (7, aI (List.length a0 : Int)), (8, aI v.1)], [])
@[reducible] def ref_Word_s7 (v : Int) : Fr × LL := ([(3, aI v)], [])
def ref_Word (a0 : (List Bool)) : Option Int :=
(forL ref_Word_b5 (fun x31 => x31) a0 0 (0 : Int)).bind fun v45 =>
some v45
theorem ref_Word_ok {a0 : (List Bool)} {r : Int} (h : ref_Word a0 = some r) : FnC Try.prog 50 [aD (.slice .bool) a0] [] (aI r) [] := by
  refine fnC_of_W (B := bodyOf Try.f50) (n := 21) Try.func50 (by kernel_rfl) (by kernel_rfl) (by kernel_rfl) (by kernel_rfl) (by kernel_rfl) ?_
  intro K
  refine W_seq (by kernel_rfl) ?_
  refine W_run 1 [] [0] [] (fr' := [(0, aD (.slice .bool) a0)]) (L' := []) (obs := []) (by kernel_rfl) (by kernel_rfl) (by kernel_rfl) allP0 ?_
  refine seqQ_norm ?_
  refine W_seq (by kernel_rfl) ?_
  refine W_run 1 [] [0, 3] [] (fr' := [(0, aD (.slice .bool) a0), (3, aI (0 : Int))]) (L' := []) (obs := []) (by kernel_rfl) (by kernel_rfl) (by kernel_rfl) allP0 ?_
  refine seqQ_norm ?_
  refine W_seq (by kernel_rfl) ?_
  refine W_seq (by kernel_rfl) ?_
  refine W_run 3 [] [3, 6, 7, 8] [] (fr' := [(3, aI (0 : Int)), (6, aD (.slice .bool) a0), (7, aI (List.length a0 : Int)), (8, aI (0 : Int))]) (L' := []) (obs := []) (by kernel_rfl) (by kernel_rfl) (by kernel_rfl) allP0 ?_
  refine seqQ_norm ?_
  refine W_block (id := 0) (by kernel_rfl) ?_
  obtain ⟨v45, h46, h⟩ := bind_of h
  refine W_len (t := 6) (u := .bool) (xs := a0) (by kernel_rfl) (fun h49 => ?_)
  obtain ⟨h47, h48⟩ := forL_iter h49 h46
  refine W_weaken [3, 6, 7, 8] [] (fr' := ((ref_Word_s6 a0) ((0 : Int), (0 : Int))).1) (L' := ((ref_Word_s6 a0) ((0 : Int), (0 : Int))).2) (by kernel_rfl) ?_
  refine W_cutK (W_loop (S := (ref_Word_s6 a0)) (J := (exQ (.exit 0) ref_Word_s7)) (by kernel_rfl) ?_ h47 _ v45 h48) ?_
  · rintro ⟨i30, x31⟩ s h
    refine W_seq (by kernel_rfl) ?_
    refine W_run 1 [] [3, 6, 7, 8, 9] [] (fr' := [(3, aI x31), (6, aD (.slice .bool) a0), (7, aI (List.length a0 : Int)), (8, aI i30), (9, aB (decide (i30 < (List.length a0 : Int))))]) (L' := []) (obs := []) (by kernel_rfl) (by kernel_rfl) (by kernel_rfl) allP0 ?_
    refine seqQ_norm ?_
    refine W_seq (by kernel_rfl) ?_
    refine W_cond (o := .tmp 9) (b := decide (i30 < (List.length a0 : Int))) (by kernel_rfl) (by kernel_rfl) (fun h35 => ?_) (fun h35 => ?_)
    · replace h := stepL_true h35 h
      obtain ⟨v33, _, h34, h, rfl⟩ := h
      refine W_skip [3, 6, 7, 8] [] (fr' := [(3, aI x31), (6, aD (.slice .bool) a0), (7, aI (List.length a0 : Int)), (8, aI i30)]) (L' := []) (by kernel_rfl) (by kernel_rfl) ?_
      refine seqQ_norm ?_
      refine W_seq (by kernel_rfl) ?_
      obtain ⟨v42, h43, h⟩ := bind_of h
      refine W_cutK (Q' := (exQ .normal (ref_Word_s4 a0 i30)) v42) ?_ ?_
      · replace h := h43
        refine W_block (id := 1) (by kernel_rfl) ?_
        refine W_seq (by kernel_rfl) ?_
        refine W_run 5 [(3, .val (.dat .bool v33))] [3, 4, 5, 6, 7, 8] [] (fr' := [(3, aI x31), (4, aI i30), (5, aB v33), (6, aD (.slice .bool) a0), (7, aI (List.length a0 : Int)), (8, aI i30)]) (L' := []) (obs := [Idx a0 i30 v33]) (by kernel_rfl) (by kernel_rfl) (by kernel_rfl) (allP1 (Idx.of h34)) ?_
        refine seqQ_norm ?_
        refine W_seq (by kernel_rfl) ?_
        refine W_run 1 [] [3, 4, 6, 7, 8, 13] [] (fr' := [(3, aI x31), (4, aI i30), (6, aD (.slice .bool) a0), (7, aI (List.length a0 : Int)), (8, aI i30), (13, aB v33)]) (L' := []) (obs := []) (by kernel_rfl) (by kernel_rfl) (by kernel_rfl) allP0 ?_
        refine seqQ_norm ?_
        refine W_cond (o := .tmp 13) (b := v33) (by kernel_rfl) (by kernel_rfl) (fun h40 => ?_) (fun h40 => ?_)
        · replace h := ofT h40 h
          obtain ⟨_, h41, h⟩ := bind_of h
          replace h41 := ck_some h41
          obtain rfl := Option.some.inj h
          refine W_run 6 [] [3, 6, 7, 8] [] (fr' := [(3, aI (w64 (x31 + (bShl .i64 (1 : Int) (IntKind.wrap .u64 (i30)))))), (6, aD (.slice .bool) a0), (7, aI (List.length a0 : Int)), (8, aI i30)]) (L' := []) (obs := [(0 ≤ IntKind.wrap .u64 (i30))]) (by kernel_rfl) (by kernel_rfl) (by kernel_rfl) (allP1 h41) ?_
          refine blockQ_norm ?_
          exact exQ_mk (by kernel_rfl) (by kernel_rfl)
        · replace h := ofF h40 h
          obtain rfl := Option.some.inj h
          refine W_skip [3, 6, 7, 8] [] (fr' := [(3, aI x31), (6, aD (.slice .bool) a0), (7, aI (List.length a0 : Int)), (8, aI i30)]) (L' := []) (by kernel_rfl) (by kernel_rfl) ?_
          refine blockQ_norm ?_
          exact exQ_mk (by kernel_rfl) (by kernel_rfl)
      · intro e fr L hJ
        obtain ⟨rfl, rfl, rfl⟩ := hJ
        refine LT_keep [3, 6, 7, 8] [] (fr' := [(3, aI v42), (6, aD (.slice .bool) a0), (7, aI (List.length a0 : Int)), (8, aI i30)]) (L' := []) (by kernel_rfl) ?_
        refine seqQ_norm ?_
        obtain rfl := Option.some.inj h
        refine W_run 2 [] [3, 6, 7, 8] [] (fr' := [(3, aI v42), (6, aD (.slice .bool) a0), (7, aI (List.length a0 : Int)), (8, aI (w64 (i30 + (1 : Int))))]) (L' := []) (obs := []) (by kernel_rfl) (by kernel_rfl) (by kernel_rfl) allP0 ?_
        exact round_next' (by kernel_rfl) (by kernel_rfl)
    · obtain rfl := stepL_false h35 h
      refine W_exit (id := 0) [3] [] (fr' := [(3, aI x31)]) (L' := []) (by kernel_rfl) (by kernel_rfl) ?_
      refine seqQ_exit ?_
      refine round_exit ?_
      exact exQ_mk (by kernel_rfl) (by kernel_rfl)
  · intro e fr L hJ
    obtain ⟨rfl, rfl, rfl⟩ := hJ
    refine LT_keep [3] [] (fr' := [(3, aI v45)]) (L' := []) (by kernel_rfl) ?_
    refine blockQ_hit ?_
    refine seqQ_norm ?_
    refine W_seq (by kernel_rfl) ?_
    refine W_run 2 [] [2] [] (fr' := [(2, aI v45)]) (L' := []) (obs := []) (by kernel_rfl) (by kernel_rfl) (by kernel_rfl) allP0 ?_
    refine seqQ_norm ?_
    obtain rfl := Option.some.inj h
    refine W_ret [2] [] (fr' := [(2, aI v45)]) (L' := []) (by kernel_rfl) (by kernel_rfl) ?_
    exact retQ_mk (by kernel_rfl) (by kernel_rfl) (by kernel_rfl)

@[reducible] def ref_Word_i2_s4 (c0 : (List Bool)) (i30 : Int) (v : Int) : Fr × LL := ([(3, aI v), (6, .one (.slc 1000)), (7, aI (List.length c0 : Int)), (8, aI i30)], [(1000, .seq .bool c0)])
def ref_Word_i2_b5 (i30 : Int) (v33 : Bool) (x31 : Int) : Option (Flow Int Int) :=
(bif v33 then
((ck (0 ≤ IntKind.wrap .u64 (i30))).bind fun _ =>
some (w64 (x31 + (bShl .i64 (1 : Int) (IntKind.wrap .u64 (i30))))))
else
(some x31)).bind fun v42 =>
some (.next v42)
@[reducible] def ref_Word_i2_s6 (c0 : (List Bool)) (v : Int × Int) : Fr × LL := ([(3, aI v.2), (6, .one (.slc 1000)), (7, aI (List.length c0 : Int)), (8, aI v.1)], [(1000, .seq .bool c0)])
@[reducible] def ref_Word_i2_s7 (c0 : (List Bool)) (v : Int) : Fr × LL := ([(3, aI v)], [(1000, .seq .bool c0)])
def ref_Word_i2 (c0 : (List Bool)) : Option Int :=
(forL ref_Word_i2_b5 (fun x31 => x31) c0 0 (0 : Int)).bind fun v45 =>
some v45
theorem ref_Word_i2_ok {c0 : (List Bool)} {r : Int} (h : ref_Word_i2 c0 = some r) : FnC Try.prog 50 [.one (.slc 1000)] [(1000, .seq .bool c0)] (aI r) [(1000, .seq .bool c0)] := by
  refine fnC_of_W (B := bodyOf Try.f50) (n := 21) Try.func50 (by kernel_rfl) (by kernel_rfl) (by kernel_rfl) (by kernel_rfl) (by kernel_rfl) ?_
  intro K
  refine W_seq (by kernel_rfl) ?_
  refine W_run 1 [] [0] [1000] (fr' := [(0, .one (.slc 1000))]) (L' := [(1000, .seq .bool c0)]) (obs := []) (by kernel_rfl) (by kernel_rfl) (by kernel_rfl) allP0 ?_
  refine seqQ_norm ?_
  refine W_seq (by kernel_rfl) ?_
  refine W_run 1 [] [0, 3] [1000] (fr' := [(0, .one (.slc 1000)), (3, aI (0 : Int))]) (L' := [(1000, .seq .bool c0)]) (obs := []) (by kernel_rfl) (by kernel_rfl) (by kernel_rfl) allP0 ?_
  refine seqQ_norm ?_
  refine W_seq (by kernel_rfl) ?_
  refine W_seq (by kernel_rfl) ?_
  refine W_run 3 [] [3, 6, 7, 8] [1000] (fr' := [(3, aI (0 : Int)), (6, .one (.slc 1000)), (7, aI (List.length c0 : Int)), (8, aI (0 : Int))]) (L' := [(1000, .seq .bool c0)]) (obs := []) (by kernel_rfl) (by kernel_rfl) (by kernel_rfl) allP0 ?_
  refine seqQ_norm ?_
  refine W_block (id := 0) (by kernel_rfl) ?_
  obtain ⟨v45, h46, h⟩ := bind_of h
  refine W_lenS (s := 1000) (u := .bool) (xs := c0) (by kernel_rfl) (fun h49 => ?_)
  obtain ⟨h47, h48⟩ := forL_iter h49 h46
  refine W_weaken [3, 6, 7, 8] [1000] (fr' := ((ref_Word_i2_s6 c0) ((0 : Int), (0 : Int))).1) (L' := ((ref_Word_i2_s6 c0) ((0 : Int), (0 : Int))).2) (by kernel_rfl) ?_
  refine W_cutK (W_loop (S := (ref_Word_i2_s6 c0)) (J := (exQ (.exit 0) (ref_Word_i2_s7 c0))) (by kernel_rfl) ?_ h47 _ v45 h48) ?_
  · rintro ⟨i30, x31⟩ s h
    refine W_seq (by kernel_rfl) ?_
    refine W_run 1 [] [3, 6, 7, 8, 9] [1000] (fr' := [(3, aI x31), (6, .one (.slc 1000)), (7, aI (List.length c0 : Int)), (8, aI i30), (9, aB (decide (i30 < (List.length c0 : Int))))]) (L' := [(1000, .seq .bool c0)]) (obs := []) (by kernel_rfl) (by kernel_rfl) (by kernel_rfl) allP0 ?_
    refine seqQ_norm ?_
    refine W_seq (by kernel_rfl) ?_
    refine W_cond (o := .tmp 9) (b := decide (i30 < (List.length c0 : Int))) (by kernel_rfl) (by kernel_rfl) (fun h35 => ?_) (fun h35 => ?_)
    · replace h := stepL_true h35 h
      obtain ⟨v33, _, h34, h, rfl⟩ := h
      refine W_skip [3, 6, 7, 8] [1000] (fr' := [(3, aI x31), (6, .one (.slc 1000)), (7, aI (List.length c0 : Int)), (8, aI i30)]) (L' := [(1000, .seq .bool c0)]) (by kernel_rfl) (by kernel_rfl) ?_
      refine seqQ_norm ?_
      refine W_seq (by kernel_rfl) ?_
      obtain ⟨v42, h43, h⟩ := bind_of h
      refine W_cutK (Q' := (exQ .normal (ref_Word_i2_s4 c0 i30)) v42) ?_ ?_
      · replace h := h43
        refine W_block (id := 1) (by kernel_rfl) ?_
        refine W_seq (by kernel_rfl) ?_
        refine W_run 5 [(5, .val (.dat .bool v33))] [3, 4, 5, 6, 7, 8] [1000] (fr' := [(3, aI x31), (4, aI i30), (5, aB v33), (6, .one (.slc 1000)), (7, aI (List.length c0 : Int)), (8, aI i30)]) (L' := [(1000, .seq .bool c0)]) (obs := [InR i30 (List.length c0), Idx c0 i30 v33]) (by kernel_rfl) (by kernel_rfl) (by kernel_rfl) (allP2 (InR.of h34) (allP1 (Idx.of h34))) ?_
        refine seqQ_norm ?_
        refine W_seq (by kernel_rfl) ?_
        refine W_run 1 [] [3, 4, 6, 7, 8, 13] [1000] (fr' := [(3, aI x31), (4, aI i30), (6, .one (.slc 1000)), (7, aI (List.length c0 : Int)), (8, aI i30), (13, aB v33)]) (L' := [(1000, .seq .bool c0)]) (obs := []) (by kernel_rfl) (by kernel_rfl) (by kernel_rfl) allP0 ?_
        refine seqQ_norm ?_
        refine W_cond (o := .tmp 13) (b := v33) (by kernel_rfl) (by kernel_rfl) (fun h40 => ?_) (fun h40 => ?_)
        · replace h := ofT h40 h
          obtain ⟨_, h41, h⟩ := bind_of h
          replace h41 := ck_some h41
          obtain rfl := Option.some.inj h
          refine W_run 6 [] [3, 6, 7, 8] [1000] (fr' := [(3, aI (w64 (x31 + (bShl .i64 (1 : Int) (IntKind.wrap .u64 (i30)))))), (6, .one (.slc 1000)), (7, aI (List.length c0 : Int)), (8, aI i30)]) (L' := [(1000, .seq .bool c0)]) (obs := [(0 ≤ IntKind.wrap .u64 (i30))]) (by kernel_rfl) (by kernel_rfl) (by kernel_rfl) (allP1 h41) ?_
          refine blockQ_norm ?_
          exact exQ_mk (by kernel_rfl) (by kernel_rfl)
        · replace h := ofF h40 h
          obtain rfl := Option.some.inj h
          refine W_skip [3, 6, 7, 8] [1000] (fr' := [(3, aI x31), (6, .one (.slc 1000)), (7, aI (List.length c0 : Int)), (8, aI i30)]) (L' := [(1000, .seq .bool c0)]) (by kernel_rfl) (by kernel_rfl) ?_
          refine blockQ_norm ?_
          exact exQ_mk (by kernel_rfl) (by kernel_rfl)
      · intro e fr L hJ
        obtain ⟨rfl, rfl, rfl⟩ := hJ
        refine LT_keep [3, 6, 7, 8] [1000] (fr' := [(3, aI v42), (6, .one (.slc 1000)), (7, aI (List.length c0 : Int)), (8, aI i30)]) (L' := [(1000, .seq .bool c0)]) (by kernel_rfl) ?_
        refine seqQ_norm ?_
        obtain rfl := Option.some.inj h
        refine W_run 2 [] [3, 6, 7, 8] [1000] (fr' := [(3, aI v42), (6, .one (.slc 1000)), (7, aI (List.length c0 : Int)), (8, aI (w64 (i30 + (1 : Int))))]) (L' := [(1000, .seq .bool c0)]) (obs := []) (by kernel_rfl) (by kernel_rfl) (by kernel_rfl) allP0 ?_
        exact round_next' (by kernel_rfl) (by kernel_rfl)
    · obtain rfl := stepL_false h35 h
      refine W_exit (id := 0) [3] [1000] (fr' := [(3, aI x31)]) (L' := [(1000, .seq .bool c0)]) (by kernel_rfl) (by kernel_rfl) ?_
      refine seqQ_exit ?_
      refine round_exit ?_
      exact exQ_mk (by kernel_rfl) (by kernel_rfl)
  · intro e fr L hJ
    obtain ⟨rfl, rfl, rfl⟩ := hJ
    refine LT_keep [3] [1000] (fr' := [(3, aI v45)]) (L' := [(1000, .seq .bool c0)]) (by kernel_rfl) ?_
    refine blockQ_hit ?_
    refine seqQ_norm ?_
    refine W_seq (by kernel_rfl) ?_
    refine W_run 2 [] [2] [1000] (fr' := [(2, aI v45)]) (L' := [(1000, .seq .bool c0)]) (obs := []) (by kernel_rfl) (by kernel_rfl) (by kernel_rfl) allP0 ?_
    refine seqQ_norm ?_
    obtain rfl := Option.some.inj h
    refine W_ret [2] [1000] (fr' := [(2, aI v45)]) (L' := [(1000, .seq .bool c0)]) (by kernel_rfl) (by kernel_rfl) ?_
    exact retQ_mk (by kernel_rfl) (by kernel_rfl) (by kernel_rfl)

def ref_Played_g5 (a1 : (List Bool)) (a2 : (List Bool)) (i72 : Int) (x73 : (Int × Int × (List Bool))) (v75 : Bool) : Option (Int × Int × (List Bool)) :=
bif v75 then
((ref_Word_i2 x73.2.2).bind fun r99 =>
(idx a1 (w64 (x73.1 + r99))).bind fun v101 =>
(ck ((List.length x73.2.2 : Int) + 1 ≤ 4294967296)).bind fun _ =>
(ck (0 ≤ IntKind.wrap .u64 (i72))).bind fun _ =>
some (w64 (x73.1 + (bShl .i64 (1 : Int) (IntKind.wrap .u64 (i72)))), x73.2.1, x73.2.2 ++ [v101]))
else
((idx a2 x73.2.1).bind fun v105 =>
(ck ((List.length x73.2.2 : Int) + 1 ≤ 4294967296)).bind fun _ =>
some (x73.1, w64 (x73.2.1 + (1 : Int)), x73.2.2 ++ [v105]))
@[reducible] def ref_Played_s6 (a0 : (List Bool)) (a1 : (List Bool)) (a2 : (List Bool)) (i72 : Int) (v : (Int × Int × (List Bool))) : Fr × LL := ([(1, aD (.slice .bool) a1), (2, aD (.slice .bool) a2), (7, .one (.slc 29)), (8, aI v.1), (9, aI v.2.1), (12, aD (.slice .bool) a0), (13, aI (List.length a0 : Int)), (14, aI i72)], [(29, .seq .bool v.2.2)])
def ref_Played_b7 (a1 : (List Bool)) (a2 : (List Bool)) (i72 : Int) (v75 : Bool) (x73 : (Int × Int × (List Bool))) : Option (Flow (Int × Int × (List Bool)) (List Bool)) :=
(ref_Played_g5 a1 a2 i72 x73 v75).bind fun v108 =>
some (.next (v108.1, v108.2.1, v108.2.2))
@[reducible] def ref_Played_s8 (a0 : (List Bool)) (a1 : (List Bool)) (a2 : (List Bool)) (v : Int × (Int × Int × (List Bool))) : Fr × LL := ([(1, aD (.slice .bool) a1), (2, aD (.slice .bool) a2), (7, .one (.slc 29)), (8, aI v.2.1), (9, aI v.2.2.1), (12, aD (.slice .bool) a0), (13, aI (List.length a0 : Int)), (14, aI v.1)], [(29, .seq .bool v.2.2.2)])
@[reducible] def ref_Played_s9 (v : (List Bool)) : Fr × LL := ([(7, .one (.slc 29))], [(29, .seq .bool v)])
def ref_Played (a0 : (List Bool)) (a1 : (List Bool)) (a2 : (List Bool)) : Option (List Bool) :=
(forL (ref_Played_b7 a1 a2) (fun x73 => x73.2.2) a0 0 ((0 : Int), (0 : Int), [])).bind fun v111 =>
some v111
theorem ref_Played_ok {a0 : (List Bool)} {a1 : (List Bool)} {a2 : (List Bool)} {r : (List Bool)} (h : ref_Played a0 a1 a2 = some r) : FnC Try.prog 24 [aD (.slice .bool) a0, aD (.slice .bool) a1, aD (.slice .bool) a2] [] (aD (.slice .bool) r) [] := by
  refine fnC_of_W (B := bodyOf Try.f24) (n := 46) Try.func24 (by kernel_rfl) (by kernel_rfl) (by kernel_rfl) (by kernel_rfl) (by kernel_rfl) ?_
  intro K
  refine W_seq (by kernel_rfl) ?_
  refine W_run 1 [] [0, 1, 2] [] (fr' := [(0, aD (.slice .bool) a0), (1, aD (.slice .bool) a1), (2, aD (.slice .bool) a2)]) (L' := []) (obs := []) (by kernel_rfl) (by kernel_rfl) (by kernel_rfl) allP0 ?_
  refine seqQ_norm ?_
  refine W_seq (by kernel_rfl) ?_
  refine W_run 1 [] [0, 1, 2, 7] [] (fr' := [(0, aD (.slice .bool) a0), (1, aD (.slice .bool) a1), (2, aD (.slice .bool) a2), (7, .one (.nilS))]) (L' := []) (obs := []) (by kernel_rfl) (by kernel_rfl) (by kernel_rfl) allP0 ?_
  refine seqQ_norm ?_
  refine W_seq (by kernel_rfl) ?_
  refine W_run 1 [] [0, 1, 2, 7, 8] [] (fr' := [(0, aD (.slice .bool) a0), (1, aD (.slice .bool) a1), (2, aD (.slice .bool) a2), (7, .one (.nilS)), (8, aI (0 : Int))]) (L' := []) (obs := []) (by kernel_rfl) (by kernel_rfl) (by kernel_rfl) allP0 ?_
  refine seqQ_norm ?_
  refine W_seq (by kernel_rfl) ?_
  refine W_run 1 [] [0, 1, 2, 7, 8, 9] [] (fr' := [(0, aD (.slice .bool) a0), (1, aD (.slice .bool) a1), (2, aD (.slice .bool) a2), (7, .one (.nilS)), (8, aI (0 : Int)), (9, aI (0 : Int))]) (L' := []) (obs := []) (by kernel_rfl) (by kernel_rfl) (by kernel_rfl) allP0 ?_
  refine seqQ_norm ?_
  refine W_seq (by kernel_rfl) ?_
  refine W_seq (by kernel_rfl) ?_
  refine W_run 3 [] [1, 2, 7, 8, 9, 12, 13, 14] [] (fr' := [(1, aD (.slice .bool) a1), (2, aD (.slice .bool) a2), (7, .one (.nilS)), (8, aI (0 : Int)), (9, aI (0 : Int)), (12, aD (.slice .bool) a0), (13, aI (List.length a0 : Int)), (14, aI (0 : Int))]) (L' := []) (obs := []) (by kernel_rfl) (by kernel_rfl) (by kernel_rfl) allP0 ?_
  refine seqQ_norm ?_
  refine W_block (id := 0) (by kernel_rfl) ?_
  obtain ⟨v111, h112, h⟩ := bind_of h
  refine W_len (t := 12) (u := .bool) (xs := a0) (by kernel_rfl) (fun h115 => ?_)
  obtain ⟨h113, h114⟩ := forL_iter h115 h112
  refine W_mine 7 29 .bool (by kernel_rfl) ?_
  refine W_weaken [1, 2, 7, 8, 9, 12, 13, 14] [29] (fr' := ((ref_Played_s8 a0 a1 a2) ((0 : Int), ((0 : Int), (0 : Int), []))).1) (L' := ((ref_Played_s8 a0 a1 a2) ((0 : Int), ((0 : Int), (0 : Int), []))).2) (by kernel_rfl) ?_
  refine W_cutK (W_loop (S := (ref_Played_s8 a0 a1 a2)) (J := (exQ (.exit 0) ref_Played_s9)) (by kernel_rfl) ?_ h113 _ v111 h114) ?_
  · rintro ⟨i72, x73⟩ s h
    refine W_seq (by kernel_rfl) ?_
    refine W_run 1 [] [1, 2, 7, 8, 9, 12, 13, 14, 15] [29] (fr' := [(1, aD (.slice .bool) a1), (2, aD (.slice .bool) a2), (7, .one (.slc 29)), (8, aI x73.1), (9, aI x73.2.1), (12, aD (.slice .bool) a0), (13, aI (List.length a0 : Int)), (14, aI i72), (15, aB (decide (i72 < (List.length a0 : Int))))]) (L' := [(29, .seq .bool x73.2.2)]) (obs := []) (by kernel_rfl) (by kernel_rfl) (by kernel_rfl) allP0 ?_
    refine seqQ_norm ?_
    refine W_seq (by kernel_rfl) ?_
    refine W_cond (o := .tmp 15) (b := decide (i72 < (List.length a0 : Int))) (by kernel_rfl) (by kernel_rfl) (fun h77 => ?_) (fun h77 => ?_)
    · replace h := stepL_true h77 h
      obtain ⟨v75, _, h76, h, rfl⟩ := h
      refine W_skip [1, 2, 7, 8, 9, 12, 13, 14] [29] (fr' := [(1, aD (.slice .bool) a1), (2, aD (.slice .bool) a2), (7, .one (.slc 29)), (8, aI x73.1), (9, aI x73.2.1), (12, aD (.slice .bool) a0), (13, aI (List.length a0 : Int)), (14, aI i72)]) (L' := [(29, .seq .bool x73.2.2)]) (by kernel_rfl) (by kernel_rfl) ?_
      refine seqQ_norm ?_
      refine W_seq (by kernel_rfl) ?_
      obtain ⟨v108, h109, h⟩ := bind_of h
      refine W_cutK (Q' := (exQ .normal (ref_Played_s6 a0 a1 a2 i72)) v108) ?_ ?_
      · replace h := h109
        refine W_block (id := 1) (by kernel_rfl) ?_
        refine W_seq (by kernel_rfl) ?_
        refine W_run 5 [(3, .val (.dat .bool v75))] [1, 2, 7, 8, 9, 10, 11, 12, 13, 14] [29] (fr' := [(1, aD (.slice .bool) a1), (2, aD (.slice .bool) a2), (7, .one (.slc 29)), (8, aI x73.1), (9, aI x73.2.1), (10, aI i72), (11, aB v75), (12, aD (.slice .bool) a0), (13, aI (List.length a0 : Int)), (14, aI i72)]) (L' := [(29, .seq .bool x73.2.2)]) (obs := [Idx a0 i72 v75]) (by kernel_rfl) (by kernel_rfl) (by kernel_rfl) (allP1 (Idx.of h76)) ?_
        refine seqQ_norm ?_
        refine W_seq (by kernel_rfl) ?_
        refine W_run 1 [] [1, 2, 7, 8, 9, 10, 12, 13, 14, 19] [29] (fr' := [(1, aD (.slice .bool) a1), (2, aD (.slice .bool) a2), (7, .one (.slc 29)), (8, aI x73.1), (9, aI x73.2.1), (10, aI i72), (12, aD (.slice .bool) a0), (13, aI (List.length a0 : Int)), (14, aI i72), (19, aB v75)]) (L' := [(29, .seq .bool x73.2.2)]) (obs := []) (by kernel_rfl) (by kernel_rfl) (by kernel_rfl) allP0 ?_
        refine seqQ_norm ?_
        refine W_cond (o := .tmp 19) (b := v75) (by kernel_rfl) (by kernel_rfl) (fun h98 => ?_) (fun h98 => ?_)
        · replace h := ofT h98 h
          refine W_seq (by kernel_rfl) ?_
          refine W_region (by kernel_rfl) ?_
          refine WO_run (j := 4) (k := 4) (orcs := []) (kF := [1, 2, 7, 8, 9, 10, 12, 13, 14, 20, 21, 22, 23]) (kL := [29]) (fr' := [(1, aD (.slice .bool) a1), (2, aD (.slice .bool) a2), (7, .one (.slc 29)), (8, aI x73.1), (9, aI x73.2.1), (10, aI i72), (12, aD (.slice .bool) a0), (13, aI (List.length a0 : Int)), (14, aI i72), (20, .one (.slc 29)), (21, aD (.slice .bool) a1), (22, aI x73.1), (23, .one (.slc 29))]) (L' := [(29, .seq .bool x73.2.2)]) (obs := []) rfl (by kernel_rfl) allP0 ?_
          obtain ⟨r99, h100, h⟩ := bind_of h
          refine WO_lend [(1000, 29)] (us := [none]) (d := 24) (p := True) (j := 5) rfl ⟨by kernel_rfl, by kernel_rfl, by kernel_rfl⟩ trivial (ref_Word_i2_ok h100) (by kernel_rfl) (by kernel_rfl) ?_
          obtain ⟨v101, h102, h⟩ := bind_of h
          obtain ⟨_, h103, h⟩ := bind_of h
          replace h103 := ck_some h103
          refine WO_run (j := 11) (k := 6) (orcs := [(13, .val (.dat .bool v101))]) (kF := [1, 2, 7, 8, 9, 10, 12, 13, 14]) (kL := [28, 29]) (fr' := [(1, aD (.slice .bool) a1), (2, aD (.slice .bool) a2), (7, .one (.slc 29)), (8, aI x73.1), (9, aI x73.2.1), (10, aI i72), (12, aD (.slice .bool) a0), (13, aI (List.length a0 : Int)), (14, aI i72)]) (L' := [(28, .seq .bool [v101]), (29, .seq .bool (x73.2.2 ++ [v101]))]) (obs := [Idx a1 (w64 (x73.1 + r99)) v101, SmallLen (List.length x73.2.2 + List.length [v101])]) rfl (by kernel_rfl) (allP2 (Idx.of h102) (allP1 h103)) ?_
          refine WO_fin [1, 2, 7, 8, 9, 10, 12, 13, 14] [29] (fr' := [(1, aD (.slice .bool) a1), (2, aD (.slice .bool) a2), (7, .one (.slc 29)), (8, aI x73.1), (9, aI x73.2.1), (10, aI i72), (12, aD (.slice .bool) a0), (13, aI (List.length a0 : Int)), (14, aI i72)]) (L' := [(29, .seq .bool (x73.2.2 ++ [v101]))]) (by kernel_rfl) (by kernel_rfl) ?_
          refine seqQ_norm ?_
          obtain ⟨_, h104, h⟩ := bind_of h
          replace h104 := ck_some h104
          obtain rfl := Option.some.inj h
          refine W_run 6 [] [1, 2, 7, 8, 9, 12, 13, 14] [29] (fr' := [(1, aD (.slice .bool) a1), (2, aD (.slice .bool) a2), (7, .one (.slc 29)), (8, aI (w64 (x73.1 + (bShl .i64 (1 : Int) (IntKind.wrap .u64 (i72)))))), (9, aI x73.2.1), (12, aD (.slice .bool) a0), (13, aI (List.length a0 : Int)), (14, aI i72)]) (L' := [(29, .seq .bool (x73.2.2 ++ [v101]))]) (obs := [(0 ≤ IntKind.wrap .u64 (i72))]) (by kernel_rfl) (by kernel_rfl) (by kernel_rfl) (allP1 h104) ?_
          refine blockQ_norm ?_
          exact exQ_mk (by kernel_rfl) (by kernel_rfl)
        · replace h := ofF h98 h
          refine W_seq (by kernel_rfl) ?_
          obtain ⟨v105, h106, h⟩ := bind_of h
          obtain ⟨_, h107, h⟩ := bind_of h
          replace h107 := ck_some h107
          refine W_run 8 [(7, .val (.dat .bool v105))] [1, 2, 7, 8, 9, 12, 13, 14] [29] (fr' := [(1, aD (.slice .bool) a1), (2, aD (.slice .bool) a2), (7, .one (.slc 29)), (8, aI x73.1), (9, aI x73.2.1), (12, aD (.slice .bool) a0), (13, aI (List.length a0 : Int)), (14, aI i72)]) (L' := [(29, .seq .bool (x73.2.2 ++ [v105]))]) (obs := [Idx a2 x73.2.1 v105, SmallLen (List.length x73.2.2 + List.length [v105])]) (by kernel_rfl) (by kernel_rfl) (by kernel_rfl) (allP2 (Idx.of h106) (allP1 h107)) ?_
          refine seqQ_norm ?_
          obtain rfl := Option.some.inj h
          refine W_run 3 [] [1, 2, 7, 8, 9, 12, 13, 14] [29] (fr' := [(1, aD (.slice .bool) a1), (2, aD (.slice .bool) a2), (7, .one (.slc 29)), (8, aI x73.1), (9, aI (w64 (x73.2.1 + (1 : Int)))), (12, aD (.slice .bool) a0), (13, aI (List.length a0 : Int)), (14, aI i72)]) (L' := [(29, .seq .bool (x73.2.2 ++ [v105]))]) (obs := []) (by kernel_rfl) (by kernel_rfl) (by kernel_rfl) allP0 ?_
          refine blockQ_norm ?_
          exact exQ_mk (by kernel_rfl) (by kernel_rfl)
      · intro e fr L hJ
        obtain ⟨rfl, rfl, rfl⟩ := hJ
        refine LT_keep [1, 2, 7, 8, 9, 12, 13, 14] [29] (fr' := [(1, aD (.slice .bool) a1), (2, aD (.slice .bool) a2), (7, .one (.slc 29)), (8, aI v108.1), (9, aI v108.2.1), (12, aD (.slice .bool) a0), (13, aI (List.length a0 : Int)), (14, aI i72)]) (L' := [(29, .seq .bool v108.2.2)]) (by kernel_rfl) ?_
        refine seqQ_norm ?_
        obtain rfl := Option.some.inj h
        refine W_run 2 [] [1, 2, 7, 8, 9, 12, 13, 14] [29] (fr' := [(1, aD (.slice .bool) a1), (2, aD (.slice .bool) a2), (7, .one (.slc 29)), (8, aI v108.1), (9, aI v108.2.1), (12, aD (.slice .bool) a0), (13, aI (List.length a0 : Int)), (14, aI (w64 (i72 + (1 : Int))))]) (L' := [(29, .seq .bool v108.2.2)]) (obs := []) (by kernel_rfl) (by kernel_rfl) (by kernel_rfl) allP0 ?_
        exact round_next' (by kernel_rfl) (by kernel_rfl)
    · obtain rfl := stepL_false h77 h
      refine W_exit (id := 0) [7] [29] (fr' := [(7, .one (.slc 29))]) (L' := [(29, .seq .bool x73.2.2)]) (by kernel_rfl) (by kernel_rfl) ?_
      refine seqQ_exit ?_
      refine round_exit ?_
      exact exQ_mk (by kernel_rfl) (by kernel_rfl)
  · intro e fr L hJ
    obtain ⟨rfl, rfl, rfl⟩ := hJ
    refine LT_keep [7] [29] (fr' := [(7, .one (.slc 29))]) (L' := [(29, .seq .bool v111)]) (by kernel_rfl) ?_
    refine blockQ_hit ?_
    refine seqQ_norm ?_
    refine W_seq (by kernel_rfl) ?_
    refine W_run 2 [] [6] [29] (fr' := [(6, .one (.slc 29))]) (L' := [(29, .seq .bool v111)]) (obs := []) (by kernel_rfl) (by kernel_rfl) (by kernel_rfl) allP0 ?_
    refine seqQ_norm ?_
    obtain rfl := Option.some.inj h
    refine W_frz 29 (by kernel_rfl) ?_
    refine W_ret [6] [] (fr' := [(6, aD (.slice .bool) v111)]) (L' := []) (by kernel_rfl) (by kernel_rfl) ?_
    exact retQ_mk (by kernel_rfl) (by kernel_rfl) (by kernel_rfl)

@[reducible] def law_AllPlans_s3 (a0 : (List Bool)) (a1 : (List ((List Int) × (List Int)))) (r1 : ((List Bool) × Int)) (r3 : Int) (v : Bool) : Fr × LL := ([(0, aD (.slice .bool) a0), (1, aD (.slice (.pair (.slice tI) (.slice tI))) a1), (5, aD (.slice .bool) r1.1), (6, aI r1.2), (7, aI r3), (27, aB v)], [])
def law_AllPlans_b4 (a0 : (List Bool)) (a1 : (List ((List Int) × (List Int)))) (r1 : ((List Bool) × Int)) (r44 : (Int × Int)) (x57 : Int) : Option (Flow Int (Esc Bool Unit)) :=
(ck (0 ≤ IntKind.wrap .u64 (r44.2))).bind fun _ =>
bif decide (x57 < (bShl .i64 (1 : Int) (IntKind.wrap .u64 (r44.2)))) then
((ref_Bits r44.2 x57).bind fun r69 =>
(ref_Played a0 r1.1 r69).bind fun r71 =>
(ref_True a1 r71).bind fun r73 =>
bif !r73 then
(some (.done (.ret false)))
else
(some (.next (w64 (x57 + (1 : Int))))))
else
(some (.done (.brk ())))
@[reducible] def law_AllPlans_s5 (a0 : (List Bool)) (a1 : (List ((List Int) × (List Int)))) (r1 : ((List Bool) × Int)) (r44 : (Int × Int)) (v : Int) : Fr × LL := ([(0, aD (.slice .bool) a0), (1, aD (.slice (.pair (.slice tI) (.slice tI))) a1), (5, aD (.slice .bool) r1.1), (9, aI r44.2), (10, aI v)], [])
@[reducible] def law_AllPlans_s6 (v : Bool) : Fr × LL := ([(4, aB v)], [])
@[reducible] def law_AllPlans_s7 (v : Unit) : Fr × LL := ([], [])
@[reducible] def law_AllPlans_s8 (a0 : (List Bool)) (a1 : (List ((List Int) × (List Int)))) (r1 : ((List Bool) × Int)) (v : Int) : Fr × LL := ([(0, aD (.slice .bool) a0), (1, aD (.slice (.pair (.slice tI) (.slice tI))) a1), (5, aD (.slice .bool) r1.1), (6, aI r1.2), (7, aI v)], [])
def law_AllPlans (fuel : Nat) (a0 : (List Bool)) (a1 : (List ((List Int) × (List Int)))) : Option Bool :=
(all_Plan fuel a0 a1).bind fun r1 =>
(ref_AllCheck a0 a1).bind fun r3 =>
((bif r3 == (0 : Int) then
((ref_Wins fuel a0 a1 []).bind fun r36 =>
some (!r36))
else
(some false)).bind fun v38 =>
bif v38 then
(some (5 : Int))
else
(some r3)).bind fun v41 =>
bif v41 != (0 : Int) then
(some ((r1.2 == v41) && ((List.length r1.1 : Int) == (0 : Int))))
else
((ref_Plans a0).bind fun r44 =>
bif (r1.2 != (0 : Int)) || ((List.length r1.1 : Int) != r44.1) then
(some false)
else
((iter (law_AllPlans_b4 a0 a1 r1 r44) fuel (0 : Int)).bind fun v76 =>
match v76 with
| .ret v80 =>
(some v80)
| .brk v81 =>
(some true)))
theorem law_AllPlans_ok {fuel : Nat} {a0 : (List Bool)} {a1 : (List ((List Int) × (List Int)))} {r : Bool} (h : law_AllPlans fuel a0 a1 = some r) : FnC Try.prog 6 [aD (.slice .bool) a0, aD (.slice (.pair (.slice tI) (.slice tI))) a1] [] (aB r) [] := by
  refine fnC_of_W (B := bodyOf Try.f6) (n := 67) Try.func6 (by kernel_rfl) (by kernel_rfl) (by kernel_rfl) (by kernel_rfl) (by kernel_rfl) ?_
  intro K
  refine W_seq (by kernel_rfl) ?_
  refine W_run 1 [] [0, 1] [] (fr' := [(0, aD (.slice .bool) a0), (1, aD (.slice (.pair (.slice tI) (.slice tI))) a1)]) (L' := []) (obs := []) (by kernel_rfl) (by kernel_rfl) (by kernel_rfl) allP0 ?_
  refine seqQ_norm ?_
  refine W_seq (by kernel_rfl) ?_
  refine W_region (by kernel_rfl) ?_
  refine WO_run (j := 2) (k := 2) (orcs := []) (kF := [0, 1, 12, 13]) (kL := []) (fr' := [(0, aD (.slice .bool) a0), (1, aD (.slice (.pair (.slice tI) (.slice tI))) a1), (12, aD (.slice .bool) a0), (13, aD (.slice (.pair (.slice tI) (.slice tI))) a1)]) (L' := []) (obs := []) rfl (by kernel_rfl) allP0 ?_
  obtain ⟨r1, h2, h⟩ := bind_of h
  refine WO_call0 (us := [none, none]) (d := 14) (p := True) (j := 3) rfl ⟨by kernel_rfl, by kernel_rfl, by kernel_rfl⟩ trivial (all_Plan_ok h2) (by kernel_rfl) ?_
  refine WO_run (j := 8) (k := 5) (orcs := []) (kF := [0, 1, 5, 6]) (kL := []) (fr' := [(0, aD (.slice .bool) a0), (1, aD (.slice (.pair (.slice tI) (.slice tI))) a1), (5, aD (.slice .bool) r1.1), (6, aI r1.2)]) (L' := []) (obs := []) rfl (by kernel_rfl) allP0 ?_
  refine WO_fin [0, 1, 5, 6] [] (fr' := [(0, aD (.slice .bool) a0), (1, aD (.slice (.pair (.slice tI) (.slice tI))) a1), (5, aD (.slice .bool) r1.1), (6, aI r1.2)]) (L' := []) (by kernel_rfl) (by kernel_rfl) ?_
  refine seqQ_norm ?_
  refine W_seq (by kernel_rfl) ?_
  refine W_region (by kernel_rfl) ?_
  refine WO_run (j := 2) (k := 2) (orcs := []) (kF := [0, 1, 5, 6, 17, 18]) (kL := []) (fr' := [(0, aD (.slice .bool) a0), (1, aD (.slice (.pair (.slice tI) (.slice tI))) a1), (5, aD (.slice .bool) r1.1), (6, aI r1.2), (17, aD (.slice .bool) a0), (18, aD (.slice (.pair (.slice tI) (.slice tI))) a1)]) (L' := []) (obs := []) rfl (by kernel_rfl) allP0 ?_
  obtain ⟨r3, h4, h⟩ := bind_of h
  refine WO_call0 (us := [none, none]) (d := 19) (p := True) (j := 3) rfl ⟨by kernel_rfl, by kernel_rfl, by kernel_rfl⟩ trivial (ref_AllCheck_ok h4) (by kernel_rfl) ?_
  refine WO_run (j := 4) (k := 1) (orcs := []) (kF := [0, 1, 5, 6, 7]) (kL := []) (fr' := [(0, aD (.slice .bool) a0), (1, aD (.slice (.pair (.slice tI) (.slice tI))) a1), (5, aD (.slice .bool) r1.1), (6, aI r1.2), (7, aI r3)]) (L' := []) (obs := []) rfl (by kernel_rfl) allP0 ?_
  refine WO_fin [0, 1, 5, 6, 7] [] (fr' := [(0, aD (.slice .bool) a0), (1, aD (.slice (.pair (.slice tI) (.slice tI))) a1), (5, aD (.slice .bool) r1.1), (6, aI r1.2), (7, aI r3)]) (L' := []) (by kernel_rfl) (by kernel_rfl) ?_
  refine seqQ_norm ?_
  refine W_seq (by kernel_rfl) ?_
  obtain ⟨v41, h42, h⟩ := bind_of h
  refine W_cutK (Q' := (exQ .normal (law_AllPlans_s8 a0 a1 r1)) v41) ?_ ?_
  · replace h := h42
    refine W_seq (by kernel_rfl) ?_
    obtain ⟨v38, h39, h⟩ := bind_of h
    refine W_cutK (Q' := (exQ .normal (law_AllPlans_s3 a0 a1 r1 r3)) v38) ?_ ?_
    · replace h := h39
      refine W_region (by kernel_rfl) ?_
      refine WO_run (j := 3) (k := 3) (orcs := []) (kF := [0, 1, 5, 6, 7, 22]) (kL := []) (fr' := [(0, aD (.slice .bool) a0), (1, aD (.slice (.pair (.slice tI) (.slice tI))) a1), (5, aD (.slice .bool) r1.1), (6, aI r1.2), (7, aI r3), (22, aB (r3 == (0 : Int)))]) (L' := []) (obs := []) rfl (by kernel_rfl) allP0 ?_
      rcases Bool.eq_false_or_eq_true (r3 == (0 : Int)) with h35 | h35
      · replace h := ofT h35 h
        refine WO_run (j := 5) (k := 2) (orcs := [(6, .known true), (8, .known true)]) (kF := [0, 1, 5, 6, 7, 22, 23, 24]) (kL := []) (fr' := [(0, aD (.slice .bool) a0), (1, aD (.slice (.pair (.slice tI) (.slice tI))) a1), (5, aD (.slice .bool) r1.1), (6, aI r1.2), (7, aI r3), (22, aB (r3 == (0 : Int))), (23, aD (.slice .bool) a0), (24, aD (.slice (.pair (.slice tI) (.slice tI))) a1)]) (L' := []) (obs := [((r3 == (0 : Int)) = true), ((r3 == (0 : Int)) = true)]) rfl (by kernel_rfl) (allP2 h35 (allP1 h35)) ?_
        obtain ⟨r36, h37, h⟩ := bind_of h
        refine WO_call0 (us := [none, none, some (.slice .bool)]) (d := 25) (p := ((r3 == (0 : Int)) = true)) (j := 6) rfl ⟨by kernel_rfl, by kernel_rfl, by kernel_rfl⟩ h35 (ref_Wins_ok h37) (by kernel_rfl) ?_
        refine WO_run (j := 8) (k := 2) (orcs := [(12, .known true), (15, .val (.dat .bool true))]) (kF := [0, 1, 5, 6, 7, 27]) (kL := []) (fr' := [(0, aD (.slice .bool) a0), (1, aD (.slice (.pair (.slice tI) (.slice tI))) a1), (5, aD (.slice .bool) r1.1), (6, aI r1.2), (7, aI r3), (27, aB (!r36))]) (L' := []) (obs := [((r3 == (0 : Int)) = true), ((r3 == (0 : Int)) = true)]) rfl (by kernel_rfl) (allP2 h35 (allP1 h35)) ?_
        obtain rfl := Option.some.inj h
        refine WO_fin [0, 1, 5, 6, 7, 27] [] (fr' := [(0, aD (.slice .bool) a0), (1, aD (.slice (.pair (.slice tI) (.slice tI))) a1), (5, aD (.slice .bool) r1.1), (6, aI r1.2), (7, aI r3), (27, aB (!r36))]) (L' := []) (by kernel_rfl) (by kernel_rfl) ?_
        exact exQ_mk (by kernel_rfl) (by kernel_rfl)
      · replace h := ofF h35 h
        refine WO_run (j := 8) (k := 5) (orcs := [(6, .known false), (8, .known false), (10, .known false), (12, .known false), (15, .val (.dat .bool false))]) (kF := [0, 1, 5, 6, 7, 27]) (kL := []) (fr' := [(0, aD (.slice .bool) a0), (1, aD (.slice (.pair (.slice tI) (.slice tI))) a1), (5, aD (.slice .bool) r1.1), (6, aI r1.2), (7, aI r3), (27, aB false)]) (L' := []) (obs := [((r3 == (0 : Int)) = false), ((r3 == (0 : Int)) = false), ((r3 == (0 : Int)) = false), ((r3 == (0 : Int)) = false), ((r3 == (0 : Int)) = false)]) rfl (by kernel_rfl) (allP2 h35 (allP2 h35 (allP2 h35 (allP2 h35 (allP1 h35))))) ?_
        obtain rfl := Option.some.inj h
        refine WO_fin [0, 1, 5, 6, 7, 27] [] (fr' := [(0, aD (.slice .bool) a0), (1, aD (.slice (.pair (.slice tI) (.slice tI))) a1), (5, aD (.slice .bool) r1.1), (6, aI r1.2), (7, aI r3), (27, aB false)]) (L' := []) (by kernel_rfl) (by kernel_rfl) ?_
        exact exQ_mk (by kernel_rfl) (by kernel_rfl)
    · intro e fr L hJ
      obtain ⟨rfl, rfl, rfl⟩ := hJ
      refine LT_keep [0, 1, 5, 6, 7, 27] [] (fr' := [(0, aD (.slice .bool) a0), (1, aD (.slice (.pair (.slice tI) (.slice tI))) a1), (5, aD (.slice .bool) r1.1), (6, aI r1.2), (7, aI r3), (27, aB v38)]) (L' := []) (by kernel_rfl) ?_
      refine seqQ_norm ?_
      refine W_cond (o := .tmp 27) (b := v38) (by kernel_rfl) (by kernel_rfl) (fun h40 => ?_) (fun h40 => ?_)
      · replace h := ofT h40 h
        obtain rfl := Option.some.inj h
        refine W_run 1 [] [0, 1, 5, 6, 7] [] (fr' := [(0, aD (.slice .bool) a0), (1, aD (.slice (.pair (.slice tI) (.slice tI))) a1), (5, aD (.slice .bool) r1.1), (6, aI r1.2), (7, aI (5 : Int))]) (L' := []) (obs := []) (by kernel_rfl) (by kernel_rfl) (by kernel_rfl) allP0 ?_
        exact exQ_mk (by kernel_rfl) (by kernel_rfl)
      · replace h := ofF h40 h
        obtain rfl := Option.some.inj h
        refine W_skip [0, 1, 5, 6, 7] [] (fr' := [(0, aD (.slice .bool) a0), (1, aD (.slice (.pair (.slice tI) (.slice tI))) a1), (5, aD (.slice .bool) r1.1), (6, aI r1.2), (7, aI r3)]) (L' := []) (by kernel_rfl) (by kernel_rfl) ?_
        exact exQ_mk (by kernel_rfl) (by kernel_rfl)
  · intro e fr L hJ
    obtain ⟨rfl, rfl, rfl⟩ := hJ
    refine LT_keep [0, 1, 5, 6, 7] [] (fr' := [(0, aD (.slice .bool) a0), (1, aD (.slice (.pair (.slice tI) (.slice tI))) a1), (5, aD (.slice .bool) r1.1), (6, aI r1.2), (7, aI v41)]) (L' := []) (by kernel_rfl) ?_
    refine seqQ_norm ?_
    refine W_seq (by kernel_rfl) ?_
    refine W_seq (by kernel_rfl) ?_
    refine W_run 2 [] [0, 1, 5, 6, 7, 29] [] (fr' := [(0, aD (.slice .bool) a0), (1, aD (.slice (.pair (.slice tI) (.slice tI))) a1), (5, aD (.slice .bool) r1.1), (6, aI r1.2), (7, aI v41), (29, aB (v41 != (0 : Int)))]) (L' := []) (obs := []) (by kernel_rfl) (by kernel_rfl) (by kernel_rfl) allP0 ?_
    refine seqQ_norm ?_
    refine W_cond (o := .tmp 29) (b := v41 != (0 : Int)) (by kernel_rfl) (by kernel_rfl) (fun h43 => ?_) (fun h43 => ?_)
    · replace h := ofT h43 h
      refine W_seq (by kernel_rfl) ?_
      refine W_run 9 [] [4] [] (fr' := [(4, aB ((r1.2 == v41) && ((List.length r1.1 : Int) == (0 : Int))))]) (L' := []) (obs := []) (by kernel_rfl) (by kernel_rfl) (by kernel_rfl) allP0 ?_
      refine seqQ_norm ?_
      obtain rfl := Option.some.inj h
      refine W_ret [4] [] (fr' := [(4, aB ((r1.2 == v41) && ((List.length r1.1 : Int) == (0 : Int))))]) (L' := []) (by kernel_rfl) (by kernel_rfl) ?_
      refine seqQ_ret ?_
      exact retQ_mk (by kernel_rfl) (by kernel_rfl) (by kernel_rfl)
    · replace h := ofF h43 h
      refine W_skip [0, 1, 5, 6] [] (fr' := [(0, aD (.slice .bool) a0), (1, aD (.slice (.pair (.slice tI) (.slice tI))) a1), (5, aD (.slice .bool) r1.1), (6, aI r1.2)]) (L' := []) (by kernel_rfl) (by kernel_rfl) ?_
      refine seqQ_norm ?_
      refine W_seq (by kernel_rfl) ?_
      refine W_region (by kernel_rfl) ?_
      refine WO_run (j := 1) (k := 1) (orcs := []) (kF := [0, 1, 5, 6, 39]) (kL := []) (fr' := [(0, aD (.slice .bool) a0), (1, aD (.slice (.pair (.slice tI) (.slice tI))) a1), (5, aD (.slice .bool) r1.1), (6, aI r1.2), (39, aD (.slice .bool) a0)]) (L' := []) (obs := []) rfl (by kernel_rfl) allP0 ?_
      obtain ⟨r44, h45, h⟩ := bind_of h
      refine WO_call0 (us := [none]) (d := 40) (p := True) (j := 2) rfl ⟨by kernel_rfl, by kernel_rfl, by kernel_rfl⟩ trivial (ref_Plans_ok h45) (by kernel_rfl) ?_
      refine WO_run (j := 7) (k := 5) (orcs := []) (kF := [0, 1, 5, 6, 8, 9]) (kL := []) (fr' := [(0, aD (.slice .bool) a0), (1, aD (.slice (.pair (.slice tI) (.slice tI))) a1), (5, aD (.slice .bool) r1.1), (6, aI r1.2), (8, aI r44.1), (9, aI r44.2)]) (L' := []) (obs := []) rfl (by kernel_rfl) allP0 ?_
      refine WO_fin [0, 1, 5, 6, 8, 9] [] (fr' := [(0, aD (.slice .bool) a0), (1, aD (.slice (.pair (.slice tI) (.slice tI))) a1), (5, aD (.slice .bool) r1.1), (6, aI r1.2), (8, aI r44.1), (9, aI r44.2)]) (L' := []) (by kernel_rfl) (by kernel_rfl) ?_
      refine seqQ_norm ?_
      refine W_seq (by kernel_rfl) ?_
      refine W_seq (by kernel_rfl) ?_
      refine W_run 8 [] [0, 1, 5, 9, 50] [] (fr' := [(0, aD (.slice .bool) a0), (1, aD (.slice (.pair (.slice tI) (.slice tI))) a1), (5, aD (.slice .bool) r1.1), (9, aI r44.2), (50, aB ((r1.2 != (0 : Int)) || ((List.length r1.1 : Int) != r44.1)))]) (L' := []) (obs := []) (by kernel_rfl) (by kernel_rfl) (by kernel_rfl) allP0 ?_
      refine seqQ_norm ?_
      refine W_cond (o := .tmp 50) (b := (r1.2 != (0 : Int)) || ((List.length r1.1 : Int) != r44.1)) (by kernel_rfl) (by kernel_rfl) (fun h46 => ?_) (fun h46 => ?_)
      · replace h := ofT h46 h
        refine W_seq (by kernel_rfl) ?_
        refine W_run 1 [] [4] [] (fr' := [(4, aB false)]) (L' := []) (obs := []) (by kernel_rfl) (by kernel_rfl) (by kernel_rfl) allP0 ?_
        refine seqQ_norm ?_
        obtain rfl := Option.some.inj h
        refine W_ret [4] [] (fr' := [(4, aB false)]) (L' := []) (by kernel_rfl) (by kernel_rfl) ?_
        refine seqQ_ret ?_
        exact retQ_mk (by kernel_rfl) (by kernel_rfl) (by kernel_rfl)
      · replace h := ofF h46 h
        refine W_skip [0, 1, 5, 9] [] (fr' := [(0, aD (.slice .bool) a0), (1, aD (.slice (.pair (.slice tI) (.slice tI))) a1), (5, aD (.slice .bool) r1.1), (9, aI r44.2)]) (L' := []) (by kernel_rfl) (by kernel_rfl) ?_
        refine seqQ_norm ?_
        refine W_seq (by kernel_rfl) ?_
        refine W_seq (by kernel_rfl) ?_
        refine W_run 1 [] [0, 1, 5, 9, 10] [] (fr' := [(0, aD (.slice .bool) a0), (1, aD (.slice (.pair (.slice tI) (.slice tI))) a1), (5, aD (.slice .bool) r1.1), (9, aI r44.2), (10, aI (0 : Int))]) (L' := []) (obs := []) (by kernel_rfl) (by kernel_rfl) (by kernel_rfl) allP0 ?_
        refine seqQ_norm ?_
        refine W_block (id := 0) (by kernel_rfl) ?_
        obtain ⟨v76, h77, h⟩ := bind_of h
        refine W_weaken [0, 1, 5, 9, 10] [] (fr' := ((law_AllPlans_s5 a0 a1 r1 r44) (0 : Int)).1) (L' := ((law_AllPlans_s5 a0 a1 r1 r44) (0 : Int)).2) (by kernel_rfl) ?_
        refine W_cutK (W_loop (S := (law_AllPlans_s5 a0 a1 r1 r44)) (J := (escQ (exQ .ret law_AllPlans_s6) (exQ (.exit 0) law_AllPlans_s7))) (by kernel_rfl) ?_ fuel _ v76 h77) ?_
        · rintro x57 s h
          refine W_seq (by kernel_rfl) ?_
          refine W_seq (by kernel_rfl) ?_
          obtain ⟨_, h67, h⟩ := bind_of h
          replace h67 := ck_some h67
          refine W_run 5 [] [0, 1, 5, 9, 10, 55] [] (fr' := [(0, aD (.slice .bool) a0), (1, aD (.slice (.pair (.slice tI) (.slice tI))) a1), (5, aD (.slice .bool) r1.1), (9, aI r44.2), (10, aI x57), (55, aB (decide (x57 < (bShl .i64 (1 : Int) (IntKind.wrap .u64 (r44.2))))))]) (L' := []) (obs := [(0 ≤ IntKind.wrap .u64 (r44.2))]) (by kernel_rfl) (by kernel_rfl) (by kernel_rfl) (allP1 h67) ?_
          refine seqQ_norm ?_
          refine W_cond (o := .tmp 55) (b := decide (x57 < (bShl .i64 (1 : Int) (IntKind.wrap .u64 (r44.2))))) (by kernel_rfl) (by kernel_rfl) (fun h68 => ?_) (fun h68 => ?_)
          · replace h := ofT h68 h
            refine W_skip [0, 1, 5, 9, 10] [] (fr' := [(0, aD (.slice .bool) a0), (1, aD (.slice (.pair (.slice tI) (.slice tI))) a1), (5, aD (.slice .bool) r1.1), (9, aI r44.2), (10, aI x57)]) (L' := []) (by kernel_rfl) (by kernel_rfl) ?_
            refine seqQ_norm ?_
            refine W_seq (by kernel_rfl) ?_
            refine W_block (id := 1) (by kernel_rfl) ?_
            refine W_seq (by kernel_rfl) ?_
            refine W_region (by kernel_rfl) ?_
            refine WO_run (j := 5) (k := 5) (orcs := []) (kF := [0, 1, 5, 9, 10, 58, 59, 60, 61, 62]) (kL := []) (fr' := [(0, aD (.slice .bool) a0), (1, aD (.slice (.pair (.slice tI) (.slice tI))) a1), (5, aD (.slice .bool) r1.1), (9, aI r44.2), (10, aI x57), (58, aD (.slice (.pair (.slice tI) (.slice tI))) a1), (59, aD (.slice .bool) a0), (60, aD (.slice .bool) r1.1), (61, aI r44.2), (62, aI x57)]) (L' := []) (obs := []) rfl (by kernel_rfl) allP0 ?_
            obtain ⟨r69, h70, h⟩ := bind_of h
            refine WO_call0 (us := [none, none]) (d := 63) (p := True) (j := 6) rfl ⟨by kernel_rfl, by kernel_rfl, by kernel_rfl⟩ trivial (ref_Bits_ok h70) (by kernel_rfl) ?_
            obtain ⟨r71, h72, h⟩ := bind_of h
            refine WO_call0 (us := [none, none, none]) (d := 64) (p := True) (j := 7) rfl ⟨by kernel_rfl, by kernel_rfl, by kernel_rfl⟩ trivial (ref_Played_ok h72) (by kernel_rfl) ?_
            obtain ⟨r73, h74, h⟩ := bind_of h
            refine WO_call0 (us := [none, none]) (d := 65) (p := True) (j := 8) rfl ⟨by kernel_rfl, by kernel_rfl, by kernel_rfl⟩ trivial (ref_True_ok h74) (by kernel_rfl) ?_
            refine WO_run (j := 9) (k := 1) (orcs := []) (kF := [0, 1, 5, 9, 10, 66]) (kL := []) (fr' := [(0, aD (.slice .bool) a0), (1, aD (.slice (.pair (.slice tI) (.slice tI))) a1), (5, aD (.slice .bool) r1.1), (9, aI r44.2), (10, aI x57), (66, aB (!r73))]) (L' := []) (obs := []) rfl (by kernel_rfl) allP0 ?_
            refine WO_fin [0, 1, 5, 9, 10, 66] [] (fr' := [(0, aD (.slice .bool) a0), (1, aD (.slice (.pair (.slice tI) (.slice tI))) a1), (5, aD (.slice .bool) r1.1), (9, aI r44.2), (10, aI x57), (66, aB (!r73))]) (L' := []) (by kernel_rfl) (by kernel_rfl) ?_
            refine seqQ_norm ?_
            refine W_cond (o := .tmp 66) (b := !r73) (by kernel_rfl) (by kernel_rfl) (fun h75 => ?_) (fun h75 => ?_)
            · replace h := ofT h75 h
              refine W_seq (by kernel_rfl) ?_
              refine W_run 1 [] [4] [] (fr' := [(4, aB false)]) (L' := []) (obs := []) (by kernel_rfl) (by kernel_rfl) (by kernel_rfl) allP0 ?_
              refine seqQ_norm ?_
              obtain rfl := Option.some.inj h
              refine W_ret [4] [] (fr' := [(4, aB false)]) (L' := []) (by kernel_rfl) (by kernel_rfl) ?_
              refine blockQ_ret ?_
              refine seqQ_ret ?_
              refine round_ret ?_
              refine escQ_ret ?_
              exact exQ_mk (by kernel_rfl) (by kernel_rfl)
            · replace h := ofF h75 h
              refine W_skip [0, 1, 5, 9, 10] [] (fr' := [(0, aD (.slice .bool) a0), (1, aD (.slice (.pair (.slice tI) (.slice tI))) a1), (5, aD (.slice .bool) r1.1), (9, aI r44.2), (10, aI x57)]) (L' := []) (by kernel_rfl) (by kernel_rfl) ?_
              refine blockQ_norm ?_
              refine seqQ_norm ?_
              obtain rfl := Option.some.inj h
              refine W_run 3 [] [0, 1, 5, 9, 10] [] (fr' := [(0, aD (.slice .bool) a0), (1, aD (.slice (.pair (.slice tI) (.slice tI))) a1), (5, aD (.slice .bool) r1.1), (9, aI r44.2), (10, aI (w64 (x57 + (1 : Int))))]) (L' := []) (obs := []) (by kernel_rfl) (by kernel_rfl) (by kernel_rfl) allP0 ?_
              exact round_next' (by kernel_rfl) (by kernel_rfl)
          · replace h := ofF h68 h
            obtain rfl := Option.some.inj h
            refine W_exit (id := 0) [] [] (fr' := []) (L' := []) (by kernel_rfl) (by kernel_rfl) ?_
            refine seqQ_exit ?_
            refine round_exit ?_
            refine escQ_brk ?_
            exact exQ_mk (by kernel_rfl) (by kernel_rfl)
        · intro e fr L hJ
          rcases v76 with v80 | v81
          · obtain ⟨rfl, rfl, rfl⟩ := hJ
            obtain rfl := Option.some.inj h
            refine LT_keep [4] [] (fr' := [(4, aB v80)]) (L' := []) (by kernel_rfl) ?_
            refine blockQ_ret ?_
            refine seqQ_ret ?_
            exact retQ_mk (by kernel_rfl) (by kernel_rfl) (by kernel_rfl)
          · obtain ⟨rfl, rfl, rfl⟩ := hJ
            refine LT_keep [] [] (fr' := []) (L' := []) (by kernel_rfl) ?_
            refine blockQ_hit ?_
            refine seqQ_norm ?_
            refine W_seq (by kernel_rfl) ?_
            refine W_run 1 [] [4] [] (fr' := [(4, aB true)]) (L' := []) (obs := []) (by kernel_rfl) (by kernel_rfl) (by kernel_rfl) allP0 ?_
            refine seqQ_norm ?_
            obtain rfl := Option.some.inj h
            refine W_ret [4] [] (fr' := [(4, aB true)]) (L' := []) (by kernel_rfl) (by kernel_rfl) ?_
            exact retQ_mk (by kernel_rfl) (by kernel_rfl) (by kernel_rfl)
end Go.Proofs.Ytcallckeeohoaaa.allPlans
