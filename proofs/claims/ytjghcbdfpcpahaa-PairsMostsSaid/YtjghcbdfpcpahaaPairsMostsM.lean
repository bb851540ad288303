/- What the functions that PairsMosts calls compute, as models, and that they compute it: written by a program of mine. -/
import Derived.Test.YtjghcbdfpcpahaaProg
import Derived.Test.YtjghcbdfpcpahaaSl5
set_option linter.all false
set_option maxRecDepth 100000
namespace Go.Proofs.Ytjghcbdfpcpahaa.pairsMosts
open Go Go.Sl
def pairs_wrong_1 (a0 : (List Int)) (c0 : (List (List Int))) : Option Bool :=
some ((List.length a0 : Int) != (List.length c0 : Int))
theorem pairs_wrong_1_ok {a0 : (List Int)} {c0 : (List (List Int))} {r : Bool} (h : pairs_wrong_1 a0 c0 = some r) : FnC Try.prog 63 [aD (.slice tI) a0, .one (.ptr 1000 0)] [(1000, .cells [.dat (.slice (.slice tI)) c0])] (aB r) [(1000, .cells [.dat (.slice (.slice tI)) c0])] := by
  refine fnC_of_W (B := bodyOf Try.f63) (n := 9) Try.func63 (by kernel_rfl) (by kernel_rfl) (by kernel_rfl) (by kernel_rfl) (by kernel_rfl) ?_
  intro K
  refine W_seq (by kernel_rfl) ?_
  refine W_run 1 [] [0, 1] [1000] (fr' := [(0, aD (.slice tI) a0), (1, .one (.ptr 1000 0))]) (L' := [(1000, .cells [.dat (.slice (.slice tI)) c0])]) (obs := []) (by kernel_rfl) (by kernel_rfl) (by kernel_rfl) allP0 ?_
  refine seqQ_norm ?_
  refine W_seq (by kernel_rfl) ?_
  refine W_run 6 [] [3] [1000] (fr' := [(3, aB ((List.length a0 : Int) != (List.length c0 : Int)))]) (L' := [(1000, .cells [.dat (.slice (.slice tI)) c0])]) (obs := []) (by kernel_rfl) (by kernel_rfl) (by kernel_rfl) allP0 ?_
  refine seqQ_norm ?_
  obtain rfl := Option.some.inj h
  refine W_ret [3] [1000] (fr' := [(3, aB ((List.length a0 : Int) != (List.length c0 : Int)))]) (L' := [(1000, .cells [.dat (.slice (.slice tI)) c0])]) (by kernel_rfl) (by kernel_rfl) ?_
  exact retQ_mk (by kernel_rfl) (by kernel_rfl) (by kernel_rfl)

def slices_IndexFunc_LLintLint_with_pairs_wrong_1_b1 (c0 : (List (List Int))) (i15 : Int) (v18 : (List Int)) (x16 : Unit) : Option (Flow Unit (Esc Int Unit)) :=
(pairs_wrong_1 v18 c0).bind fun r21 =>
bif r21 then
(some (.done (.ret i15)))
else
(some (.next ()))
@[reducible] def slices_IndexFunc_LLintLint_with_pairs_wrong_1_s2 (a0 : (List (List Int))) (c0 : (List (List Int))) (v : Int × Unit) : Fr × LL := ([(0, aD (.slice (.slice tI)) a0), (1, .one (.fn 63 [(1000, 0)])), (7, aI (List.length a0 : Int)), (8, aI v.1)], [(1000, .cells [.dat (.slice (.slice tI)) c0])])
@[reducible] def slices_IndexFunc_LLintLint_with_pairs_wrong_1_s3 (c0 : (List (List Int))) (v : Int) : Fr × LL := ([(4, aI v)], [(1000, .cells [.dat (.slice (.slice tI)) c0])])
@[reducible] def slices_IndexFunc_LLintLint_with_pairs_wrong_1_s4 (c0 : (List (List Int))) (v : Unit) : Fr × LL := ([], [(1000, .cells [.dat (.slice (.slice tI)) c0])])
def slices_IndexFunc_LLintLint_with_pairs_wrong_1 (a0 : (List (List Int))) (c0 : (List (List Int))) : Option Int :=
(forL (slices_IndexFunc_LLintLint_with_pairs_wrong_1_b1 c0) (fun x16 => (.brk ())) a0 0 ()).bind fun v25 =>
match v25 with
| .ret v30 =>
(some v30)
| .brk v31 =>
(some (-1 : Int))
theorem slices_IndexFunc_LLintLint_with_pairs_wrong_1_ok {a0 : (List (List Int))} {c0 : (List (List Int))} {r : Int} (h : slices_IndexFunc_LLintLint_with_pairs_wrong_1 a0 c0 = some r) : FnC Try.prog 41 [aD (.slice (.slice tI)) a0, .one (.fn 63 [(1000, 0)])] [(1000, .cells [.dat (.slice (.slice tI)) c0])] (aI r) [(1000, .cells [.dat (.slice (.slice tI)) c0])] := by
  refine fnC_of_W (B := bodyOf Try.f41) (n := 19) Try.func41 (by kernel_rfl) (by kernel_rfl) (by kernel_rfl) (by kernel_rfl) (by kernel_rfl) ?_
  intro K
  refine W_seq (by kernel_rfl) ?_
  refine W_run 1 [] [0, 1] [1000] (fr' := [(0, aD (.slice (.slice tI)) a0), (1, .one (.fn 63 [(1000, 0)]))]) (L' := [(1000, .cells [.dat (.slice (.slice tI)) c0])]) (obs := []) (by kernel_rfl) (by kernel_rfl) (by kernel_rfl) allP0 ?_
  refine seqQ_norm ?_
  refine W_seq (by kernel_rfl) ?_
  refine W_seq (by kernel_rfl) ?_
  refine W_run 3 [] [0, 1, 7, 8] [1000] (fr' := [(0, aD (.slice (.slice tI)) a0), (1, .one (.fn 63 [(1000, 0)])), (7, aI (List.length a0 : Int)), (8, aI (0 : Int))]) (L' := [(1000, .cells [.dat (.slice (.slice tI)) c0])]) (obs := []) (by kernel_rfl) (by kernel_rfl) (by kernel_rfl) allP0 ?_
  refine seqQ_norm ?_
  refine W_block (id := 0) (by kernel_rfl) ?_
  obtain ⟨v25, h26, h⟩ := bind_of h
  refine W_len (t := 0) (u := (.slice tI)) (xs := a0) (by kernel_rfl) (fun h29 => ?_)
  obtain ⟨h27, h28⟩ := forL_iter h29 h26
  refine W_weaken [0, 1, 7, 8] [1000] (fr' := ((slices_IndexFunc_LLintLint_with_pairs_wrong_1_s2 a0 c0) ((0 : Int), ())).1) (L' := ((slices_IndexFunc_LLintLint_with_pairs_wrong_1_s2 a0 c0) ((0 : Int), ())).2) (by kernel_rfl) ?_
  refine W_cutK (W_loop (S := (slices_IndexFunc_LLintLint_with_pairs_wrong_1_s2 a0 c0)) (J := (escQ (exQ .ret (slices_IndexFunc_LLintLint_with_pairs_wrong_1_s3 c0)) (exQ (.exit 0) (slices_IndexFunc_LLintLint_with_pairs_wrong_1_s4 c0)))) (by kernel_rfl) ?_ h27 _ v25 h28) ?_
  · rintro ⟨i15, x16⟩ s h
    refine W_seq (by kernel_rfl) ?_
    refine W_run 1 [] [0, 1, 7, 8, 9] [1000] (fr' := [(0, aD (.slice (.slice tI)) a0), (1, .one (.fn 63 [(1000, 0)])), (7, aI (List.length a0 : Int)), (8, aI i15), (9, aB (decide (i15 < (List.length a0 : Int))))]) (L' := [(1000, .cells [.dat (.slice (.slice tI)) c0])]) (obs := []) (by kernel_rfl) (by kernel_rfl) (by kernel_rfl) allP0 ?_
    refine seqQ_norm ?_
    refine W_seq (by kernel_rfl) ?_
    refine W_cond (o := .tmp 9) (b := decide (i15 < (List.length a0 : Int))) (by kernel_rfl) (by kernel_rfl) (fun h20 => ?_) (fun h20 => ?_)
    · replace h := stepL_true h20 h
      obtain ⟨v18, _, h19, h, rfl⟩ := h
      refine W_skip [0, 1, 7, 8] [1000] (fr' := [(0, aD (.slice (.slice tI)) a0), (1, .one (.fn 63 [(1000, 0)])), (7, aI (List.length a0 : Int)), (8, aI i15)]) (L' := [(1000, .cells [.dat (.slice (.slice tI)) c0])]) (by kernel_rfl) (by kernel_rfl) ?_
      refine seqQ_norm ?_
      refine W_seq (by kernel_rfl) ?_
      refine W_block (id := 1) (by kernel_rfl) ?_
      refine W_seq (by kernel_rfl) ?_
      refine W_run 2 [] [0, 1, 5, 7, 8] [1000] (fr' := [(0, aD (.slice (.slice tI)) a0), (1, .one (.fn 63 [(1000, 0)])), (5, aI i15), (7, aI (List.length a0 : Int)), (8, aI i15)]) (L' := [(1000, .cells [.dat (.slice (.slice tI)) c0])]) (obs := []) (by kernel_rfl) (by kernel_rfl) (by kernel_rfl) allP0 ?_
      refine seqQ_norm ?_
      refine W_seq (by kernel_rfl) ?_
      refine W_region (by kernel_rfl) ?_
      refine WO_run (j := 5) (k := 5) (orcs := [(7, .val (.dat (.slice tI) v18))]) (kF := [0, 1, 5, 7, 8, 11, 15]) (kL := [1000]) (fr' := [(0, aD (.slice (.slice tI)) a0), (1, .one (.fn 63 [(1000, 0)])), (5, aI i15), (7, aI (List.length a0 : Int)), (8, aI i15), (11, .one (.fn 63 [(1000, 0)])), (15, aD (.slice tI) v18)]) (L' := [(1000, .cells [.dat (.slice (.slice tI)) c0])]) (obs := [Idx a0 i15 v18]) rfl (by kernel_rfl) (allP1 (Idx.of h19)) ?_
      obtain ⟨r21, h22, h⟩ := bind_of h
      refine WO_lend [(1000, 1000)] (us := [none, none]) (d := 16) (p := True) (j := 6) rfl ⟨by kernel_rfl, by kernel_rfl, by kernel_rfl⟩ trivial (pairs_wrong_1_ok h22) (by kernel_rfl) (by kernel_rfl) ?_
      refine WO_fin [0, 1, 5, 7, 8, 16] [1000] (fr' := [(0, aD (.slice (.slice tI)) a0), (1, .one (.fn 63 [(1000, 0)])), (5, aI i15), (7, aI (List.length a0 : Int)), (8, aI i15), (16, aB r21)]) (L' := [(1000, .cells [.dat (.slice (.slice tI)) c0])]) (by kernel_rfl) (by kernel_rfl) ?_
      refine seqQ_norm ?_
      refine W_cond (o := .tmp 16) (b := r21) (by kernel_rfl) (by kernel_rfl) (fun h23 => ?_) (fun h23 => ?_)
      · replace h := ofT h23 h
        refine W_seq (by kernel_rfl) ?_
        refine W_run 2 [] [4] [1000] (fr' := [(4, aI i15)]) (L' := [(1000, .cells [.dat (.slice (.slice tI)) c0])]) (obs := []) (by kernel_rfl) (by kernel_rfl) (by kernel_rfl) allP0 ?_
        refine seqQ_norm ?_
        obtain rfl := Option.some.inj h
        refine W_ret [4] [1000] (fr' := [(4, aI i15)]) (L' := [(1000, .cells [.dat (.slice (.slice tI)) c0])]) (by kernel_rfl) (by kernel_rfl) ?_
        refine blockQ_ret ?_
        refine seqQ_ret ?_
        refine round_ret ?_
        refine escQ_ret ?_
        exact exQ_mk (by kernel_rfl) (by kernel_rfl)
      · replace h := ofF h23 h
        refine W_skip [0, 1, 7, 8] [1000] (fr' := [(0, aD (.slice (.slice tI)) a0), (1, .one (.fn 63 [(1000, 0)])), (7, aI (List.length a0 : Int)), (8, aI i15)]) (L' := [(1000, .cells [.dat (.slice (.slice tI)) c0])]) (by kernel_rfl) (by kernel_rfl) ?_
        refine blockQ_norm ?_
        refine seqQ_norm ?_
        obtain rfl := Option.some.inj h
        refine W_run 2 [] [0, 1, 7, 8] [1000] (fr' := [(0, aD (.slice (.slice tI)) a0), (1, .one (.fn 63 [(1000, 0)])), (7, aI (List.length a0 : Int)), (8, aI (w64 (i15 + (1 : Int))))]) (L' := [(1000, .cells [.dat (.slice (.slice tI)) c0])]) (obs := []) (by kernel_rfl) (by kernel_rfl) (by kernel_rfl) allP0 ?_
        exact round_next' (by kernel_rfl) (by kernel_rfl)
    · obtain rfl := stepL_false h20 h
      refine W_exit (id := 0) [] [1000] (fr' := []) (L' := [(1000, .cells [.dat (.slice (.slice tI)) c0])]) (by kernel_rfl) (by kernel_rfl) ?_
      refine seqQ_exit ?_
      refine round_exit ?_
      refine escQ_brk ?_
      exact exQ_mk (by kernel_rfl) (by kernel_rfl)
  · intro e fr L hJ
    rcases v25 with v30 | v31
    · obtain ⟨rfl, rfl, rfl⟩ := hJ
      obtain rfl := Option.some.inj h
      refine LT_keep [4] [1000] (fr' := [(4, aI v30)]) (L' := [(1000, .cells [.dat (.slice (.slice tI)) c0])]) (by kernel_rfl) ?_
      refine blockQ_ret ?_
      refine seqQ_ret ?_
      exact retQ_mk (by kernel_rfl) (by kernel_rfl) (by kernel_rfl)
    · obtain ⟨rfl, rfl, rfl⟩ := hJ
      refine LT_keep [] [1000] (fr' := []) (L' := [(1000, .cells [.dat (.slice (.slice tI)) c0])]) (by kernel_rfl) ?_
      refine blockQ_hit ?_
      refine seqQ_norm ?_
      refine W_seq (by kernel_rfl) ?_
      refine W_run 1 [] [4] [1000] (fr' := [(4, aI (-1 : Int))]) (L' := [(1000, .cells [.dat (.slice (.slice tI)) c0])]) (obs := []) (by kernel_rfl) (by kernel_rfl) (by kernel_rfl) allP0 ?_
      refine seqQ_norm ?_
      obtain rfl := Option.some.inj h
      refine W_ret [4] [1000] (fr' := [(4, aI (-1 : Int))]) (L' := [(1000, .cells [.dat (.slice (.slice tI)) c0])]) (by kernel_rfl) (by kernel_rfl) ?_
      exact retQ_mk (by kernel_rfl) (by kernel_rfl) (by kernel_rfl)

def slices_ContainsFunc_LLintLint_with_pairs_wrong_1 (a0 : (List (List Int))) (c0 : (List (List Int))) : Option Bool :=
(slices_IndexFunc_LLintLint_with_pairs_wrong_1 a0 c0).bind fun r1 =>
some (decide (r1 ≥ (0 : Int)))
theorem slices_ContainsFunc_LLintLint_with_pairs_wrong_1_ok {a0 : (List (List Int))} {c0 : (List (List Int))} {r : Bool} (h : slices_ContainsFunc_LLintLint_with_pairs_wrong_1 a0 c0 = some r) : FnC Try.prog 62 [aD (.slice (.slice tI)) a0, .one (.fn 63 [(1000, 0)])] [(1000, .cells [.dat (.slice (.slice tI)) c0])] (aB r) [(1000, .cells [.dat (.slice (.slice tI)) c0])] := by
  refine fnC_of_W (B := bodyOf Try.f62) (n := 9) Try.func62 (by kernel_rfl) (by kernel_rfl) (by kernel_rfl) (by kernel_rfl) (by kernel_rfl) ?_
  intro K
  refine W_seq (by kernel_rfl) ?_
  refine W_run 1 [] [0, 1] [1000] (fr' := [(0, aD (.slice (.slice tI)) a0), (1, .one (.fn 63 [(1000, 0)]))]) (L' := [(1000, .cells [.dat (.slice (.slice tI)) c0])]) (obs := []) (by kernel_rfl) (by kernel_rfl) (by kernel_rfl) allP0 ?_
  refine seqQ_norm ?_
  refine W_seq (by kernel_rfl) ?_
  refine W_region (by kernel_rfl) ?_
  refine WO_run (j := 2) (k := 2) (orcs := []) (kF := [5, 6]) (kL := [1000]) (fr' := [(5, aD (.slice (.slice tI)) a0), (6, .one (.fn 63 [(1000, 0)]))]) (L' := [(1000, .cells [.dat (.slice (.slice tI)) c0])]) (obs := []) rfl (by kernel_rfl) allP0 ?_
  obtain ⟨r1, h2, h⟩ := bind_of h
  refine WO_lend [(1000, 1000)] (us := [none, none]) (d := 7) (p := True) (j := 3) rfl ⟨by kernel_rfl, by kernel_rfl, by kernel_rfl⟩ trivial (slices_IndexFunc_LLintLint_with_pairs_wrong_1_ok h2) (by kernel_rfl) (by kernel_rfl) ?_
  refine WO_run (j := 5) (k := 2) (orcs := []) (kF := [4]) (kL := [1000]) (fr' := [(4, aB (decide (r1 ≥ (0 : Int))))]) (L' := [(1000, .cells [.dat (.slice (.slice tI)) c0])]) (obs := []) rfl (by kernel_rfl) allP0 ?_
  refine WO_fin [4] [1000] (fr' := [(4, aB (decide (r1 ≥ (0 : Int))))]) (L' := [(1000, .cells [.dat (.slice (.slice tI)) c0])]) (by kernel_rfl) (by kernel_rfl) ?_
  refine seqQ_norm ?_
  obtain rfl := Option.some.inj h
  refine W_ret [4] [1000] (fr' := [(4, aB (decide (r1 ≥ (0 : Int))))]) (L' := [(1000, .cells [.dat (.slice (.slice tI)) c0])]) (by kernel_rfl) (by kernel_rfl) ?_
  exact retQ_mk (by kernel_rfl) (by kernel_rfl) (by kernel_rfl)

@[reducible] def slices_Grow_Lintint_s2 (v : (List Int)) : Fr × LL := ([(0, .one (.slc 22))], [(22, .seq tI v)])
def slices_Grow_Lintint (a1 : Int) : Option (List Int) :=
bif decide (a1 < (0 : Int)) then
(none)
else
((bif decide ((w64 (a1 - (0 : Int))) > (0 : Int)) then
((ck (0 ≤ w64 (a1 - (0 : Int)) ∧ w64 (a1 - (0 : Int)) ≤ 4294967296)).bind fun _ =>
some [])
else
(some [])).bind fun v19 =>
some v19)
theorem slices_Grow_Lintint_ok {a1 : Int} {r : (List Int)} (h : slices_Grow_Lintint a1 = some r) : FnC Try.prog 69 [.one (.nilS), aI a1] [] (.one (.slc 22)) [(22, .seq tI r)] := by
  refine fnC_of_W (B := bodyOf Try.f69) (n := 27) Try.func69 (by kernel_rfl) (by kernel_rfl) (by kernel_rfl) (by kernel_rfl) (by kernel_rfl) ?_
  intro K
  refine W_seq (by kernel_rfl) ?_
  refine W_run 1 [] [0, 1] [] (fr' := [(0, .one (.nilS)), (1, aI a1)]) (L' := []) (obs := []) (by kernel_rfl) (by kernel_rfl) (by kernel_rfl) allP0 ?_
  refine seqQ_norm ?_
  refine W_seq (by kernel_rfl) ?_
  refine W_seq (by kernel_rfl) ?_
  refine W_run 2 [] [0, 1, 6] [] (fr' := [(0, .one (.nilS)), (1, aI a1), (6, aB (decide (a1 < (0 : Int))))]) (L' := []) (obs := []) (by kernel_rfl) (by kernel_rfl) (by kernel_rfl) allP0 ?_
  refine seqQ_norm ?_
  refine W_cond (o := .tmp 6) (b := decide (a1 < (0 : Int))) (by kernel_rfl) (by kernel_rfl) (fun h12 => ?_) (fun h12 => ?_)
  · replace h := ofT h12 h
    cases h
  · replace h := ofF h12 h
    refine W_skip [0, 1] [] (fr' := [(0, .one (.nilS)), (1, aI a1)]) (L' := []) (by kernel_rfl) (by kernel_rfl) ?_
    refine seqQ_norm ?_
    refine W_seq (by kernel_rfl) ?_
    obtain ⟨v19, h20, h⟩ := bind_of h
    refine W_cutK (Q' := (exQ .normal slices_Grow_Lintint_s2) v19) ?_ ?_
    · replace h := h20
      refine W_seq (by kernel_rfl) ?_
      refine W_region (by kernel_rfl) ?_
      refine WO_run (j := 2) (k := 2) (orcs := []) (kF := [0, 1, 8, 9]) (kL := []) (fr' := [(0, .one (.nilS)), (1, aI a1), (8, aI a1), (9, .one (.nilS))]) (L' := []) (obs := []) rfl (by kernel_rfl) allP0 ?_
      refine WO_g [0, 1, 8, 9, 10] [] (fr' := [(0, .one (.nilS)), (1, aI a1), (8, aI a1), (9, .one (.nilS)), (10, aI (0 : Int))]) (L' := []) (p := True) (j := 3) rfl (by kernel_rfl) trivial ?_
      refine WO_run (j := 8) (k := 5) (orcs := []) (kF := [0, 1]) (kL := []) (fr' := [(0, .one (.nilS)), (1, aI (w64 (a1 - (0 : Int))))]) (L' := []) (obs := []) rfl (by kernel_rfl) allP0 ?_
      refine WO_fin [0, 1] [] (fr' := [(0, .one (.nilS)), (1, aI (w64 (a1 - (0 : Int))))]) (L' := []) (by kernel_rfl) (by kernel_rfl) ?_
      refine seqQ_norm ?_
      refine W_seq (by kernel_rfl) ?_
      refine W_run 2 [] [0, 1, 16] [] (fr' := [(0, .one (.nilS)), (1, aI (w64 (a1 - (0 : Int)))), (16, aB (decide ((w64 (a1 - (0 : Int))) > (0 : Int))))]) (L' := []) (obs := []) (by kernel_rfl) (by kernel_rfl) (by kernel_rfl) allP0 ?_
      refine seqQ_norm ?_
      refine W_cond (o := .tmp 16) (b := decide ((w64 (a1 - (0 : Int))) > (0 : Int))) (by kernel_rfl) (by kernel_rfl) (fun h17 => ?_) (fun h17 => ?_)
      · replace h := ofT h17 h
        refine W_region (by kernel_rfl) ?_
        refine WO_run (j := 2) (k := 2) (orcs := []) (kF := [0, 1, 17, 18]) (kL := []) (fr' := [(0, .one (.nilS)), (1, aI (w64 (a1 - (0 : Int)))), (17, .one (.nilS)), (18, .one (.nilS))]) (L' := []) (obs := []) rfl (by kernel_rfl) allP0 ?_
        refine WO_g [0, 1, 17, 18, 19] [] (fr' := [(0, .one (.nilS)), (1, aI (w64 (a1 - (0 : Int)))), (17, .one (.nilS)), (18, .one (.nilS)), (19, aI (0 : Int))]) (L' := []) (p := True) (j := 3) rfl (by kernel_rfl) trivial ?_
        refine WO_g [0, 1, 17, 18, 19, 20] [] (fr' := [(0, .one (.nilS)), (1, aI (w64 (a1 - (0 : Int)))), (17, .one (.nilS)), (18, .one (.nilS)), (19, aI (0 : Int)), (20, .one (.nilS))]) (L' := []) (p := True) (j := 4) rfl (by kernel_rfl) trivial ?_
        obtain ⟨_, h18, h⟩ := bind_of h
        replace h18 := ck_some h18
        refine WO_run (j := 5) (k := 1) (orcs := []) (kF := [0, 20, 21]) (kL := []) (fr' := [(0, .one (.nilS)), (20, .one (.nilS)), (21, aI (w64 (a1 - (0 : Int))))]) (L' := []) (obs := []) rfl (by kernel_rfl) allP0 ?_
        refine WO_g [0, 20, 21, 22] [22] (fr' := [(0, .one (.nilS)), (20, .one (.nilS)), (21, aI (w64 (a1 - (0 : Int)))), (22, .one (.slc 22))]) (L' := [(22, .seq tI (List.replicate (Int.toNat (w64 (a1 - (0 : Int)))) (0 : Int)))]) (p := 0 ≤ w64 (a1 - (0 : Int)) ∧ SmallLen (w64 (a1 - (0 : Int)))) (j := 6) rfl (by kernel_rfl) h18 ?_
        refine WO_run (j := 8) (k := 2) (orcs := []) (kF := [0, 22, 24]) (kL := [22]) (fr' := [(0, .one (.nilS)), (22, .one (.slc 22)), (24, aI (0 : Int))]) (L' := [(22, .seq tI (List.replicate (Int.toNat (w64 (a1 - (0 : Int)))) (0 : Int)))]) (obs := []) rfl (by kernel_rfl) allP0 ?_
        refine WO_g [0, 24, 25] [22] (fr' := [(0, .one (.nilS)), (24, aI (0 : Int)), (25, .one (.slc 22))]) (L' := [(22, .seq tI [])]) (p := 0 ≤ (0 : Int) ∧ (0 : Int) ≤ (List.length (List.replicate (Int.toNat (w64 (a1 - (0 : Int)))) (0 : Int) : (List Int)) : Int)) (j := 9) rfl (by kernel_rfl) ⟨(by decide), (by omega)⟩ ?_
        refine WO_run (j := 10) (k := 1) (orcs := []) (kF := [0]) (kL := [22]) (fr' := [(0, .one (.slc 22))]) (L' := [(22, .seq tI [])]) (obs := []) rfl (by kernel_rfl) allP0 ?_
        obtain rfl := Option.some.inj h
        refine WO_fin [0] [22] (fr' := [(0, .one (.slc 22))]) (L' := [(22, .seq tI [])]) (by kernel_rfl) (by kernel_rfl) ?_
        exact exQ_mk (by kernel_rfl) (by kernel_rfl)
      · replace h := ofF h17 h
        obtain rfl := Option.some.inj h
        refine W_mine 0 22 tI (by kernel_rfl) ?_
        refine W_skip [0] [22] (fr' := [(0, .one (.slc 22))]) (L' := [(22, .seq tI [])]) (by kernel_rfl) (by kernel_rfl) ?_
        exact exQ_mk (by kernel_rfl) (by kernel_rfl)
    · intro e fr L hJ
      obtain ⟨rfl, rfl, rfl⟩ := hJ
      refine LT_keep [0] [22] (fr' := [(0, .one (.slc 22))]) (L' := [(22, .seq tI v19)]) (by kernel_rfl) ?_
      refine seqQ_norm ?_
      refine W_seq (by kernel_rfl) ?_
      refine W_run 2 [] [4] [22] (fr' := [(4, .one (.slc 22))]) (L' := [(22, .seq tI v19)]) (obs := []) (by kernel_rfl) (by kernel_rfl) (by kernel_rfl) allP0 ?_
      refine seqQ_norm ?_
      obtain rfl := Option.some.inj h
      refine W_ret [4] [22] (fr' := [(4, .one (.slc 22))]) (L' := [(22, .seq tI v19)]) (by kernel_rfl) (by kernel_rfl) ?_
      exact retQ_mk (by kernel_rfl) (by kernel_rfl) (by kernel_rfl)

def slices_Concat_Lintint_b7 (i72 : Int) (v75 : (List Int)) (x73 : Int) : Option (Flow Int Int) :=
bif decide ((w64 (x73 + (List.length v75 : Int))) < (0 : Int)) then
(none)
else
(some (.next (w64 (x73 + (List.length v75 : Int)))))
@[reducible] def slices_Concat_Lintint_s8 (a0 : (List (List Int))) (v : Int × Int) : Fr × LL := ([(0, aD (.slice (.slice tI)) a0), (3, aI v.2), (9, aD (.slice (.slice tI)) a0), (10, aI (List.length a0 : Int)), (11, aI v.1)], [])
@[reducible] def slices_Concat_Lintint_s9 (a0 : (List (List Int))) (v : Int) : Fr × LL := ([(0, aD (.slice (.slice tI)) a0), (3, aI v)], [])
def slices_Concat_Lintint_b10 (i98 : Int) (v101 : (List Int)) (x99 : (List Int)) : Option (Flow (List Int) (List Int)) :=
(ck ((List.length x99 : Int) + (List.length v101 : Int) ≤ 4294967296)).bind fun _ =>
some (.next (x99 ++ v101))
@[reducible] def slices_Concat_Lintint_s11 (a0 : (List (List Int))) (v : Int × (List Int)) : Fr × LL := ([(6, .one (.slc 24)), (25, aD (.slice (.slice tI)) a0), (26, aI (List.length a0 : Int)), (27, aI v.1)], [(24, .seq tI v.2)])
@[reducible] def slices_Concat_Lintint_s12 (v : (List Int)) : Fr × LL := ([(6, .one (.slc 24))], [(24, .seq tI v)])
def slices_Concat_Lintint (a0 : (List (List Int))) : Option (List Int) :=
(forL slices_Concat_Lintint_b7 (fun x73 => x73) a0 0 (0 : Int)).bind fun v81 =>
(slices_Grow_Lintint v81).bind fun r86 =>
(forL slices_Concat_Lintint_b10 (fun x99 => x99) a0 0 r86).bind fun v106 =>
some v106
theorem slices_Concat_Lintint_ok {a0 : (List (List Int))} {r : (List Int)} (h : slices_Concat_Lintint a0 = some r) : FnC Try.prog 65 [aD (.slice (.slice tI)) a0] [] (.one (.slc 24)) [(24, .seq tI r)] := by
  refine fnC_of_W (B := bodyOf Try.f65) (n := 36) Try.func65 (by kernel_rfl) (by kernel_rfl) (by kernel_rfl) (by kernel_rfl) (by kernel_rfl) ?_
  intro K
  refine W_seq (by kernel_rfl) ?_
  refine W_run 1 [] [0] [] (fr' := [(0, aD (.slice (.slice tI)) a0)]) (L' := []) (obs := []) (by kernel_rfl) (by kernel_rfl) (by kernel_rfl) allP0 ?_
  refine seqQ_norm ?_
  refine W_seq (by kernel_rfl) ?_
  refine W_run 1 [] [0, 3] [] (fr' := [(0, aD (.slice (.slice tI)) a0), (3, aI (0 : Int))]) (L' := []) (obs := []) (by kernel_rfl) (by kernel_rfl) (by kernel_rfl) allP0 ?_
  refine seqQ_norm ?_
  refine W_seq (by kernel_rfl) ?_
  refine W_seq (by kernel_rfl) ?_
  refine W_run 3 [] [0, 3, 9, 10, 11] [] (fr' := [(0, aD (.slice (.slice tI)) a0), (3, aI (0 : Int)), (9, aD (.slice (.slice tI)) a0), (10, aI (List.length a0 : Int)), (11, aI (0 : Int))]) (L' := []) (obs := []) (by kernel_rfl) (by kernel_rfl) (by kernel_rfl) allP0 ?_
  refine seqQ_norm ?_
  refine W_block (id := 0) (by kernel_rfl) ?_
  obtain ⟨v81, h82, h⟩ := bind_of h
  refine W_len (t := 9) (u := (.slice tI)) (xs := a0) (by kernel_rfl) (fun h85 => ?_)
  obtain ⟨h83, h84⟩ := forL_iter h85 h82
  refine W_weaken [0, 3, 9, 10, 11] [] (fr' := ((slices_Concat_Lintint_s8 a0) ((0 : Int), (0 : Int))).1) (L' := ((slices_Concat_Lintint_s8 a0) ((0 : Int), (0 : Int))).2) (by kernel_rfl) ?_
  refine W_cutK (W_loop (S := (slices_Concat_Lintint_s8 a0)) (J := (exQ (.exit 0) (slices_Concat_Lintint_s9 a0))) (by kernel_rfl) ?_ h83 _ v81 h84) ?_
  · rintro ⟨i72, x73⟩ s h
    refine W_seq (by kernel_rfl) ?_
    refine W_run 1 [] [0, 3, 9, 10, 11, 12] [] (fr' := [(0, aD (.slice (.slice tI)) a0), (3, aI x73), (9, aD (.slice (.slice tI)) a0), (10, aI (List.length a0 : Int)), (11, aI i72), (12, aB (decide (i72 < (List.length a0 : Int))))]) (L' := []) (obs := []) (by kernel_rfl) (by kernel_rfl) (by kernel_rfl) allP0 ?_
    refine seqQ_norm ?_
    refine W_seq (by kernel_rfl) ?_
    refine W_cond (o := .tmp 12) (b := decide (i72 < (List.length a0 : Int))) (by kernel_rfl) (by kernel_rfl) (fun h77 => ?_) (fun h77 => ?_)
    · replace h := stepL_true h77 h
      obtain ⟨v75, _, h76, h, rfl⟩ := h
      refine W_skip [0, 3, 9, 10, 11] [] (fr' := [(0, aD (.slice (.slice tI)) a0), (3, aI x73), (9, aD (.slice (.slice tI)) a0), (10, aI (List.length a0 : Int)), (11, aI i72)]) (L' := []) (by kernel_rfl) (by kernel_rfl) ?_
      refine seqQ_norm ?_
      refine W_seq (by kernel_rfl) ?_
      refine W_block (id := 1) (by kernel_rfl) ?_
      refine W_seq (by kernel_rfl) ?_
      refine W_run 3 [(1, .val (.dat (.slice tI) v75))] [0, 3, 5, 9, 10, 11] [] (fr' := [(0, aD (.slice (.slice tI)) a0), (3, aI x73), (5, aD (.slice tI) v75), (9, aD (.slice (.slice tI)) a0), (10, aI (List.length a0 : Int)), (11, aI i72)]) (L' := []) (obs := [Idx a0 i72 v75]) (by kernel_rfl) (by kernel_rfl) (by kernel_rfl) (allP1 (Idx.of h76)) ?_
      refine seqQ_norm ?_
      refine W_seq (by kernel_rfl) ?_
      refine W_run 5 [] [0, 3, 9, 10, 11] [] (fr' := [(0, aD (.slice (.slice tI)) a0), (3, aI (w64 (x73 + (List.length v75 : Int)))), (9, aD (.slice (.slice tI)) a0), (10, aI (List.length a0 : Int)), (11, aI i72)]) (L' := []) (obs := []) (by kernel_rfl) (by kernel_rfl) (by kernel_rfl) allP0 ?_
      refine seqQ_norm ?_
      refine W_seq (by kernel_rfl) ?_
      refine W_run 2 [] [0, 3, 9, 10, 11, 20] [] (fr' := [(0, aD (.slice (.slice tI)) a0), (3, aI (w64 (x73 + (List.length v75 : Int)))), (9, aD (.slice (.slice tI)) a0), (10, aI (List.length a0 : Int)), (11, aI i72), (20, aB (decide ((w64 (x73 + (List.length v75 : Int))) < (0 : Int))))]) (L' := []) (obs := []) (by kernel_rfl) (by kernel_rfl) (by kernel_rfl) allP0 ?_
      refine seqQ_norm ?_
      refine W_cond (o := .tmp 20) (b := decide ((w64 (x73 + (List.length v75 : Int))) < (0 : Int))) (by kernel_rfl) (by kernel_rfl) (fun h79 => ?_) (fun h79 => ?_)
      · replace h := ofT h79 h
        cases h
      · replace h := ofF h79 h
        refine W_skip [0, 3, 9, 10, 11] [] (fr' := [(0, aD (.slice (.slice tI)) a0), (3, aI (w64 (x73 + (List.length v75 : Int)))), (9, aD (.slice (.slice tI)) a0), (10, aI (List.length a0 : Int)), (11, aI i72)]) (L' := []) (by kernel_rfl) (by kernel_rfl) ?_
        refine blockQ_norm ?_
        refine seqQ_norm ?_
        obtain rfl := Option.some.inj h
        refine W_run 2 [] [0, 3, 9, 10, 11] [] (fr' := [(0, aD (.slice (.slice tI)) a0), (3, aI (w64 (x73 + (List.length v75 : Int)))), (9, aD (.slice (.slice tI)) a0), (10, aI (List.length a0 : Int)), (11, aI (w64 (i72 + (1 : Int))))]) (L' := []) (obs := []) (by kernel_rfl) (by kernel_rfl) (by kernel_rfl) allP0 ?_
        exact round_next' (by kernel_rfl) (by kernel_rfl)
    · obtain rfl := stepL_false h77 h
      refine W_exit (id := 0) [0, 3] [] (fr' := [(0, aD (.slice (.slice tI)) a0), (3, aI x73)]) (L' := []) (by kernel_rfl) (by kernel_rfl) ?_
      refine seqQ_exit ?_
      refine round_exit ?_
      exact exQ_mk (by kernel_rfl) (by kernel_rfl)
  · intro e fr L hJ
    obtain ⟨rfl, rfl, rfl⟩ := hJ
    refine LT_keep [0, 3] [] (fr' := [(0, aD (.slice (.slice tI)) a0), (3, aI v81)]) (L' := []) (by kernel_rfl) ?_
    refine blockQ_hit ?_
    refine seqQ_norm ?_
    refine W_seq (by kernel_rfl) ?_
    refine W_region (by kernel_rfl) ?_
    refine WO_run (j := 1) (k := 1) (orcs := []) (kF := [0, 23]) (kL := []) (fr' := [(0, aD (.slice (.slice tI)) a0), (23, aI v81)]) (L' := []) (obs := []) rfl (by kernel_rfl) allP0 ?_
    obtain ⟨r86, h87, h⟩ := bind_of h
    refine WO_call1 (us := [none, none]) (d := 24) (t := 24) (p := True) (j := 2) rfl ⟨by kernel_rfl, by kernel_rfl, by kernel_rfl⟩ trivial (slices_Grow_Lintint_ok h87) (by kernel_rfl) ?_
    refine WO_run (j := 3) (k := 1) (orcs := []) (kF := [0, 6]) (kL := [24]) (fr' := [(0, aD (.slice (.slice tI)) a0), (6, .one (.slc 24))]) (L' := [(24, .seq tI r86)]) (obs := []) rfl (by kernel_rfl) allP0 ?_
    refine WO_fin [0, 6] [24] (fr' := [(0, aD (.slice (.slice tI)) a0), (6, .one (.slc 24))]) (L' := [(24, .seq tI r86)]) (by kernel_rfl) (by kernel_rfl) ?_
    refine seqQ_norm ?_
    refine W_seq (by kernel_rfl) ?_
    refine W_seq (by kernel_rfl) ?_
    refine W_run 3 [] [6, 25, 26, 27] [24] (fr' := [(6, .one (.slc 24)), (25, aD (.slice (.slice tI)) a0), (26, aI (List.length a0 : Int)), (27, aI (0 : Int))]) (L' := [(24, .seq tI r86)]) (obs := []) (by kernel_rfl) (by kernel_rfl) (by kernel_rfl) allP0 ?_
    refine seqQ_norm ?_
    refine W_block (id := 2) (by kernel_rfl) ?_
    obtain ⟨v106, h107, h⟩ := bind_of h
    refine W_len (t := 25) (u := (.slice tI)) (xs := a0) (by kernel_rfl) (fun h110 => ?_)
    obtain ⟨h108, h109⟩ := forL_iter h110 h107
    refine W_weaken [6, 25, 26, 27] [24] (fr' := ((slices_Concat_Lintint_s11 a0) ((0 : Int), r86)).1) (L' := ((slices_Concat_Lintint_s11 a0) ((0 : Int), r86)).2) (by kernel_rfl) ?_
    refine W_cutK (W_loop (S := (slices_Concat_Lintint_s11 a0)) (J := (exQ (.exit 2) slices_Concat_Lintint_s12)) (by kernel_rfl) ?_ h108 _ v106 h109) ?_
    · rintro ⟨i98, x99⟩ s h
      refine W_seq (by kernel_rfl) ?_
      refine W_run 1 [] [6, 25, 26, 27, 28] [24] (fr' := [(6, .one (.slc 24)), (25, aD (.slice (.slice tI)) a0), (26, aI (List.length a0 : Int)), (27, aI i98), (28, aB (decide (i98 < (List.length a0 : Int))))]) (L' := [(24, .seq tI x99)]) (obs := []) (by kernel_rfl) (by kernel_rfl) (by kernel_rfl) allP0 ?_
      refine seqQ_norm ?_
      refine W_seq (by kernel_rfl) ?_
      refine W_cond (o := .tmp 28) (b := decide (i98 < (List.length a0 : Int))) (by kernel_rfl) (by kernel_rfl) (fun h103 => ?_) (fun h103 => ?_)
      · replace h := stepL_true h103 h
        obtain ⟨v101, _, h102, h, rfl⟩ := h
        refine W_skip [6, 25, 26, 27] [24] (fr' := [(6, .one (.slc 24)), (25, aD (.slice (.slice tI)) a0), (26, aI (List.length a0 : Int)), (27, aI i98)]) (L' := [(24, .seq tI x99)]) (by kernel_rfl) (by kernel_rfl) ?_
        refine seqQ_norm ?_
        refine W_seq (by kernel_rfl) ?_
        refine W_block (id := 3) (by kernel_rfl) ?_
        refine W_seq (by kernel_rfl) ?_
        refine W_run 3 [(1, .val (.dat (.slice tI) v101))] [6, 8, 25, 26, 27] [24] (fr' := [(6, .one (.slc 24)), (8, aD (.slice tI) v101), (25, aD (.slice (.slice tI)) a0), (26, aI (List.length a0 : Int)), (27, aI i98)]) (L' := [(24, .seq tI x99)]) (obs := [Idx a0 i98 v101]) (by kernel_rfl) (by kernel_rfl) (by kernel_rfl) (allP1 (Idx.of h102)) ?_
        refine seqQ_norm ?_
        obtain ⟨_, h104, h⟩ := bind_of h
        replace h104 := ck_some h104
        refine W_run 4 [] [6, 25, 26, 27] [24] (fr' := [(6, .one (.slc 24)), (25, aD (.slice (.slice tI)) a0), (26, aI (List.length a0 : Int)), (27, aI i98)]) (L' := [(24, .seq tI (x99 ++ v101))]) (obs := [SmallLen (List.length x99 + List.length v101)]) (by kernel_rfl) (by kernel_rfl) (by kernel_rfl) (allP1 h104) ?_
        refine blockQ_norm ?_
        refine seqQ_norm ?_
        obtain rfl := Option.some.inj h
        refine W_run 2 [] [6, 25, 26, 27] [24] (fr' := [(6, .one (.slc 24)), (25, aD (.slice (.slice tI)) a0), (26, aI (List.length a0 : Int)), (27, aI (w64 (i98 + (1 : Int))))]) (L' := [(24, .seq tI (x99 ++ v101))]) (obs := []) (by kernel_rfl) (by kernel_rfl) (by kernel_rfl) allP0 ?_
        exact round_next' (by kernel_rfl) (by kernel_rfl)
      · obtain rfl := stepL_false h103 h
        refine W_exit (id := 2) [6] [24] (fr' := [(6, .one (.slc 24))]) (L' := [(24, .seq tI x99)]) (by kernel_rfl) (by kernel_rfl) ?_
        refine seqQ_exit ?_
        refine round_exit ?_
        exact exQ_mk (by kernel_rfl) (by kernel_rfl)
    · intro e fr L hJ
      obtain ⟨rfl, rfl, rfl⟩ := hJ
      refine LT_keep [6] [24] (fr' := [(6, .one (.slc 24))]) (L' := [(24, .seq tI v106)]) (by kernel_rfl) ?_
      refine blockQ_hit ?_
      refine seqQ_norm ?_
      refine W_seq (by kernel_rfl) ?_
      refine W_run 2 [] [2] [24] (fr' := [(2, .one (.slc 24))]) (L' := [(24, .seq tI v106)]) (obs := []) (by kernel_rfl) (by kernel_rfl) (by kernel_rfl) allP0 ?_
      refine seqQ_norm ?_
      obtain rfl := Option.some.inj h
      refine W_ret [2] [24] (fr' := [(2, .one (.slc 24))]) (L' := [(24, .seq tI v106)]) (by kernel_rfl) (by kernel_rfl) ?_
      exact retQ_mk (by kernel_rfl) (by kernel_rfl) (by kernel_rfl)

def pairs_wrong_2 (a0 : Int) : Option Bool :=
some ((decide (a0 < (-20 : Int))) || (decide (a0 > (20 : Int))))
theorem pairs_wrong_2_ok {a0 : Int} {r : Bool} (h : pairs_wrong_2 a0 = some r) : FnC Try.prog 66 [aI a0] [] (aB r) [] := by
  refine fnC_of_W (B := bodyOf Try.f66) (n := 9) Try.func66 (by kernel_rfl) (by kernel_rfl) (by kernel_rfl) (by kernel_rfl) (by kernel_rfl) ?_
  intro K
  refine W_seq (by kernel_rfl) ?_
  refine W_run 1 [] [0] [] (fr' := [(0, aI a0)]) (L' := []) (obs := []) (by kernel_rfl) (by kernel_rfl) (by kernel_rfl) allP0 ?_
  refine seqQ_norm ?_
  refine W_seq (by kernel_rfl) ?_
  refine W_run 7 [] [2] [] (fr' := [(2, aB ((decide (a0 < (-20 : Int))) || (decide (a0 > (20 : Int)))))]) (L' := []) (obs := []) (by kernel_rfl) (by kernel_rfl) (by kernel_rfl) allP0 ?_
  refine seqQ_norm ?_
  obtain rfl := Option.some.inj h
  refine W_ret [2] [] (fr' := [(2, aB ((decide (a0 < (-20 : Int))) || (decide (a0 > (20 : Int)))))]) (L' := []) (by kernel_rfl) (by kernel_rfl) ?_
  exact retQ_mk (by kernel_rfl) (by kernel_rfl) (by kernel_rfl)

def slices_IndexFunc_Lintint_with_pairs_wrong_2_b1 (i15 : Int) (v18 : Int) (x16 : Unit) : Option (Flow Unit (Esc Int Unit)) :=
(pairs_wrong_2 v18).bind fun r21 =>
bif r21 then
(some (.done (.ret i15)))
else
(some (.next ()))
@[reducible] def slices_IndexFunc_Lintint_with_pairs_wrong_2_s2 (a0 : (List Int)) (v : Int × Unit) : Fr × LL := ([(0, aD (.slice tI) a0), (1, .one (.fn 66 [])), (7, aI (List.length a0 : Int)), (8, aI v.1)], [])
@[reducible] def slices_IndexFunc_Lintint_with_pairs_wrong_2_s3 (v : Int) : Fr × LL := ([(4, aI v)], [])
@[reducible] def slices_IndexFunc_Lintint_with_pairs_wrong_2_s4 (v : Unit) : Fr × LL := ([], [])
def slices_IndexFunc_Lintint_with_pairs_wrong_2 (a0 : (List Int)) : Option Int :=
(forL slices_IndexFunc_Lintint_with_pairs_wrong_2_b1 (fun x16 => (.brk ())) a0 0 ()).bind fun v25 =>
match v25 with
| .ret v30 =>
(some v30)
| .brk v31 =>
(some (-1 : Int))
theorem slices_IndexFunc_Lintint_with_pairs_wrong_2_ok {a0 : (List Int)} {r : Int} (h : slices_IndexFunc_Lintint_with_pairs_wrong_2 a0 = some r) : FnC Try.prog 68 [aD (.slice tI) a0, .one (.fn 66 [])] [] (aI r) [] := by
  refine fnC_of_W (B := bodyOf Try.f68) (n := 19) Try.func68 (by kernel_rfl) (by kernel_rfl) (by kernel_rfl) (by kernel_rfl) (by kernel_rfl) ?_
  intro K
  refine W_seq (by kernel_rfl) ?_
  refine W_run 1 [] [0, 1] [] (fr' := [(0, aD (.slice tI) a0), (1, .one (.fn 66 []))]) (L' := []) (obs := []) (by kernel_rfl) (by kernel_rfl) (by kernel_rfl) allP0 ?_
  refine seqQ_norm ?_
  refine W_seq (by kernel_rfl) ?_
  refine W_seq (by kernel_rfl) ?_
  refine W_run 3 [] [0, 1, 7, 8] [] (fr' := [(0, aD (.slice tI) a0), (1, .one (.fn 66 [])), (7, aI (List.length a0 : Int)), (8, aI (0 : Int))]) (L' := []) (obs := []) (by kernel_rfl) (by kernel_rfl) (by kernel_rfl) allP0 ?_
  refine seqQ_norm ?_
  refine W_block (id := 0) (by kernel_rfl) ?_
  obtain ⟨v25, h26, h⟩ := bind_of h
  refine W_len (t := 0) (u := tI) (xs := a0) (by kernel_rfl) (fun h29 => ?_)
  obtain ⟨h27, h28⟩ := forL_iter h29 h26
  refine W_weaken [0, 1, 7, 8] [] (fr' := ((slices_IndexFunc_Lintint_with_pairs_wrong_2_s2 a0) ((0 : Int), ())).1) (L' := ((slices_IndexFunc_Lintint_with_pairs_wrong_2_s2 a0) ((0 : Int), ())).2) (by kernel_rfl) ?_
  refine W_cutK (W_loop (S := (slices_IndexFunc_Lintint_with_pairs_wrong_2_s2 a0)) (J := (escQ (exQ .ret slices_IndexFunc_Lintint_with_pairs_wrong_2_s3) (exQ (.exit 0) slices_IndexFunc_Lintint_with_pairs_wrong_2_s4))) (by kernel_rfl) ?_ h27 _ v25 h28) ?_
  · rintro ⟨i15, x16⟩ s h
    refine W_seq (by kernel_rfl) ?_
    refine W_run 1 [] [0, 1, 7, 8, 9] [] (fr' := [(0, aD (.slice tI) a0), (1, .one (.fn 66 [])), (7, aI (List.length a0 : Int)), (8, aI i15), (9, aB (decide (i15 < (List.length a0 : Int))))]) (L' := []) (obs := []) (by kernel_rfl) (by kernel_rfl) (by kernel_rfl) allP0 ?_
    refine seqQ_norm ?_
    refine W_seq (by kernel_rfl) ?_
    refine W_cond (o := .tmp 9) (b := decide (i15 < (List.length a0 : Int))) (by kernel_rfl) (by kernel_rfl) (fun h20 => ?_) (fun h20 => ?_)
    · replace h := stepL_true h20 h
      obtain ⟨v18, _, h19, h, rfl⟩ := h
      refine W_skip [0, 1, 7, 8] [] (fr' := [(0, aD (.slice tI) a0), (1, .one (.fn 66 [])), (7, aI (List.length a0 : Int)), (8, aI i15)]) (L' := []) (by kernel_rfl) (by kernel_rfl) ?_
      refine seqQ_norm ?_
      refine W_seq (by kernel_rfl) ?_
      refine W_block (id := 1) (by kernel_rfl) ?_
      refine W_seq (by kernel_rfl) ?_
      refine W_run 2 [] [0, 1, 5, 7, 8] [] (fr' := [(0, aD (.slice tI) a0), (1, .one (.fn 66 [])), (5, aI i15), (7, aI (List.length a0 : Int)), (8, aI i15)]) (L' := []) (obs := []) (by kernel_rfl) (by kernel_rfl) (by kernel_rfl) allP0 ?_
      refine seqQ_norm ?_
      refine W_seq (by kernel_rfl) ?_
      refine W_region (by kernel_rfl) ?_
      refine WO_run (j := 5) (k := 5) (orcs := [(7, .val (.dat tI v18))]) (kF := [0, 1, 5, 7, 8, 11, 15]) (kL := []) (fr' := [(0, aD (.slice tI) a0), (1, .one (.fn 66 [])), (5, aI i15), (7, aI (List.length a0 : Int)), (8, aI i15), (11, .one (.fn 66 [])), (15, aI v18)]) (L' := []) (obs := [Idx a0 i15 v18]) rfl (by kernel_rfl) (allP1 (Idx.of h19)) ?_
      obtain ⟨r21, h22, h⟩ := bind_of h
      refine WO_call0 (us := [none]) (d := 16) (p := True) (j := 6) rfl ⟨by kernel_rfl, by kernel_rfl, by kernel_rfl⟩ trivial (pairs_wrong_2_ok h22) (by kernel_rfl) ?_
      refine WO_fin [0, 1, 5, 7, 8, 16] [] (fr' := [(0, aD (.slice tI) a0), (1, .one (.fn 66 [])), (5, aI i15), (7, aI (List.length a0 : Int)), (8, aI i15), (16, aB r21)]) (L' := []) (by kernel_rfl) (by kernel_rfl) ?_
      refine seqQ_norm ?_
      refine W_cond (o := .tmp 16) (b := r21) (by kernel_rfl) (by kernel_rfl) (fun h23 => ?_) (fun h23 => ?_)
      · replace h := ofT h23 h
        refine W_seq (by kernel_rfl) ?_
        refine W_run 2 [] [4] [] (fr' := [(4, aI i15)]) (L' := []) (obs := []) (by kernel_rfl) (by kernel_rfl) (by kernel_rfl) allP0 ?_
        refine seqQ_norm ?_
        obtain rfl := Option.some.inj h
        refine W_ret [4] [] (fr' := [(4, aI i15)]) (L' := []) (by kernel_rfl) (by kernel_rfl) ?_
        refine blockQ_ret ?_
        refine seqQ_ret ?_
        refine round_ret ?_
        refine escQ_ret ?_
        exact exQ_mk (by kernel_rfl) (by kernel_rfl)
      · replace h := ofF h23 h
        refine W_skip [0, 1, 7, 8] [] (fr' := [(0, aD (.slice tI) a0), (1, .one (.fn 66 [])), (7, aI (List.length a0 : Int)), (8, aI i15)]) (L' := []) (by kernel_rfl) (by kernel_rfl) ?_
        refine blockQ_norm ?_
        refine seqQ_norm ?_
        obtain rfl := Option.some.inj h
        refine W_run 2 [] [0, 1, 7, 8] [] (fr' := [(0, aD (.slice tI) a0), (1, .one (.fn 66 [])), (7, aI (List.length a0 : Int)), (8, aI (w64 (i15 + (1 : Int))))]) (L' := []) (obs := []) (by kernel_rfl) (by kernel_rfl) (by kernel_rfl) allP0 ?_
        exact round_next' (by kernel_rfl) (by kernel_rfl)
    · obtain rfl := stepL_false h20 h
      refine W_exit (id := 0) [] [] (fr' := []) (L' := []) (by kernel_rfl) (by kernel_rfl) ?_
      refine seqQ_exit ?_
      refine round_exit ?_
      refine escQ_brk ?_
      exact exQ_mk (by kernel_rfl) (by kernel_rfl)
  · intro e fr L hJ
    rcases v25 with v30 | v31
    · obtain ⟨rfl, rfl, rfl⟩ := hJ
      obtain rfl := Option.some.inj h
      refine LT_keep [4] [] (fr' := [(4, aI v30)]) (L' := []) (by kernel_rfl) ?_
      refine blockQ_ret ?_
      refine seqQ_ret ?_
      exact retQ_mk (by kernel_rfl) (by kernel_rfl) (by kernel_rfl)
    · obtain ⟨rfl, rfl, rfl⟩ := hJ
      refine LT_keep [] [] (fr' := []) (L' := []) (by kernel_rfl) ?_
      refine blockQ_hit ?_
      refine seqQ_norm ?_
      refine W_seq (by kernel_rfl) ?_
      refine W_run 1 [] [4] [] (fr' := [(4, aI (-1 : Int))]) (L' := []) (obs := []) (by kernel_rfl) (by kernel_rfl) (by kernel_rfl) allP0 ?_
      refine seqQ_norm ?_
      obtain rfl := Option.some.inj h
      refine W_ret [4] [] (fr' := [(4, aI (-1 : Int))]) (L' := []) (by kernel_rfl) (by kernel_rfl) ?_
      exact retQ_mk (by kernel_rfl) (by kernel_rfl) (by kernel_rfl)

def slices_ContainsFunc_Lintint_with_pairs_wrong_2 (a0 : (List Int)) : Option Bool :=
(slices_IndexFunc_Lintint_with_pairs_wrong_2 a0).bind fun r1 =>
some (decide (r1 ≥ (0 : Int)))
theorem slices_ContainsFunc_Lintint_with_pairs_wrong_2_ok {a0 : (List Int)} {r : Bool} (h : slices_ContainsFunc_Lintint_with_pairs_wrong_2 a0 = some r) : FnC Try.prog 64 [aD (.slice tI) a0, .one (.fn 66 [])] [] (aB r) [] := by
  refine fnC_of_W (B := bodyOf Try.f64) (n := 9) Try.func64 (by kernel_rfl) (by kernel_rfl) (by kernel_rfl) (by kernel_rfl) (by kernel_rfl) ?_
  intro K
  refine W_seq (by kernel_rfl) ?_
  refine W_run 1 [] [0, 1] [] (fr' := [(0, aD (.slice tI) a0), (1, .one (.fn 66 []))]) (L' := []) (obs := []) (by kernel_rfl) (by kernel_rfl) (by kernel_rfl) allP0 ?_
  refine seqQ_norm ?_
  refine W_seq (by kernel_rfl) ?_
  refine W_region (by kernel_rfl) ?_
  refine WO_run (j := 2) (k := 2) (orcs := []) (kF := [5, 6]) (kL := []) (fr' := [(5, aD (.slice tI) a0), (6, .one (.fn 66 []))]) (L' := []) (obs := []) rfl (by kernel_rfl) allP0 ?_
  obtain ⟨r1, h2, h⟩ := bind_of h
  refine WO_call0 (us := [none, none]) (d := 7) (p := True) (j := 3) rfl ⟨by kernel_rfl, by kernel_rfl, by kernel_rfl⟩ trivial (slices_IndexFunc_Lintint_with_pairs_wrong_2_ok h2) (by kernel_rfl) ?_
  refine WO_run (j := 5) (k := 2) (orcs := []) (kF := [4]) (kL := []) (fr' := [(4, aB (decide (r1 ≥ (0 : Int))))]) (L' := []) (obs := []) rfl (by kernel_rfl) allP0 ?_
  refine WO_fin [4] [] (fr' := [(4, aB (decide (r1 ≥ (0 : Int))))]) (L' := []) (by kernel_rfl) (by kernel_rfl) ?_
  refine seqQ_norm ?_
  obtain rfl := Option.some.inj h
  refine W_ret [4] [] (fr' := [(4, aB (decide (r1 ≥ (0 : Int))))]) (L' := []) (by kernel_rfl) (by kernel_rfl) ?_
  exact retQ_mk (by kernel_rfl) (by kernel_rfl) (by kernel_rfl)

def pairs_wrong (a0 : (List (List Int))) : Option Int :=
bif (decide ((List.length a0 : Int) < (1 : Int))) || (decide ((List.length a0 : Int) > (6 : Int))) then
(some (1 : Int))
else
((slices_ContainsFunc_LLintLint_with_pairs_wrong_1 a0 a0).bind fun r2 =>
bif r2 then
(some (3 : Int))
else
((slices_Concat_Lintint a0).bind fun r5 =>
(slices_ContainsFunc_Lintint_with_pairs_wrong_2 r5).bind fun r7 =>
bif r7 then
(some (4 : Int))
else
(some (0 : Int))))
theorem pairs_wrong_ok {a0 : (List (List Int))} {r : Int} (h : pairs_wrong a0 = some r) : FnC Try.prog 52 [aD (.slice (.slice tI)) a0] [] (aI r) [] := by
  refine fnC_of_W (B := bodyOf Try.f52) (n := 17) Try.func52 (by kernel_rfl) (by kernel_rfl) (by kernel_rfl) (by kernel_rfl) (by kernel_rfl) ?_
  intro K
  refine W_seq (by kernel_rfl) ?_
  refine W_run 2 [] [1] [1] (fr' := [(1, .one (.ptr 1 0))]) (L' := [(1, .cells [.dat (.slice (.slice tI)) a0])]) (obs := []) (by kernel_rfl) (by kernel_rfl) (by kernel_rfl) allP0 ?_
  refine seqQ_norm ?_
  refine W_seq (by kernel_rfl) ?_
  refine W_seq (by kernel_rfl) ?_
  refine W_run 8 [] [1, 10] [1] (fr' := [(1, .one (.ptr 1 0)), (10, aB ((decide ((List.length a0 : Int) < (1 : Int))) || (decide ((List.length a0 : Int) > (6 : Int)))))]) (L' := [(1, .cells [.dat (.slice (.slice tI)) a0])]) (obs := []) (by kernel_rfl) (by kernel_rfl) (by kernel_rfl) allP0 ?_
  refine seqQ_norm ?_
  refine W_cond (o := .tmp 10) (b := (decide ((List.length a0 : Int) < (1 : Int))) || (decide ((List.length a0 : Int) > (6 : Int)))) (by kernel_rfl) (by kernel_rfl) (fun h1 => ?_) (fun h1 => ?_)
  · replace h := ofT h1 h
    refine W_seq (by kernel_rfl) ?_
    refine W_run 1 [] [2] [] (fr' := [(2, aI (1 : Int))]) (L' := []) (obs := []) (by kernel_rfl) (by kernel_rfl) (by kernel_rfl) allP0 ?_
    refine seqQ_norm ?_
    obtain rfl := Option.some.inj h
    refine W_ret [2] [] (fr' := [(2, aI (1 : Int))]) (L' := []) (by kernel_rfl) (by kernel_rfl) ?_
    refine seqQ_ret ?_
    exact retQ_mk (by kernel_rfl) (by kernel_rfl) (by kernel_rfl)
  · replace h := ofF h1 h
    refine W_skip [1] [1] (fr' := [(1, .one (.ptr 1 0))]) (L' := [(1, .cells [.dat (.slice (.slice tI)) a0])]) (by kernel_rfl) (by kernel_rfl) ?_
    refine seqQ_norm ?_
    refine W_seq (by kernel_rfl) ?_
    refine W_seq (by kernel_rfl) ?_
    refine W_region (by kernel_rfl) ?_
    refine WO_run (j := 2) (k := 2) (orcs := []) (kF := [1, 11, 12]) (kL := [1]) (fr' := [(1, .one (.ptr 1 0)), (11, aD (.slice (.slice tI)) a0), (12, .one (.fn 63 [(1, 0)]))]) (L' := [(1, .cells [.dat (.slice (.slice tI)) a0])]) (obs := []) rfl (by kernel_rfl) allP0 ?_
    obtain ⟨r2, h3, h⟩ := bind_of h
    refine WO_lend [(1000, 1)] (us := [none, none]) (d := 13) (p := True) (j := 3) rfl ⟨by kernel_rfl, by kernel_rfl, by kernel_rfl⟩ trivial (slices_ContainsFunc_LLintLint_with_pairs_wrong_1_ok h3) (by kernel_rfl) (by kernel_rfl) ?_
    refine WO_fin [1, 13] [1] (fr' := [(1, .one (.ptr 1 0)), (13, aB r2)]) (L' := [(1, .cells [.dat (.slice (.slice tI)) a0])]) (by kernel_rfl) (by kernel_rfl) ?_
    refine seqQ_norm ?_
    refine W_cond (o := .tmp 13) (b := r2) (by kernel_rfl) (by kernel_rfl) (fun h4 => ?_) (fun h4 => ?_)
    · replace h := ofT h4 h
      refine W_seq (by kernel_rfl) ?_
      refine W_run 1 [] [2] [] (fr' := [(2, aI (3 : Int))]) (L' := []) (obs := []) (by kernel_rfl) (by kernel_rfl) (by kernel_rfl) allP0 ?_
      refine seqQ_norm ?_
      obtain rfl := Option.some.inj h
      refine W_ret [2] [] (fr' := [(2, aI (3 : Int))]) (L' := []) (by kernel_rfl) (by kernel_rfl) ?_
      refine seqQ_ret ?_
      exact retQ_mk (by kernel_rfl) (by kernel_rfl) (by kernel_rfl)
    · replace h := ofF h4 h
      refine W_skip [1] [1] (fr' := [(1, .one (.ptr 1 0))]) (L' := [(1, .cells [.dat (.slice (.slice tI)) a0])]) (by kernel_rfl) (by kernel_rfl) ?_
      refine seqQ_norm ?_
      refine W_seq (by kernel_rfl) ?_
      refine W_seq (by kernel_rfl) ?_
      refine W_region (by kernel_rfl) ?_
      refine WO_run (j := 1) (k := 1) (orcs := []) (kF := [14]) (kL := [1]) (fr' := [(14, aD (.slice (.slice tI)) a0)]) (L' := [(1, .cells [.dat (.slice (.slice tI)) a0])]) (obs := []) rfl (by kernel_rfl) allP0 ?_
      obtain ⟨r5, h6, h⟩ := bind_of h
      refine WO_call1 (us := [none]) (d := 15) (t := 15) (p := True) (j := 2) rfl ⟨by kernel_rfl, by kernel_rfl, by kernel_rfl⟩ trivial (slices_Concat_Lintint_ok h6) (by kernel_rfl) ?_
      obtain ⟨r7, h8, h⟩ := bind_of h
      refine WO_frz 15 (by kernel_rfl) ?_
      refine WO_call0 (us := [none, none]) (d := 16) (p := True) (j := 3) rfl ⟨by kernel_rfl, by kernel_rfl, by kernel_rfl⟩ trivial (slices_ContainsFunc_Lintint_with_pairs_wrong_2_ok h8) (by kernel_rfl) ?_
      refine WO_fin [16] [] (fr' := [(16, aB r7)]) (L' := []) (by kernel_rfl) (by kernel_rfl) ?_
      refine seqQ_norm ?_
      refine W_cond (o := .tmp 16) (b := r7) (by kernel_rfl) (by kernel_rfl) (fun h9 => ?_) (fun h9 => ?_)
      · replace h := ofT h9 h
        refine W_seq (by kernel_rfl) ?_
        refine W_run 1 [] [2] [] (fr' := [(2, aI (4 : Int))]) (L' := []) (obs := []) (by kernel_rfl) (by kernel_rfl) (by kernel_rfl) allP0 ?_
        refine seqQ_norm ?_
        obtain rfl := Option.some.inj h
        refine W_ret [2] [] (fr' := [(2, aI (4 : Int))]) (L' := []) (by kernel_rfl) (by kernel_rfl) ?_
        refine seqQ_ret ?_
        exact retQ_mk (by kernel_rfl) (by kernel_rfl) (by kernel_rfl)
      · replace h := ofF h9 h
        refine W_skip [] [] (fr' := []) (L' := []) (by kernel_rfl) (by kernel_rfl) ?_
        refine seqQ_norm ?_
        refine W_seq (by kernel_rfl) ?_
        refine W_run 1 [] [2] [] (fr' := [(2, aI (0 : Int))]) (L' := []) (obs := []) (by kernel_rfl) (by kernel_rfl) (by kernel_rfl) allP0 ?_
        refine seqQ_norm ?_
        obtain rfl := Option.some.inj h
        refine W_ret [2] [] (fr' := [(2, aI (0 : Int))]) (L' := []) (by kernel_rfl) (by kernel_rfl) ?_
        exact retQ_mk (by kernel_rfl) (by kernel_rfl) (by kernel_rfl)

def math_bits_OnesCount64 (a0 : Int) : Option Int :=
some (bAnd .i64 (w64 (IntKind.wrap .u64 ((IntKind.wrap .u64 ((IntKind.wrap .u64 ((bAnd .u64 (IntKind.wrap .u64 ((bShr .u64 (IntKind.wrap .u64 ((bAnd .u64 (bShr .u64 (IntKind.wrap .u64 ((bAnd .u64 (bShr .u64 a0 (1 : Int)) (6148914691236517205 : Int)) + (bAnd .u64 a0 (6148914691236517205 : Int)))) (2 : Int)) (3689348814741910323 : Int)) + (bAnd .u64 (IntKind.wrap .u64 ((bAnd .u64 (bShr .u64 a0 (1 : Int)) (6148914691236517205 : Int)) + (bAnd .u64 a0 (6148914691236517205 : Int)))) (3689348814741910323 : Int)))) (4 : Int)) + (IntKind.wrap .u64 ((bAnd .u64 (bShr .u64 (IntKind.wrap .u64 ((bAnd .u64 (bShr .u64 a0 (1 : Int)) (6148914691236517205 : Int)) + (bAnd .u64 a0 (6148914691236517205 : Int)))) (2 : Int)) (3689348814741910323 : Int)) + (bAnd .u64 (IntKind.wrap .u64 ((bAnd .u64 (bShr .u64 a0 (1 : Int)) (6148914691236517205 : Int)) + (bAnd .u64 a0 (6148914691236517205 : Int)))) (3689348814741910323 : Int)))))) (1085102592571150095 : Int)) + (bShr .u64 (bAnd .u64 (IntKind.wrap .u64 ((bShr .u64 (IntKind.wrap .u64 ((bAnd .u64 (bShr .u64 (IntKind.wrap .u64 ((bAnd .u64 (bShr .u64 a0 (1 : Int)) (6148914691236517205 : Int)) + (bAnd .u64 a0 (6148914691236517205 : Int)))) (2 : Int)) (3689348814741910323 : Int)) + (bAnd .u64 (IntKind.wrap .u64 ((bAnd .u64 (bShr .u64 a0 (1 : Int)) (6148914691236517205 : Int)) + (bAnd .u64 a0 (6148914691236517205 : Int)))) (3689348814741910323 : Int)))) (4 : Int)) + (IntKind.wrap .u64 ((bAnd .u64 (bShr .u64 (IntKind.wrap .u64 ((bAnd .u64 (bShr .u64 a0 (1 : Int)) (6148914691236517205 : Int)) + (bAnd .u64 a0 (6148914691236517205 : Int)))) (2 : Int)) (3689348814741910323 : Int)) + (bAnd .u64 (IntKind.wrap .u64 ((bAnd .u64 (bShr .u64 a0 (1 : Int)) (6148914691236517205 : Int)) + (bAnd .u64 a0 (6148914691236517205 : Int)))) (3689348814741910323 : Int)))))) (1085102592571150095 : Int)) (8 : Int)))) + (bShr .u64 (IntKind.wrap .u64 ((bAnd .u64 (IntKind.wrap .u64 ((bShr .u64 (IntKind.wrap .u64 ((bAnd .u64 (bShr .u64 (IntKind.wrap .u64 ((bAnd .u64 (bShr .u64 a0 (1 : Int)) (6148914691236517205 : Int)) + (bAnd .u64 a0 (6148914691236517205 : Int)))) (2 : Int)) (3689348814741910323 : Int)) + (bAnd .u64 (IntKind.wrap .u64 ((bAnd .u64 (bShr .u64 a0 (1 : Int)) (6148914691236517205 : Int)) + (bAnd .u64 a0 (6148914691236517205 : Int)))) (3689348814741910323 : Int)))) (4 : Int)) + (IntKind.wrap .u64 ((bAnd .u64 (bShr .u64 (IntKind.wrap .u64 ((bAnd .u64 (bShr .u64 a0 (1 : Int)) (6148914691236517205 : Int)) + (bAnd .u64 a0 (6148914691236517205 : Int)))) (2 : Int)) (3689348814741910323 : Int)) + (bAnd .u64 (IntKind.wrap .u64 ((bAnd .u64 (bShr .u64 a0 (1 : Int)) (6148914691236517205 : Int)) + (bAnd .u64 a0 (6148914691236517205 : Int)))) (3689348814741910323 : Int)))))) (1085102592571150095 : Int)) + (bShr .u64 (bAnd .u64 (IntKind.wrap .u64 ((bShr .u64 (IntKind.wrap .u64 ((bAnd .u64 (bShr .u64 (IntKind.wrap .u64 ((bAnd .u64 (bShr .u64 a0 (1 : Int)) (6148914691236517205 : Int)) + (bAnd .u64 a0 (6148914691236517205 : Int)))) (2 : Int)) (3689348814741910323 : Int)) + (bAnd .u64 (IntKind.wrap .u64 ((bAnd .u64 (bShr .u64 a0 (1 : Int)) (6148914691236517205 : Int)) + (bAnd .u64 a0 (6148914691236517205 : Int)))) (3689348814741910323 : Int)))) (4 : Int)) + (IntKind.wrap .u64 ((bAnd .u64 (bShr .u64 (IntKind.wrap .u64 ((bAnd .u64 (bShr .u64 a0 (1 : Int)) (6148914691236517205 : Int)) + (bAnd .u64 a0 (6148914691236517205 : Int)))) (2 : Int)) (3689348814741910323 : Int)) + (bAnd .u64 (IntKind.wrap .u64 ((bAnd .u64 (bShr .u64 a0 (1 : Int)) (6148914691236517205 : Int)) + (bAnd .u64 a0 (6148914691236517205 : Int)))) (3689348814741910323 : Int)))))) (1085102592571150095 : Int)) (8 : Int)))) (16 : Int)))) + (bShr .u64 (IntKind.wrap .u64 ((IntKind.wrap .u64 ((bAnd .u64 (IntKind.wrap .u64 ((bShr .u64 (IntKind.wrap .u64 ((bAnd .u64 (bShr .u64 (IntKind.wrap .u64 ((bAnd .u64 (bShr .u64 a0 (1 : Int)) (6148914691236517205 : Int)) + (bAnd .u64 a0 (6148914691236517205 : Int)))) (2 : Int)) (3689348814741910323 : Int)) + (bAnd .u64 (IntKind.wrap .u64 ((bAnd .u64 (bShr .u64 a0 (1 : Int)) (6148914691236517205 : Int)) + (bAnd .u64 a0 (6148914691236517205 : Int)))) (3689348814741910323 : Int)))) (4 : Int)) + (IntKind.wrap .u64 ((bAnd .u64 (bShr .u64 (IntKind.wrap .u64 ((bAnd .u64 (bShr .u64 a0 (1 : Int)) (6148914691236517205 : Int)) + (bAnd .u64 a0 (6148914691236517205 : Int)))) (2 : Int)) (3689348814741910323 : Int)) + (bAnd .u64 (IntKind.wrap .u64 ((bAnd .u64 (bShr .u64 a0 (1 : Int)) (6148914691236517205 : Int)) + (bAnd .u64 a0 (6148914691236517205 : Int)))) (3689348814741910323 : Int)))))) (1085102592571150095 : Int)) + (bShr .u64 (bAnd .u64 (IntKind.wrap .u64 ((bShr .u64 (IntKind.wrap .u64 ((bAnd .u64 (bShr .u64 (IntKind.wrap .u64 ((bAnd .u64 (bShr .u64 a0 (1 : Int)) (6148914691236517205 : Int)) + (bAnd .u64 a0 (6148914691236517205 : Int)))) (2 : Int)) (3689348814741910323 : Int)) + (bAnd .u64 (IntKind.wrap .u64 ((bAnd .u64 (bShr .u64 a0 (1 : Int)) (6148914691236517205 : Int)) + (bAnd .u64 a0 (6148914691236517205 : Int)))) (3689348814741910323 : Int)))) (4 : Int)) + (IntKind.wrap .u64 ((bAnd .u64 (bShr .u64 (IntKind.wrap .u64 ((bAnd .u64 (bShr .u64 a0 (1 : Int)) (6148914691236517205 : Int)) + (bAnd .u64 a0 (6148914691236517205 : Int)))) (2 : Int)) (3689348814741910323 : Int)) + (bAnd .u64 (IntKind.wrap .u64 ((bAnd .u64 (bShr .u64 a0 (1 : Int)) (6148914691236517205 : Int)) + (bAnd .u64 a0 (6148914691236517205 : Int)))) (3689348814741910323 : Int)))))) (1085102592571150095 : Int)) (8 : Int)))) + (bShr .u64 (IntKind.wrap .u64 ((bAnd .u64 (IntKind.wrap .u64 ((bShr .u64 (IntKind.wrap .u64 ((bAnd .u64 (bShr .u64 (IntKind.wrap .u64 ((bAnd .u64 (bShr .u64 a0 (1 : Int)) (6148914691236517205 : Int)) + (bAnd .u64 a0 (6148914691236517205 : Int)))) (2 : Int)) (3689348814741910323 : Int)) + (bAnd .u64 (IntKind.wrap .u64 ((bAnd .u64 (bShr .u64 a0 (1 : Int)) (6148914691236517205 : Int)) + (bAnd .u64 a0 (6148914691236517205 : Int)))) (3689348814741910323 : Int)))) (4 : Int)) + (IntKind.wrap .u64 ((bAnd .u64 (bShr .u64 (IntKind.wrap .u64 ((bAnd .u64 (bShr .u64 a0 (1 : Int)) (6148914691236517205 : Int)) + (bAnd .u64 a0 (6148914691236517205 : Int)))) (2 : Int)) (3689348814741910323 : Int)) + (bAnd .u64 (IntKind.wrap .u64 ((bAnd .u64 (bShr .u64 a0 (1 : Int)) (6148914691236517205 : Int)) + (bAnd .u64 a0 (6148914691236517205 : Int)))) (3689348814741910323 : Int)))))) (1085102592571150095 : Int)) + (bShr .u64 (bAnd .u64 (IntKind.wrap .u64 ((bShr .u64 (IntKind.wrap .u64 ((bAnd .u64 (bShr .u64 (IntKind.wrap .u64 ((bAnd .u64 (bShr .u64 a0 (1 : Int)) (6148914691236517205 : Int)) + (bAnd .u64 a0 (6148914691236517205 : Int)))) (2 : Int)) (3689348814741910323 : Int)) + (bAnd .u64 (IntKind.wrap .u64 ((bAnd .u64 (bShr .u64 a0 (1 : Int)) (6148914691236517205 : Int)) + (bAnd .u64 a0 (6148914691236517205 : Int)))) (3689348814741910323 : Int)))) (4 : Int)) + (IntKind.wrap .u64 ((bAnd .u64 (bShr .u64 (IntKind.wrap .u64 ((bAnd .u64 (bShr .u64 a0 (1 : Int)) (6148914691236517205 : Int)) + (bAnd .u64 a0 (6148914691236517205 : Int)))) (2 : Int)) (3689348814741910323 : Int)) + (bAnd .u64 (IntKind.wrap .u64 ((bAnd .u64 (bShr .u64 a0 (1 : Int)) (6148914691236517205 : Int)) + (bAnd .u64 a0 (6148914691236517205 : Int)))) (3689348814741910323 : Int)))))) (1085102592571150095 : Int)) (8 : Int)))) (16 : Int)))) (32 : Int))))) (127 : Int))
theorem math_bits_OnesCount64_ok {a0 : Int} {r : Int} (h : math_bits_OnesCount64 a0 = some r) : FnC Try.prog 61 [aD (.int .u64) a0] [] (aI r) [] := by
  refine fnC_of_W (B := bodyOf Try.f61) (n := 35) Try.func61 (by kernel_rfl) (by kernel_rfl) (by kernel_rfl) (by kernel_rfl) (by kernel_rfl) ?_
  intro K
  refine W_seq (by kernel_rfl) ?_
  refine W_run 1 [] [0] [] (fr' := [(0, aD (.int .u64) a0)]) (L' := []) (obs := []) (by kernel_rfl) (by kernel_rfl) (by kernel_rfl) allP0 ?_
  refine seqQ_norm ?_
  refine W_seq (by kernel_rfl) ?_
  refine W_run 7 [] [0] [] (fr' := [(0, aD (.int .u64) (IntKind.wrap .u64 ((bAnd .u64 (bShr .u64 a0 (1 : Int)) (6148914691236517205 : Int)) + (bAnd .u64 a0 (6148914691236517205 : Int)))))]) (L' := []) (obs := [(0 ≤ (1 : Int))]) (by kernel_rfl) (by kernel_rfl) (by kernel_rfl) (allP1 (by decide)) ?_
  refine seqQ_norm ?_
  refine W_seq (by kernel_rfl) ?_
  refine W_run 7 [] [0] [] (fr' := [(0, aD (.int .u64) (IntKind.wrap .u64 ((bAnd .u64 (bShr .u64 (IntKind.wrap .u64 ((bAnd .u64 (bShr .u64 a0 (1 : Int)) (6148914691236517205 : Int)) + (bAnd .u64 a0 (6148914691236517205 : Int)))) (2 : Int)) (3689348814741910323 : Int)) + (bAnd .u64 (IntKind.wrap .u64 ((bAnd .u64 (bShr .u64 a0 (1 : Int)) (6148914691236517205 : Int)) + (bAnd .u64 a0 (6148914691236517205 : Int)))) (3689348814741910323 : Int)))))]) (L' := []) (obs := [(0 ≤ (2 : Int))]) (by kernel_rfl) (by kernel_rfl) (by kernel_rfl) (allP1 (by decide)) ?_
  refine seqQ_norm ?_
  refine W_seq (by kernel_rfl) ?_
  refine W_run 6 [] [0] [] (fr' := [(0, aD (.int .u64) (bAnd .u64 (IntKind.wrap .u64 ((bShr .u64 (IntKind.wrap .u64 ((bAnd .u64 (bShr .u64 (IntKind.wrap .u64 ((bAnd .u64 (bShr .u64 a0 (1 : Int)) (6148914691236517205 : Int)) + (bAnd .u64 a0 (6148914691236517205 : Int)))) (2 : Int)) (3689348814741910323 : Int)) + (bAnd .u64 (IntKind.wrap .u64 ((bAnd .u64 (bShr .u64 a0 (1 : Int)) (6148914691236517205 : Int)) + (bAnd .u64 a0 (6148914691236517205 : Int)))) (3689348814741910323 : Int)))) (4 : Int)) + (IntKind.wrap .u64 ((bAnd .u64 (bShr .u64 (IntKind.wrap .u64 ((bAnd .u64 (bShr .u64 a0 (1 : Int)) (6148914691236517205 : Int)) + (bAnd .u64 a0 (6148914691236517205 : Int)))) (2 : Int)) (3689348814741910323 : Int)) + (bAnd .u64 (IntKind.wrap .u64 ((bAnd .u64 (bShr .u64 a0 (1 : Int)) (6148914691236517205 : Int)) + (bAnd .u64 a0 (6148914691236517205 : Int)))) (3689348814741910323 : Int)))))) (1085102592571150095 : Int)))]) (L' := []) (obs := [(0 ≤ (4 : Int))]) (by kernel_rfl) (by kernel_rfl) (by kernel_rfl) (allP1 (by decide)) ?_
  refine seqQ_norm ?_
  refine W_seq (by kernel_rfl) ?_
  refine W_run 5 [] [0] [] (fr' := [(0, aD (.int .u64) (IntKind.wrap .u64 ((bAnd .u64 (IntKind.wrap .u64 ((bShr .u64 (IntKind.wrap .u64 ((bAnd .u64 (bShr .u64 (IntKind.wrap .u64 ((bAnd .u64 (bShr .u64 a0 (1 : Int)) (6148914691236517205 : Int)) + (bAnd .u64 a0 (6148914691236517205 : Int)))) (2 : Int)) (3689348814741910323 : Int)) + (bAnd .u64 (IntKind.wrap .u64 ((bAnd .u64 (bShr .u64 a0 (1 : Int)) (6148914691236517205 : Int)) + (bAnd .u64 a0 (6148914691236517205 : Int)))) (3689348814741910323 : Int)))) (4 : Int)) + (IntKind.wrap .u64 ((bAnd .u64 (bShr .u64 (IntKind.wrap .u64 ((bAnd .u64 (bShr .u64 a0 (1 : Int)) (6148914691236517205 : Int)) + (bAnd .u64 a0 (6148914691236517205 : Int)))) (2 : Int)) (3689348814741910323 : Int)) + (bAnd .u64 (IntKind.wrap .u64 ((bAnd .u64 (bShr .u64 a0 (1 : Int)) (6148914691236517205 : Int)) + (bAnd .u64 a0 (6148914691236517205 : Int)))) (3689348814741910323 : Int)))))) (1085102592571150095 : Int)) + (bShr .u64 (bAnd .u64 (IntKind.wrap .u64 ((bShr .u64 (IntKind.wrap .u64 ((bAnd .u64 (bShr .u64 (IntKind.wrap .u64 ((bAnd .u64 (bShr .u64 a0 (1 : Int)) (6148914691236517205 : Int)) + (bAnd .u64 a0 (6148914691236517205 : Int)))) (2 : Int)) (3689348814741910323 : Int)) + (bAnd .u64 (IntKind.wrap .u64 ((bAnd .u64 (bShr .u64 a0 (1 : Int)) (6148914691236517205 : Int)) + (bAnd .u64 a0 (6148914691236517205 : Int)))) (3689348814741910323 : Int)))) (4 : Int)) + (IntKind.wrap .u64 ((bAnd .u64 (bShr .u64 (IntKind.wrap .u64 ((bAnd .u64 (bShr .u64 a0 (1 : Int)) (6148914691236517205 : Int)) + (bAnd .u64 a0 (6148914691236517205 : Int)))) (2 : Int)) (3689348814741910323 : Int)) + (bAnd .u64 (IntKind.wrap .u64 ((bAnd .u64 (bShr .u64 a0 (1 : Int)) (6148914691236517205 : Int)) + (bAnd .u64 a0 (6148914691236517205 : Int)))) (3689348814741910323 : Int)))))) (1085102592571150095 : Int)) (8 : Int)))))]) (L' := []) (obs := [(0 ≤ (8 : Int))]) (by kernel_rfl) (by kernel_rfl) (by kernel_rfl) (allP1 (by decide)) ?_
  refine seqQ_norm ?_
  refine W_seq (by kernel_rfl) ?_
  refine W_run 5 [] [0] [] (fr' := [(0, aD (.int .u64) (IntKind.wrap .u64 ((IntKind.wrap .u64 ((bAnd .u64 (IntKind.wrap .u64 ((bShr .u64 (IntKind.wrap .u64 ((bAnd .u64 (bShr .u64 (IntKind.wrap .u64 ((bAnd .u64 (bShr .u64 a0 (1 : Int)) (6148914691236517205 : Int)) + (bAnd .u64 a0 (6148914691236517205 : Int)))) (2 : Int)) (3689348814741910323 : Int)) + (bAnd .u64 (IntKind.wrap .u64 ((bAnd .u64 (bShr .u64 a0 (1 : Int)) (6148914691236517205 : Int)) + (bAnd .u64 a0 (6148914691236517205 : Int)))) (3689348814741910323 : Int)))) (4 : Int)) + (IntKind.wrap .u64 ((bAnd .u64 (bShr .u64 (IntKind.wrap .u64 ((bAnd .u64 (bShr .u64 a0 (1 : Int)) (6148914691236517205 : Int)) + (bAnd .u64 a0 (6148914691236517205 : Int)))) (2 : Int)) (3689348814741910323 : Int)) + (bAnd .u64 (IntKind.wrap .u64 ((bAnd .u64 (bShr .u64 a0 (1 : Int)) (6148914691236517205 : Int)) + (bAnd .u64 a0 (6148914691236517205 : Int)))) (3689348814741910323 : Int)))))) (1085102592571150095 : Int)) + (bShr .u64 (bAnd .u64 (IntKind.wrap .u64 ((bShr .u64 (IntKind.wrap .u64 ((bAnd .u64 (bShr .u64 (IntKind.wrap .u64 ((bAnd .u64 (bShr .u64 a0 (1 : Int)) (6148914691236517205 : Int)) + (bAnd .u64 a0 (6148914691236517205 : Int)))) (2 : Int)) (3689348814741910323 : Int)) + (bAnd .u64 (IntKind.wrap .u64 ((bAnd .u64 (bShr .u64 a0 (1 : Int)) (6148914691236517205 : Int)) + (bAnd .u64 a0 (6148914691236517205 : Int)))) (3689348814741910323 : Int)))) (4 : Int)) + (IntKind.wrap .u64 ((bAnd .u64 (bShr .u64 (IntKind.wrap .u64 ((bAnd .u64 (bShr .u64 a0 (1 : Int)) (6148914691236517205 : Int)) + (bAnd .u64 a0 (6148914691236517205 : Int)))) (2 : Int)) (3689348814741910323 : Int)) + (bAnd .u64 (IntKind.wrap .u64 ((bAnd .u64 (bShr .u64 a0 (1 : Int)) (6148914691236517205 : Int)) + (bAnd .u64 a0 (6148914691236517205 : Int)))) (3689348814741910323 : Int)))))) (1085102592571150095 : Int)) (8 : Int)))) + (bShr .u64 (IntKind.wrap .u64 ((bAnd .u64 (IntKind.wrap .u64 ((bShr .u64 (IntKind.wrap .u64 ((bAnd .u64 (bShr .u64 (IntKind.wrap .u64 ((bAnd .u64 (bShr .u64 a0 (1 : Int)) (6148914691236517205 : Int)) + (bAnd .u64 a0 (6148914691236517205 : Int)))) (2 : Int)) (3689348814741910323 : Int)) + (bAnd .u64 (IntKind.wrap .u64 ((bAnd .u64 (bShr .u64 a0 (1 : Int)) (6148914691236517205 : Int)) + (bAnd .u64 a0 (6148914691236517205 : Int)))) (3689348814741910323 : Int)))) (4 : Int)) + (IntKind.wrap .u64 ((bAnd .u64 (bShr .u64 (IntKind.wrap .u64 ((bAnd .u64 (bShr .u64 a0 (1 : Int)) (6148914691236517205 : Int)) + (bAnd .u64 a0 (6148914691236517205 : Int)))) (2 : Int)) (3689348814741910323 : Int)) + (bAnd .u64 (IntKind.wrap .u64 ((bAnd .u64 (bShr .u64 a0 (1 : Int)) (6148914691236517205 : Int)) + (bAnd .u64 a0 (6148914691236517205 : Int)))) (3689348814741910323 : Int)))))) (1085102592571150095 : Int)) + (bShr .u64 (bAnd .u64 (IntKind.wrap .u64 ((bShr .u64 (IntKind.wrap .u64 ((bAnd .u64 (bShr .u64 (IntKind.wrap .u64 ((bAnd .u64 (bShr .u64 a0 (1 : Int)) (6148914691236517205 : Int)) + (bAnd .u64 a0 (6148914691236517205 : Int)))) (2 : Int)) (3689348814741910323 : Int)) + (bAnd .u64 (IntKind.wrap .u64 ((bAnd .u64 (bShr .u64 a0 (1 : Int)) (6148914691236517205 : Int)) + (bAnd .u64 a0 (6148914691236517205 : Int)))) (3689348814741910323 : Int)))) (4 : Int)) + (IntKind.wrap .u64 ((bAnd .u64 (bShr .u64 (IntKind.wrap .u64 ((bAnd .u64 (bShr .u64 a0 (1 : Int)) (6148914691236517205 : Int)) + (bAnd .u64 a0 (6148914691236517205 : Int)))) (2 : Int)) (3689348814741910323 : Int)) + (bAnd .u64 (IntKind.wrap .u64 ((bAnd .u64 (bShr .u64 a0 (1 : Int)) (6148914691236517205 : Int)) + (bAnd .u64 a0 (6148914691236517205 : Int)))) (3689348814741910323 : Int)))))) (1085102592571150095 : Int)) (8 : Int)))) (16 : Int)))))]) (L' := []) (obs := [(0 ≤ (16 : Int))]) (by kernel_rfl) (by kernel_rfl) (by kernel_rfl) (allP1 (by decide)) ?_
  refine seqQ_norm ?_
  refine W_seq (by kernel_rfl) ?_
  refine W_run 5 [] [0] [] (fr' := [(0, aD (.int .u64) (IntKind.wrap .u64 ((IntKind.wrap .u64 ((IntKind.wrap .u64 ((bAnd .u64 (IntKind.wrap .u64 ((bShr .u64 (IntKind.wrap .u64 ((bAnd .u64 (bShr .u64 (IntKind.wrap .u64 ((bAnd .u64 (bShr .u64 a0 (1 : Int)) (6148914691236517205 : Int)) + (bAnd .u64 a0 (6148914691236517205 : Int)))) (2 : Int)) (3689348814741910323 : Int)) + (bAnd .u64 (IntKind.wrap .u64 ((bAnd .u64 (bShr .u64 a0 (1 : Int)) (6148914691236517205 : Int)) + (bAnd .u64 a0 (6148914691236517205 : Int)))) (3689348814741910323 : Int)))) (4 : Int)) + (IntKind.wrap .u64 ((bAnd .u64 (bShr .u64 (IntKind.wrap .u64 ((bAnd .u64 (bShr .u64 a0 (1 : Int)) (6148914691236517205 : Int)) + (bAnd .u64 a0 (6148914691236517205 : Int)))) (2 : Int)) (3689348814741910323 : Int)) + (bAnd .u64 (IntKind.wrap .u64 ((bAnd .u64 (bShr .u64 a0 (1 : Int)) (6148914691236517205 : Int)) + (bAnd .u64 a0 (6148914691236517205 : Int)))) (3689348814741910323 : Int)))))) (1085102592571150095 : Int)) + (bShr .u64 (bAnd .u64 (IntKind.wrap .u64 ((bShr .u64 (IntKind.wrap .u64 ((bAnd .u64 (bShr .u64 (IntKind.wrap .u64 ((bAnd .u64 (bShr .u64 a0 (1 : Int)) (6148914691236517205 : Int)) + (bAnd .u64 a0 (6148914691236517205 : Int)))) (2 : Int)) (3689348814741910323 : Int)) + (bAnd .u64 (IntKind.wrap .u64 ((bAnd .u64 (bShr .u64 a0 (1 : Int)) (6148914691236517205 : Int)) + (bAnd .u64 a0 (6148914691236517205 : Int)))) (3689348814741910323 : Int)))) (4 : Int)) + (IntKind.wrap .u64 ((bAnd .u64 (bShr .u64 (IntKind.wrap .u64 ((bAnd .u64 (bShr .u64 a0 (1 : Int)) (6148914691236517205 : Int)) + (bAnd .u64 a0 (6148914691236517205 : Int)))) (2 : Int)) (3689348814741910323 : Int)) + (bAnd .u64 (IntKind.wrap .u64 ((bAnd .u64 (bShr .u64 a0 (1 : Int)) (6148914691236517205 : Int)) + (bAnd .u64 a0 (6148914691236517205 : Int)))) (3689348814741910323 : Int)))))) (1085102592571150095 : Int)) (8 : Int)))) + (bShr .u64 (IntKind.wrap .u64 ((bAnd .u64 (IntKind.wrap .u64 ((bShr .u64 (IntKind.wrap .u64 ((bAnd .u64 (bShr .u64 (IntKind.wrap .u64 ((bAnd .u64 (bShr .u64 a0 (1 : Int)) (6148914691236517205 : Int)) + (bAnd .u64 a0 (6148914691236517205 : Int)))) (2 : Int)) (3689348814741910323 : Int)) + (bAnd .u64 (IntKind.wrap .u64 ((bAnd .u64 (bShr .u64 a0 (1 : Int)) (6148914691236517205 : Int)) + (bAnd .u64 a0 (6148914691236517205 : Int)))) (3689348814741910323 : Int)))) (4 : Int)) + (IntKind.wrap .u64 ((bAnd .u64 (bShr .u64 (IntKind.wrap .u64 ((bAnd .u64 (bShr .u64 a0 (1 : Int)) (6148914691236517205 : Int)) + (bAnd .u64 a0 (6148914691236517205 : Int)))) (2 : Int)) (3689348814741910323 : Int)) + (bAnd .u64 (IntKind.wrap .u64 ((bAnd .u64 (bShr .u64 a0 (1 : Int)) (6148914691236517205 : Int)) + (bAnd .u64 a0 (6148914691236517205 : Int)))) (3689348814741910323 : Int)))))) (1085102592571150095 : Int)) + (bShr .u64 (bAnd .u64 (IntKind.wrap .u64 ((bShr .u64 (IntKind.wrap .u64 ((bAnd .u64 (bShr .u64 (IntKind.wrap .u64 ((bAnd .u64 (bShr .u64 a0 (1 : Int)) (6148914691236517205 : Int)) + (bAnd .u64 a0 (6148914691236517205 : Int)))) (2 : Int)) (3689348814741910323 : Int)) + (bAnd .u64 (IntKind.wrap .u64 ((bAnd .u64 (bShr .u64 a0 (1 : Int)) (6148914691236517205 : Int)) + (bAnd .u64 a0 (6148914691236517205 : Int)))) (3689348814741910323 : Int)))) (4 : Int)) + (IntKind.wrap .u64 ((bAnd .u64 (bShr .u64 (IntKind.wrap .u64 ((bAnd .u64 (bShr .u64 a0 (1 : Int)) (6148914691236517205 : Int)) + (bAnd .u64 a0 (6148914691236517205 : Int)))) (2 : Int)) (3689348814741910323 : Int)) + (bAnd .u64 (IntKind.wrap .u64 ((bAnd .u64 (bShr .u64 a0 (1 : Int)) (6148914691236517205 : Int)) + (bAnd .u64 a0 (6148914691236517205 : Int)))) (3689348814741910323 : Int)))))) (1085102592571150095 : Int)) (8 : Int)))) (16 : Int)))) + (bShr .u64 (IntKind.wrap .u64 ((IntKind.wrap .u64 ((bAnd .u64 (IntKind.wrap .u64 ((bShr .u64 (IntKind.wrap .u64 ((bAnd .u64 (bShr .u64 (IntKind.wrap .u64 ((bAnd .u64 (bShr .u64 a0 (1 : Int)) (6148914691236517205 : Int)) + (bAnd .u64 a0 (6148914691236517205 : Int)))) (2 : Int)) (3689348814741910323 : Int)) + (bAnd .u64 (IntKind.wrap .u64 ((bAnd .u64 (bShr .u64 a0 (1 : Int)) (6148914691236517205 : Int)) + (bAnd .u64 a0 (6148914691236517205 : Int)))) (3689348814741910323 : Int)))) (4 : Int)) + (IntKind.wrap .u64 ((bAnd .u64 (bShr .u64 (IntKind.wrap .u64 ((bAnd .u64 (bShr .u64 a0 (1 : Int)) (6148914691236517205 : Int)) + (bAnd .u64 a0 (6148914691236517205 : Int)))) (2 : Int)) (3689348814741910323 : Int)) + (bAnd .u64 (IntKind.wrap .u64 ((bAnd .u64 (bShr .u64 a0 (1 : Int)) (6148914691236517205 : Int)) + (bAnd .u64 a0 (6148914691236517205 : Int)))) (3689348814741910323 : Int)))))) (1085102592571150095 : Int)) + (bShr .u64 (bAnd .u64 (IntKind.wrap .u64 ((bShr .u64 (IntKind.wrap .u64 ((bAnd .u64 (bShr .u64 (IntKind.wrap .u64 ((bAnd .u64 (bShr .u64 a0 (1 : Int)) (6148914691236517205 : Int)) + (bAnd .u64 a0 (6148914691236517205 : Int)))) (2 : Int)) (3689348814741910323 : Int)) + (bAnd .u64 (IntKind.wrap .u64 ((bAnd .u64 (bShr .u64 a0 (1 : Int)) (6148914691236517205 : Int)) + (bAnd .u64 a0 (6148914691236517205 : Int)))) (3689348814741910323 : Int)))) (4 : Int)) + (IntKind.wrap .u64 ((bAnd .u64 (bShr .u64 (IntKind.wrap .u64 ((bAnd .u64 (bShr .u64 a0 (1 : Int)) (6148914691236517205 : Int)) + (bAnd .u64 a0 (6148914691236517205 : Int)))) (2 : Int)) (3689348814741910323 : Int)) + (bAnd .u64 (IntKind.wrap .u64 ((bAnd .u64 (bShr .u64 a0 (1 : Int)) (6148914691236517205 : Int)) + (bAnd .u64 a0 (6148914691236517205 : Int)))) (3689348814741910323 : Int)))))) (1085102592571150095 : Int)) (8 : Int)))) + (bShr .u64 (IntKind.wrap .u64 ((bAnd .u64 (IntKind.wrap .u64 ((bShr .u64 (IntKind.wrap .u64 ((bAnd .u64 (bShr .u64 (IntKind.wrap .u64 ((bAnd .u64 (bShr .u64 a0 (1 : Int)) (6148914691236517205 : Int)) + (bAnd .u64 a0 (6148914691236517205 : Int)))) (2 : Int)) (3689348814741910323 : Int)) + (bAnd .u64 (IntKind.wrap .u64 ((bAnd .u64 (bShr .u64 a0 (1 : Int)) (6148914691236517205 : Int)) + (bAnd .u64 a0 (6148914691236517205 : Int)))) (3689348814741910323 : Int)))) (4 : Int)) + (IntKind.wrap .u64 ((bAnd .u64 (bShr .u64 (IntKind.wrap .u64 ((bAnd .u64 (bShr .u64 a0 (1 : Int)) (6148914691236517205 : Int)) + (bAnd .u64 a0 (6148914691236517205 : Int)))) (2 : Int)) (3689348814741910323 : Int)) + (bAnd .u64 (IntKind.wrap .u64 ((bAnd .u64 (bShr .u64 a0 (1 : Int)) (6148914691236517205 : Int)) + (bAnd .u64 a0 (6148914691236517205 : Int)))) (3689348814741910323 : Int)))))) (1085102592571150095 : Int)) + (bShr .u64 (bAnd .u64 (IntKind.wrap .u64 ((bShr .u64 (IntKind.wrap .u64 ((bAnd .u64 (bShr .u64 (IntKind.wrap .u64 ((bAnd .u64 (bShr .u64 a0 (1 : Int)) (6148914691236517205 : Int)) + (bAnd .u64 a0 (6148914691236517205 : Int)))) (2 : Int)) (3689348814741910323 : Int)) + (bAnd .u64 (IntKind.wrap .u64 ((bAnd .u64 (bShr .u64 a0 (1 : Int)) (6148914691236517205 : Int)) + (bAnd .u64 a0 (6148914691236517205 : Int)))) (3689348814741910323 : Int)))) (4 : Int)) + (IntKind.wrap .u64 ((bAnd .u64 (bShr .u64 (IntKind.wrap .u64 ((bAnd .u64 (bShr .u64 a0 (1 : Int)) (6148914691236517205 : Int)) + (bAnd .u64 a0 (6148914691236517205 : Int)))) (2 : Int)) (3689348814741910323 : Int)) + (bAnd .u64 (IntKind.wrap .u64 ((bAnd .u64 (bShr .u64 a0 (1 : Int)) (6148914691236517205 : Int)) + (bAnd .u64 a0 (6148914691236517205 : Int)))) (3689348814741910323 : Int)))))) (1085102592571150095 : Int)) (8 : Int)))) (16 : Int)))) (32 : Int)))))]) (L' := []) (obs := [(0 ≤ (32 : Int))]) (by kernel_rfl) (by kernel_rfl) (by kernel_rfl) (allP1 (by decide)) ?_
  refine seqQ_norm ?_
  refine W_seq (by kernel_rfl) ?_
  refine W_run 4 [] [2] [] (fr' := [(2, aI (bAnd .i64 (w64 (IntKind.wrap .u64 ((IntKind.wrap .u64 ((IntKind.wrap .u64 ((bAnd .u64 (IntKind.wrap .u64 ((bShr .u64 (IntKind.wrap .u64 ((bAnd .u64 (bShr .u64 (IntKind.wrap .u64 ((bAnd .u64 (bShr .u64 a0 (1 : Int)) (6148914691236517205 : Int)) + (bAnd .u64 a0 (6148914691236517205 : Int)))) (2 : Int)) (3689348814741910323 : Int)) + (bAnd .u64 (IntKind.wrap .u64 ((bAnd .u64 (bShr .u64 a0 (1 : Int)) (6148914691236517205 : Int)) + (bAnd .u64 a0 (6148914691236517205 : Int)))) (3689348814741910323 : Int)))) (4 : Int)) + (IntKind.wrap .u64 ((bAnd .u64 (bShr .u64 (IntKind.wrap .u64 ((bAnd .u64 (bShr .u64 a0 (1 : Int)) (6148914691236517205 : Int)) + (bAnd .u64 a0 (6148914691236517205 : Int)))) (2 : Int)) (3689348814741910323 : Int)) + (bAnd .u64 (IntKind.wrap .u64 ((bAnd .u64 (bShr .u64 a0 (1 : Int)) (6148914691236517205 : Int)) + (bAnd .u64 a0 (6148914691236517205 : Int)))) (3689348814741910323 : Int)))))) (1085102592571150095 : Int)) + (bShr .u64 (bAnd .u64 (IntKind.wrap .u64 ((bShr .u64 (IntKind.wrap .u64 ((bAnd .u64 (bShr .u64 (IntKind.wrap .u64 ((bAnd .u64 (bShr .u64 a0 (1 : Int)) (6148914691236517205 : Int)) + (bAnd .u64 a0 (6148914691236517205 : Int)))) (2 : Int)) (3689348814741910323 : Int)) + (bAnd .u64 (IntKind.wrap .u64 ((bAnd .u64 (bShr .u64 a0 (1 : Int)) (6148914691236517205 : Int)) + (bAnd .u64 a0 (6148914691236517205 : Int)))) (3689348814741910323 : Int)))) (4 : Int)) + (IntKind.wrap .u64 ((bAnd .u64 (bShr .u64 (IntKind.wrap .u64 ((bAnd .u64 (bShr .u64 a0 (1 : Int)) (6148914691236517205 : Int)) + (bAnd .u64 a0 (6148914691236517205 : Int)))) (2 : Int)) (3689348814741910323 : Int)) + (bAnd .u64 (IntKind.wrap .u64 ((bAnd .u64 (bShr .u64 a0 (1 : Int)) (6148914691236517205 : Int)) + (bAnd .u64 a0 (6148914691236517205 : Int)))) (3689348814741910323 : Int)))))) (1085102592571150095 : Int)) (8 : Int)))) + (bShr .u64 (IntKind.wrap .u64 ((bAnd .u64 (IntKind.wrap .u64 ((bShr .u64 (IntKind.wrap .u64 ((bAnd .u64 (bShr .u64 (IntKind.wrap .u64 ((bAnd .u64 (bShr .u64 a0 (1 : Int)) (6148914691236517205 : Int)) + (bAnd .u64 a0 (6148914691236517205 : Int)))) (2 : Int)) (3689348814741910323 : Int)) + (bAnd .u64 (IntKind.wrap .u64 ((bAnd .u64 (bShr .u64 a0 (1 : Int)) (6148914691236517205 : Int)) + (bAnd .u64 a0 (6148914691236517205 : Int)))) (3689348814741910323 : Int)))) (4 : Int)) + (IntKind.wrap .u64 ((bAnd .u64 (bShr .u64 (IntKind.wrap .u64 ((bAnd .u64 (bShr .u64 a0 (1 : Int)) (6148914691236517205 : Int)) + (bAnd .u64 a0 (6148914691236517205 : Int)))) (2 : Int)) (3689348814741910323 : Int)) + (bAnd .u64 (IntKind.wrap .u64 ((bAnd .u64 (bShr .u64 a0 (1 : Int)) (6148914691236517205 : Int)) + (bAnd .u64 a0 (6148914691236517205 : Int)))) (3689348814741910323 : Int)))))) (1085102592571150095 : Int)) + (bShr .u64 (bAnd .u64 (IntKind.wrap .u64 ((bShr .u64 (IntKind.wrap .u64 ((bAnd .u64 (bShr .u64 (IntKind.wrap .u64 ((bAnd .u64 (bShr .u64 a0 (1 : Int)) (6148914691236517205 : Int)) + (bAnd .u64 a0 (6148914691236517205 : Int)))) (2 : Int)) (3689348814741910323 : Int)) + (bAnd .u64 (IntKind.wrap .u64 ((bAnd .u64 (bShr .u64 a0 (1 : Int)) (6148914691236517205 : Int)) + (bAnd .u64 a0 (6148914691236517205 : Int)))) (3689348814741910323 : Int)))) (4 : Int)) + (IntKind.wrap .u64 ((bAnd .u64 (bShr .u64 (IntKind.wrap .u64 ((bAnd .u64 (bShr .u64 a0 (1 : Int)) (6148914691236517205 : Int)) + (bAnd .u64 a0 (6148914691236517205 : Int)))) (2 : Int)) (3689348814741910323 : Int)) + (bAnd .u64 (IntKind.wrap .u64 ((bAnd .u64 (bShr .u64 a0 (1 : Int)) (6148914691236517205 : Int)) + (bAnd .u64 a0 (6148914691236517205 : Int)))) (3689348814741910323 : Int)))))) (1085102592571150095 : Int)) (8 : Int)))) (16 : Int)))) + (bShr .u64 (IntKind.wrap .u64 ((IntKind.wrap .u64 ((bAnd .u64 (IntKind.wrap .u64 ((bShr .u64 (IntKind.wrap .u64 ((bAnd .u64 (bShr .u64 (IntKind.wrap .u64 ((bAnd .u64 (bShr .u64 a0 (1 : Int)) (6148914691236517205 : Int)) + (bAnd .u64 a0 (6148914691236517205 : Int)))) (2 : Int)) (3689348814741910323 : Int)) + (bAnd .u64 (IntKind.wrap .u64 ((bAnd .u64 (bShr .u64 a0 (1 : Int)) (6148914691236517205 : Int)) + (bAnd .u64 a0 (6148914691236517205 : Int)))) (3689348814741910323 : Int)))) (4 : Int)) + (IntKind.wrap .u64 ((bAnd .u64 (bShr .u64 (IntKind.wrap .u64 ((bAnd .u64 (bShr .u64 a0 (1 : Int)) (6148914691236517205 : Int)) + (bAnd .u64 a0 (6148914691236517205 : Int)))) (2 : Int)) (3689348814741910323 : Int)) + (bAnd .u64 (IntKind.wrap .u64 ((bAnd .u64 (bShr .u64 a0 (1 : Int)) (6148914691236517205 : Int)) + (bAnd .u64 a0 (6148914691236517205 : Int)))) (3689348814741910323 : Int)))))) (1085102592571150095 : Int)) + (bShr .u64 (bAnd .u64 (IntKind.wrap .u64 ((bShr .u64 (IntKind.wrap .u64 ((bAnd .u64 (bShr .u64 (IntKind.wrap .u64 ((bAnd .u64 (bShr .u64 a0 (1 : Int)) (6148914691236517205 : Int)) + (bAnd .u64 a0 (6148914691236517205 : Int)))) (2 : Int)) (3689348814741910323 : Int)) + (bAnd .u64 (IntKind.wrap .u64 ((bAnd .u64 (bShr .u64 a0 (1 : Int)) (6148914691236517205 : Int)) + (bAnd .u64 a0 (6148914691236517205 : Int)))) (3689348814741910323 : Int)))) (4 : Int)) + (IntKind.wrap .u64 ((bAnd .u64 (bShr .u64 (IntKind.wrap .u64 ((bAnd .u64 (bShr .u64 a0 (1 : Int)) (6148914691236517205 : Int)) + (bAnd .u64 a0 (6148914691236517205 : Int)))) (2 : Int)) (3689348814741910323 : Int)) + (bAnd .u64 (IntKind.wrap .u64 ((bAnd .u64 (bShr .u64 a0 (1 : Int)) (6148914691236517205 : Int)) + (bAnd .u64 a0 (6148914691236517205 : Int)))) (3689348814741910323 : Int)))))) (1085102592571150095 : Int)) (8 : Int)))) + (bShr .u64 (IntKind.wrap .u64 ((bAnd .u64 (IntKind.wrap .u64 ((bShr .u64 (IntKind.wrap .u64 ((bAnd .u64 (bShr .u64 (IntKind.wrap .u64 ((bAnd .u64 (bShr .u64 a0 (1 : Int)) (6148914691236517205 : Int)) + (bAnd .u64 a0 (6148914691236517205 : Int)))) (2 : Int)) (3689348814741910323 : Int)) + (bAnd .u64 (IntKind.wrap .u64 ((bAnd .u64 (bShr .u64 a0 (1 : Int)) (6148914691236517205 : Int)) + (bAnd .u64 a0 (6148914691236517205 : Int)))) (3689348814741910323 : Int)))) (4 : Int)) + (IntKind.wrap .u64 ((bAnd .u64 (bShr .u64 (IntKind.wrap .u64 ((bAnd .u64 (bShr .u64 a0 (1 : Int)) (6148914691236517205 : Int)) + (bAnd .u64 a0 (6148914691236517205 : Int)))) (2 : Int)) (3689348814741910323 : Int)) + (bAnd .u64 (IntKind.wrap .u64 ((bAnd .u64 (bShr .u64 a0 (1 : Int)) (6148914691236517205 : Int)) + (bAnd .u64 a0 (6148914691236517205 : Int)))) (3689348814741910323 : Int)))))) (1085102592571150095 : Int)) + (bShr .u64 (bAnd .u64 (IntKind.wrap .u64 ((bShr .u64 (IntKind.wrap .u64 ((bAnd .u64 (bShr .u64 (IntKind.wrap .u64 ((bAnd .u64 (bShr .u64 a0 (1 : Int)) (6148914691236517205 : Int)) + (bAnd .u64 a0 (6148914691236517205 : Int)))) (2 : Int)) (3689348814741910323 : Int)) + (bAnd .u64 (IntKind.wrap .u64 ((bAnd .u64 (bShr .u64 a0 (1 : Int)) (6148914691236517205 : Int)) + (bAnd .u64 a0 (6148914691236517205 : Int)))) (3689348814741910323 : Int)))) (4 : Int)) + (IntKind.wrap .u64 ((bAnd .u64 (bShr .u64 (IntKind.wrap .u64 ((bAnd .u64 (bShr .u64 a0 (1 : Int)) (6148914691236517205 : Int)) + (bAnd .u64 a0 (6148914691236517205 : Int)))) (2 : Int)) (3689348814741910323 : Int)) + (bAnd .u64 (IntKind.wrap .u64 ((bAnd .u64 (bShr .u64 a0 (1 : Int)) (6148914691236517205 : Int)) + (bAnd .u64 a0 (6148914691236517205 : Int)))) (3689348814741910323 : Int)))))) (1085102592571150095 : Int)) (8 : Int)))) (16 : Int)))) (32 : Int))))) (127 : Int)))]) (L' := []) (obs := []) (by kernel_rfl) (by kernel_rfl) (by kernel_rfl) allP0 ?_
  refine seqQ_norm ?_
  obtain rfl := Option.some.inj h
  refine W_ret [2] [] (fr' := [(2, aI (bAnd .i64 (w64 (IntKind.wrap .u64 ((IntKind.wrap .u64 ((IntKind.wrap .u64 ((bAnd .u64 (IntKind.wrap .u64 ((bShr .u64 (IntKind.wrap .u64 ((bAnd .u64 (bShr .u64 (IntKind.wrap .u64 ((bAnd .u64 (bShr .u64 a0 (1 : Int)) (6148914691236517205 : Int)) + (bAnd .u64 a0 (6148914691236517205 : Int)))) (2 : Int)) (3689348814741910323 : Int)) + (bAnd .u64 (IntKind.wrap .u64 ((bAnd .u64 (bShr .u64 a0 (1 : Int)) (6148914691236517205 : Int)) + (bAnd .u64 a0 (6148914691236517205 : Int)))) (3689348814741910323 : Int)))) (4 : Int)) + (IntKind.wrap .u64 ((bAnd .u64 (bShr .u64 (IntKind.wrap .u64 ((bAnd .u64 (bShr .u64 a0 (1 : Int)) (6148914691236517205 : Int)) + (bAnd .u64 a0 (6148914691236517205 : Int)))) (2 : Int)) (3689348814741910323 : Int)) + (bAnd .u64 (IntKind.wrap .u64 ((bAnd .u64 (bShr .u64 a0 (1 : Int)) (6148914691236517205 : Int)) + (bAnd .u64 a0 (6148914691236517205 : Int)))) (3689348814741910323 : Int)))))) (1085102592571150095 : Int)) + (bShr .u64 (bAnd .u64 (IntKind.wrap .u64 ((bShr .u64 (IntKind.wrap .u64 ((bAnd .u64 (bShr .u64 (IntKind.wrap .u64 ((bAnd .u64 (bShr .u64 a0 (1 : Int)) (6148914691236517205 : Int)) + (bAnd .u64 a0 (6148914691236517205 : Int)))) (2 : Int)) (3689348814741910323 : Int)) + (bAnd .u64 (IntKind.wrap .u64 ((bAnd .u64 (bShr .u64 a0 (1 : Int)) (6148914691236517205 : Int)) + (bAnd .u64 a0 (6148914691236517205 : Int)))) (3689348814741910323 : Int)))) (4 : Int)) + (IntKind.wrap .u64 ((bAnd .u64 (bShr .u64 (IntKind.wrap .u64 ((bAnd .u64 (bShr .u64 a0 (1 : Int)) (6148914691236517205 : Int)) + (bAnd .u64 a0 (6148914691236517205 : Int)))) (2 : Int)) (3689348814741910323 : Int)) + (bAnd .u64 (IntKind.wrap .u64 ((bAnd .u64 (bShr .u64 a0 (1 : Int)) (6148914691236517205 : Int)) + (bAnd .u64 a0 (6148914691236517205 : Int)))) (3689348814741910323 : Int)))))) (1085102592571150095 : Int)) (8 : Int)))) + (bShr .u64 (IntKind.wrap .u64 ((bAnd .u64 (IntKind.wrap .u64 ((bShr .u64 (IntKind.wrap .u64 ((bAnd .u64 (bShr .u64 (IntKind.wrap .u64 ((bAnd .u64 (bShr .u64 a0 (1 : Int)) (6148914691236517205 : Int)) + (bAnd .u64 a0 (6148914691236517205 : Int)))) (2 : Int)) (3689348814741910323 : Int)) + (bAnd .u64 (IntKind.wrap .u64 ((bAnd .u64 (bShr .u64 a0 (1 : Int)) (6148914691236517205 : Int)) + (bAnd .u64 a0 (6148914691236517205 : Int)))) (3689348814741910323 : Int)))) (4 : Int)) + (IntKind.wrap .u64 ((bAnd .u64 (bShr .u64 (IntKind.wrap .u64 ((bAnd .u64 (bShr .u64 a0 (1 : Int)) (6148914691236517205 : Int)) + (bAnd .u64 a0 (6148914691236517205 : Int)))) (2 : Int)) (3689348814741910323 : Int)) + (bAnd .u64 (IntKind.wrap .u64 ((bAnd .u64 (bShr .u64 a0 (1 : Int)) (6148914691236517205 : Int)) + (bAnd .u64 a0 (6148914691236517205 : Int)))) (3689348814741910323 : Int)))))) (1085102592571150095 : Int)) + (bShr .u64 (bAnd .u64 (IntKind.wrap .u64 ((bShr .u64 (IntKind.wrap .u64 ((bAnd .u64 (bShr .u64 (IntKind.wrap .u64 ((bAnd .u64 (bShr .u64 a0 (1 : Int)) (6148914691236517205 : Int)) + (bAnd .u64 a0 (6148914691236517205 : Int)))) (2 : Int)) (3689348814741910323 : Int)) + (bAnd .u64 (IntKind.wrap .u64 ((bAnd .u64 (bShr .u64 a0 (1 : Int)) (6148914691236517205 : Int)) + (bAnd .u64 a0 (6148914691236517205 : Int)))) (3689348814741910323 : Int)))) (4 : Int)) + (IntKind.wrap .u64 ((bAnd .u64 (bShr .u64 (IntKind.wrap .u64 ((bAnd .u64 (bShr .u64 a0 (1 : Int)) (6148914691236517205 : Int)) + (bAnd .u64 a0 (6148914691236517205 : Int)))) (2 : Int)) (3689348814741910323 : Int)) + (bAnd .u64 (IntKind.wrap .u64 ((bAnd .u64 (bShr .u64 a0 (1 : Int)) (6148914691236517205 : Int)) + (bAnd .u64 a0 (6148914691236517205 : Int)))) (3689348814741910323 : Int)))))) (1085102592571150095 : Int)) (8 : Int)))) (16 : Int)))) + (bShr .u64 (IntKind.wrap .u64 ((IntKind.wrap .u64 ((bAnd .u64 (IntKind.wrap .u64 ((bShr .u64 (IntKind.wrap .u64 ((bAnd .u64 (bShr .u64 (IntKind.wrap .u64 ((bAnd .u64 (bShr .u64 a0 (1 : Int)) (6148914691236517205 : Int)) + (bAnd .u64 a0 (6148914691236517205 : Int)))) (2 : Int)) (3689348814741910323 : Int)) + (bAnd .u64 (IntKind.wrap .u64 ((bAnd .u64 (bShr .u64 a0 (1 : Int)) (6148914691236517205 : Int)) + (bAnd .u64 a0 (6148914691236517205 : Int)))) (3689348814741910323 : Int)))) (4 : Int)) + (IntKind.wrap .u64 ((bAnd .u64 (bShr .u64 (IntKind.wrap .u64 ((bAnd .u64 (bShr .u64 a0 (1 : Int)) (6148914691236517205 : Int)) + (bAnd .u64 a0 (6148914691236517205 : Int)))) (2 : Int)) (3689348814741910323 : Int)) + (bAnd .u64 (IntKind.wrap .u64 ((bAnd .u64 (bShr .u64 a0 (1 : Int)) (6148914691236517205 : Int)) + (bAnd .u64 a0 (6148914691236517205 : Int)))) (3689348814741910323 : Int)))))) (1085102592571150095 : Int)) + (bShr .u64 (bAnd .u64 (IntKind.wrap .u64 ((bShr .u64 (IntKind.wrap .u64 ((bAnd .u64 (bShr .u64 (IntKind.wrap .u64 ((bAnd .u64 (bShr .u64 a0 (1 : Int)) (6148914691236517205 : Int)) + (bAnd .u64 a0 (6148914691236517205 : Int)))) (2 : Int)) (3689348814741910323 : Int)) + (bAnd .u64 (IntKind.wrap .u64 ((bAnd .u64 (bShr .u64 a0 (1 : Int)) (6148914691236517205 : Int)) + (bAnd .u64 a0 (6148914691236517205 : Int)))) (3689348814741910323 : Int)))) (4 : Int)) + (IntKind.wrap .u64 ((bAnd .u64 (bShr .u64 (IntKind.wrap .u64 ((bAnd .u64 (bShr .u64 a0 (1 : Int)) (6148914691236517205 : Int)) + (bAnd .u64 a0 (6148914691236517205 : Int)))) (2 : Int)) (3689348814741910323 : Int)) + (bAnd .u64 (IntKind.wrap .u64 ((bAnd .u64 (bShr .u64 a0 (1 : Int)) (6148914691236517205 : Int)) + (bAnd .u64 a0 (6148914691236517205 : Int)))) (3689348814741910323 : Int)))))) (1085102592571150095 : Int)) (8 : Int)))) + (bShr .u64 (IntKind.wrap .u64 ((bAnd .u64 (IntKind.wrap .u64 ((bShr .u64 (IntKind.wrap .u64 ((bAnd .u64 (bShr .u64 (IntKind.wrap .u64 ((bAnd .u64 (bShr .u64 a0 (1 : Int)) (6148914691236517205 : Int)) + (bAnd .u64 a0 (6148914691236517205 : Int)))) (2 : Int)) (3689348814741910323 : Int)) + (bAnd .u64 (IntKind.wrap .u64 ((bAnd .u64 (bShr .u64 a0 (1 : Int)) (6148914691236517205 : Int)) + (bAnd .u64 a0 (6148914691236517205 : Int)))) (3689348814741910323 : Int)))) (4 : Int)) + (IntKind.wrap .u64 ((bAnd .u64 (bShr .u64 (IntKind.wrap .u64 ((bAnd .u64 (bShr .u64 a0 (1 : Int)) (6148914691236517205 : Int)) + (bAnd .u64 a0 (6148914691236517205 : Int)))) (2 : Int)) (3689348814741910323 : Int)) + (bAnd .u64 (IntKind.wrap .u64 ((bAnd .u64 (bShr .u64 a0 (1 : Int)) (6148914691236517205 : Int)) + (bAnd .u64 a0 (6148914691236517205 : Int)))) (3689348814741910323 : Int)))))) (1085102592571150095 : Int)) + (bShr .u64 (bAnd .u64 (IntKind.wrap .u64 ((bShr .u64 (IntKind.wrap .u64 ((bAnd .u64 (bShr .u64 (IntKind.wrap .u64 ((bAnd .u64 (bShr .u64 a0 (1 : Int)) (6148914691236517205 : Int)) + (bAnd .u64 a0 (6148914691236517205 : Int)))) (2 : Int)) (3689348814741910323 : Int)) + (bAnd .u64 (IntKind.wrap .u64 ((bAnd .u64 (bShr .u64 a0 (1 : Int)) (6148914691236517205 : Int)) + (bAnd .u64 a0 (6148914691236517205 : Int)))) (3689348814741910323 : Int)))) (4 : Int)) + (IntKind.wrap .u64 ((bAnd .u64 (bShr .u64 (IntKind.wrap .u64 ((bAnd .u64 (bShr .u64 a0 (1 : Int)) (6148914691236517205 : Int)) + (bAnd .u64 a0 (6148914691236517205 : Int)))) (2 : Int)) (3689348814741910323 : Int)) + (bAnd .u64 (IntKind.wrap .u64 ((bAnd .u64 (bShr .u64 a0 (1 : Int)) (6148914691236517205 : Int)) + (bAnd .u64 a0 (6148914691236517205 : Int)))) (3689348814741910323 : Int)))))) (1085102592571150095 : Int)) (8 : Int)))) (16 : Int)))) (32 : Int))))) (127 : Int)))]) (L' := []) (by kernel_rfl) (by kernel_rfl) ?_
  exact retQ_mk (by kernel_rfl) (by kernel_rfl) (by kernel_rfl)

def math_bits_OnesCount (a0 : Int) : Option Int :=
(math_bits_OnesCount64 a0).bind fun r2 =>
some r2
theorem math_bits_OnesCount_ok {a0 : Int} {r : Int} (h : math_bits_OnesCount a0 = some r) : FnC Try.prog 50 [aD (.int .u64) a0] [] (aI r) [] := by
  refine fnC_of_W (B := bodyOf Try.f50) (n := 8) Try.func50 (by kernel_rfl) (by kernel_rfl) (by kernel_rfl) (by kernel_rfl) (by kernel_rfl) ?_
  intro K
  refine W_seq (by kernel_rfl) ?_
  refine W_run 1 [] [0] [] (fr' := [(0, aD (.int .u64) a0)]) (L' := []) (obs := []) (by kernel_rfl) (by kernel_rfl) (by kernel_rfl) allP0 ?_
  refine seqQ_norm ?_
  refine W_seq (by kernel_rfl) ?_
  refine W_cond (o := .const (.bool false)) (b := false) (by kernel_rfl) (by kernel_rfl) (fun h1 => by have := (rfl : false = false).symm.trans h1; cases this) (fun h1 => ?_)
  refine W_skip [0] [] (fr' := [(0, aD (.int .u64) a0)]) (L' := []) (by kernel_rfl) (by kernel_rfl) ?_
  refine seqQ_norm ?_
  refine W_seq (by kernel_rfl) ?_
  refine W_region (by kernel_rfl) ?_
  refine WO_run (j := 1) (k := 1) (orcs := []) (kF := [6]) (kL := []) (fr' := [(6, aD (.int .u64) a0)]) (L' := []) (obs := []) rfl (by kernel_rfl) allP0 ?_
  obtain ⟨r2, h3, h⟩ := bind_of h
  refine WO_call0 (us := [none]) (d := 7) (p := True) (j := 2) rfl ⟨by kernel_rfl, by kernel_rfl, by kernel_rfl⟩ trivial (math_bits_OnesCount64_ok h3) (by kernel_rfl) ?_
  refine WO_run (j := 3) (k := 1) (orcs := []) (kF := [2]) (kL := []) (fr' := [(2, aI r2)]) (L' := []) (obs := []) rfl (by kernel_rfl) allP0 ?_
  refine WO_fin [2] [] (fr' := [(2, aI r2)]) (L' := []) (by kernel_rfl) (by kernel_rfl) ?_
  refine seqQ_norm ?_
  obtain rfl := Option.some.inj h
  refine W_ret [2] [] (fr' := [(2, aI r2)]) (L' := []) (by kernel_rfl) (by kernel_rfl) ?_
  exact retQ_mk (by kernel_rfl) (by kernel_rfl) (by kernel_rfl)

def pairs_Most_g23 (a0 : (List (List Int))) (x121 : (Int × (List Int))) (r237 : Int) (i306 : Int) (x307 : (List Int)) : Option (List Int) :=
(ck (0 ≤ i306)).bind fun _ =>
bif (bAnd .i64 (bShr .i64 x121.1 i306) (1 : Int)) == (1 : Int) then
((idx x307 x121.1).bind fun v334 =>
(idx a0 (w64 ((List.length a0 : Int) - r237))).bind fun v336 =>
(idx v336 i306).bind fun v338 =>
(idx x307 (bClr .i64 x121.1 (bShl .i64 (1 : Int) i306))).bind fun v340 =>
some (List.set x307 (Int.toNat x121.1) (imax v334 (w64 (v338 + v340)))))
else
(some x307)
@[reducible] def pairs_Most_s24 (a0 : (List (List Int))) (x121 : (Int × (List Int))) (r237 : Int) (i306 : Int) (v : (List Int)) : Fr × LL := ([(0, aD (.slice (.slice tI)) a0), (6, aI (List.length a0 : Int)), (7, .one (.slc 24)), (8, aI x121.1), (9, aI (w64 ((List.length a0 : Int) - r237))), (42, aI (List.length a0 : Int)), (43, aI i306)], [(24, .seq tI v)])
def pairs_Most_b25 (a0 : (List (List Int))) (x121 : (Int × (List Int))) (r237 : Int) (i306 : Int) (v309 : (List Int)) (x307 : (List Int)) : Option (Flow (List Int) (List Int)) :=
(pairs_Most_g23 a0 x121 r237 i306 x307).bind fun v342 =>
some (.next v342)
@[reducible] def pairs_Most_s26 (a0 : (List (List Int))) (x121 : (Int × (List Int))) (r237 : Int) (v : Int × (List Int)) : Fr × LL := ([(0, aD (.slice (.slice tI)) a0), (6, aI (List.length a0 : Int)), (7, .one (.slc 24)), (8, aI x121.1), (9, aI (w64 ((List.length a0 : Int) - r237))), (42, aI (List.length a0 : Int)), (43, aI v.1)], [(24, .seq tI v.2)])
@[reducible] def pairs_Most_s27 (a0 : (List (List Int))) (x121 : (Int × (List Int))) (v : (List Int)) : Fr × LL := ([(0, aD (.slice (.slice tI)) a0), (6, aI (List.length a0 : Int)), (7, .one (.slc 24)), (8, aI x121.1)], [(24, .seq tI v)])
def pairs_Most_b28 (a0 : (List (List Int))) (x121 : (Int × (List Int))) : Option (Flow (Int × (List Int)) (List Int)) :=
bif decide (x121.1 < (bShl .i64 (1 : Int) (List.length a0 : Int))) then
((math_bits_OnesCount (IntKind.wrap .u64 (x121.1))).bind fun r237 =>
(idx x121.2 x121.1).bind fun v239 =>
(forL (pairs_Most_b25 a0 x121 r237) (fun x307 => x307) a0 0 (List.set x121.2 (Int.toNat x121.1) (w64 ((w64 (0 - (List.length a0 : Int))) * (20 : Int))))).bind fun v345 =>
some (.next (w64 (x121.1 + (1 : Int)), v345)))
else
(some (.done x121.2))
@[reducible] def pairs_Most_s29 (a0 : (List (List Int))) (v : (Int × (List Int))) : Fr × LL := ([(0, aD (.slice (.slice tI)) a0), (6, aI (List.length a0 : Int)), (7, .one (.slc 24)), (8, aI v.1)], [(24, .seq tI v.2)])
@[reducible] def pairs_Most_s30 (a0 : (List (List Int))) (v : (List Int)) : Fr × LL := ([(0, aD (.slice (.slice tI)) a0), (6, aI (List.length a0 : Int)), (7, .one (.slc 24))], [(24, .seq tI v)])
def pairs_Most_g53 (v350 : (List Int)) (x576 : (Int × (List Int))) (v578 : (List Int)) (x608 : Int) : Option Bool :=
(ck (0 ≤ x608)).bind fun _ =>
bif (bAnd .i64 (bShr .i64 x576.1 x608) (1 : Int)) == (1 : Int) then
((idx v350 x576.1).bind fun v658 =>
(idx v578 x608).bind fun v660 =>
(idx v350 (bClr .i64 x576.1 (bShl .i64 (1 : Int) x608))).bind fun v662 =>
some (v658 == (w64 (v660 + v662))))
else
(some false)
@[reducible] def pairs_Most_s54 (a0 : (List (List Int))) (v350 : (List Int)) (i575 : Int) (x576 : (Int × (List Int))) (x608 : Int) (v : Bool) : Fr × LL := ([(0, aD (.slice (.slice tI)) a0), (6, aI (List.length a0 : Int)), (7, .one (.slc 24)), (11, .one (.slc 116)), (12, aI x576.1), (13, aI i575), (14, aI x608), (78, aI (List.length a0 : Int)), (79, aI i575), (82, aI (List.length a0 : Int)), (83, aI x608), (112, aB v)], [(24, .seq tI v350), (116, .seq tI x576.2)])
def pairs_Most_b55 (a0 : (List (List Int))) (v350 : (List Int)) (x576 : (Int × (List Int))) (v578 : (List Int)) (x608 : Int) : Option (Flow Int (Int × (List Int))) :=
bif decide (x608 < (List.length a0 : Int)) then
((pairs_Most_g53 v350 x576 v578 x608).bind fun v664 =>
bif v664 then
((ck ((List.length x576.2 : Int) + 1 ≤ 4294967296)).bind fun _ =>
(ck (0 ≤ x608)).bind fun _ =>
some (.done (bClr .i64 x576.1 (bShl .i64 (1 : Int) x608), x576.2 ++ [x608])))
else
(some (.next (w64 (x608 + (1 : Int))))))
else
(some (.done (x576.1, x576.2)))
@[reducible] def pairs_Most_s56 (a0 : (List (List Int))) (v350 : (List Int)) (i575 : Int) (x576 : (Int × (List Int))) (v : Int) : Fr × LL := ([(0, aD (.slice (.slice tI)) a0), (6, aI (List.length a0 : Int)), (7, .one (.slc 24)), (11, .one (.slc 116)), (12, aI x576.1), (13, aI i575), (78, aI (List.length a0 : Int)), (79, aI i575), (82, aI (List.length a0 : Int)), (83, aI v)], [(24, .seq tI v350), (116, .seq tI x576.2)])
@[reducible] def pairs_Most_s57 (a0 : (List (List Int))) (v350 : (List Int)) (i575 : Int) (v : (Int × (List Int))) : Fr × LL := ([(0, aD (.slice (.slice tI)) a0), (6, aI (List.length a0 : Int)), (7, .one (.slc 24)), (11, .one (.slc 116)), (12, aI v.1), (78, aI (List.length a0 : Int)), (79, aI i575)], [(24, .seq tI v350), (116, .seq tI v.2)])
def pairs_Most_b58 (a0 : (List (List Int))) (fuel : Nat) (v350 : (List Int)) (i575 : Int) (v578 : (List Int)) (x576 : (Int × (List Int))) : Option (Flow (Int × (List Int)) (List Int)) :=
(iter (pairs_Most_b55 a0 v350 x576 v578) fuel (0 : Int)).bind fun v669 =>
some (.next (v669.1, v669.2))
@[reducible] def pairs_Most_s59 (a0 : (List (List Int))) (v350 : (List Int)) (v : Int × (Int × (List Int))) : Fr × LL := ([(0, aD (.slice (.slice tI)) a0), (6, aI (List.length a0 : Int)), (7, .one (.slc 24)), (11, .one (.slc 116)), (12, aI v.2.1), (78, aI (List.length a0 : Int)), (79, aI v.1)], [(24, .seq tI v350), (116, .seq tI v.2.2)])
@[reducible] def pairs_Most_s60 (a0 : (List (List Int))) (v350 : (List Int)) (v : (List Int)) : Fr × LL := ([(6, aI (List.length a0 : Int)), (7, .one (.slc 24)), (11, .one (.slc 116))], [(24, .seq tI v350), (116, .seq tI v)])
def pairs_Most (fuel : Nat) (a0 : (List (List Int))) : Option (Int × (List Int) × Int) :=
(pairs_wrong a0).bind fun r1 =>
bif r1 != (0 : Int) then
(some ((0 : Int), [], r1))
else
((ck (0 ≤ (List.length a0 : Int))).bind fun _ =>
(ck (0 ≤ bShl .i64 (1 : Int) (List.length a0 : Int) ∧ bShl .i64 (1 : Int) (List.length a0 : Int) = bShl .i64 (1 : Int) (List.length a0 : Int) ∧ bShl .i64 (1 : Int) (List.length a0 : Int) ≤ 4294967296)).bind fun _ =>
(iter (pairs_Most_b28 a0) fuel ((1 : Int), List.replicate (Int.toNat (bShl .i64 (1 : Int) (List.length a0 : Int))) (0 : Int))).bind fun v350 =>
(forL (pairs_Most_b58 a0 fuel v350) (fun x576 => x576.2) a0 0 (w64 ((bShl .i64 (1 : Int) (List.length a0 : Int)) - (1 : Int)), [])).bind fun v674 =>
(idx v350 (w64 ((bShl .i64 (1 : Int) (List.length a0 : Int)) - (1 : Int)))).bind fun v679 =>
some (v679, v674, (0 : Int)))
theorem pairs_Most_ok {fuel : Nat} {a0 : (List (List Int))} {r : (Int × (List Int) × Int)} (h : pairs_Most fuel a0 = some r) : FnC Try.prog 33 [aD (.slice (.slice tI)) a0] [] (.tup [.dat tI r.1, .dat (.slice tI) r.2.1, .dat tI r.2.2]) [] := by
  refine fnC_of_W (B := bodyOf Try.f33) (n := 130) Try.func33 (by kernel_rfl) (by kernel_rfl) (by kernel_rfl) (by kernel_rfl) (by kernel_rfl) ?_
  intro K
  refine W_seq (by kernel_rfl) ?_
  refine W_run 3 [] [0] [] (fr' := [(0, aD (.slice (.slice tI)) a0)]) (L' := []) (obs := []) (by kernel_rfl) (by kernel_rfl) (by kernel_rfl) allP0 ?_
  refine seqQ_norm ?_
  refine W_seq (by kernel_rfl) ?_
  refine W_seq (by kernel_rfl) ?_
  refine W_region (by kernel_rfl) ?_
  refine WO_run (j := 1) (k := 1) (orcs := []) (kF := [0, 15]) (kL := []) (fr' := [(0, aD (.slice (.slice tI)) a0), (15, aD (.slice (.slice tI)) a0)]) (L' := []) (obs := []) rfl (by kernel_rfl) allP0 ?_
  obtain ⟨r1, h2, h⟩ := bind_of h
  refine WO_call0 (us := [none]) (d := 16) (p := True) (j := 2) rfl ⟨by kernel_rfl, by kernel_rfl, by kernel_rfl⟩ trivial (pairs_wrong_ok h2) (by kernel_rfl) ?_
  refine WO_run (j := 3) (k := 1) (orcs := []) (kF := [0, 5]) (kL := []) (fr' := [(0, aD (.slice (.slice tI)) a0), (5, aI r1)]) (L' := []) (obs := []) rfl (by kernel_rfl) allP0 ?_
  refine WO_fin [0, 5] [] (fr' := [(0, aD (.slice (.slice tI)) a0), (5, aI r1)]) (L' := []) (by kernel_rfl) (by kernel_rfl) ?_
  refine seqQ_norm ?_
  refine W_seq (by kernel_rfl) ?_
  refine W_run 2 [] [0, 5, 18] [] (fr' := [(0, aD (.slice (.slice tI)) a0), (5, aI r1), (18, aB (r1 != (0 : Int)))]) (L' := []) (obs := []) (by kernel_rfl) (by kernel_rfl) (by kernel_rfl) allP0 ?_
  refine seqQ_norm ?_
  refine W_cond (o := .tmp 18) (b := r1 != (0 : Int)) (by kernel_rfl) (by kernel_rfl) (fun h3 => ?_) (fun h3 => ?_)
  · replace h := ofT h3 h
    refine W_seq (by kernel_rfl) ?_
    refine W_run 4 [] [2, 3, 4] [] (fr' := [(2, aI (0 : Int)), (3, .one (.nilS)), (4, aI r1)]) (L' := []) (obs := []) (by kernel_rfl) (by kernel_rfl) (by kernel_rfl) allP0 ?_
    refine seqQ_norm ?_
    obtain rfl := Option.some.inj h
    refine W_cnv 3 (.slice tI) (by kernel_rfl) ?_
    refine W_ret [2, 3, 4] [] (fr' := [(2, aI (0 : Int)), (3, aD (.slice tI) []), (4, aI r1)]) (L' := []) (by kernel_rfl) (by kernel_rfl) ?_
    refine seqQ_ret ?_
    exact retQ_mk (by kernel_rfl) (by kernel_rfl) (by kernel_rfl)
  · replace h := ofF h3 h
    refine W_skip [0] [] (fr' := [(0, aD (.slice (.slice tI)) a0)]) (L' := []) (by kernel_rfl) (by kernel_rfl) ?_
    refine seqQ_norm ?_
    refine W_seq (by kernel_rfl) ?_
    refine W_run 3 [] [0, 6] [] (fr' := [(0, aD (.slice (.slice tI)) a0), (6, aI (List.length a0 : Int))]) (L' := []) (obs := []) (by kernel_rfl) (by kernel_rfl) (by kernel_rfl) allP0 ?_
    refine seqQ_norm ?_
    refine W_seq (by kernel_rfl) ?_
    obtain ⟨_, h4, h⟩ := bind_of h
    replace h4 := ck_some h4
    obtain ⟨_, h5, h⟩ := bind_of h
    replace h5 := ck_some h5
    refine W_run 4 [] [0, 6, 7] [24] (fr' := [(0, aD (.slice (.slice tI)) a0), (6, aI (List.length a0 : Int)), (7, .one (.slc 24))]) (L' := [(24, .seq tI (List.replicate (Int.toNat (bShl .i64 (1 : Int) (List.length a0 : Int))) (0 : Int)))]) (obs := [(0 ≤ (List.length a0 : Int)), 0 ≤ bShl .i64 (1 : Int) (List.length a0 : Int) ∧ bShl .i64 (1 : Int) (List.length a0 : Int) = bShl .i64 (1 : Int) (List.length a0 : Int) ∧ SmallLen (bShl .i64 (1 : Int) (List.length a0 : Int))]) (by kernel_rfl) (by kernel_rfl) (by kernel_rfl) (allP2 h4 (allP1 h5)) ?_
    refine seqQ_norm ?_
    refine W_seq (by kernel_rfl) ?_
    refine W_seq (by kernel_rfl) ?_
    refine W_run 1 [] [0, 6, 7, 8] [24] (fr' := [(0, aD (.slice (.slice tI)) a0), (6, aI (List.length a0 : Int)), (7, .one (.slc 24)), (8, aI (1 : Int))]) (L' := [(24, .seq tI (List.replicate (Int.toNat (bShl .i64 (1 : Int) (List.length a0 : Int))) (0 : Int)))]) (obs := []) (by kernel_rfl) (by kernel_rfl) (by kernel_rfl) allP0 ?_
    refine seqQ_norm ?_
    refine W_block (id := 0) (by kernel_rfl) ?_
    obtain ⟨v350, h351, h⟩ := bind_of h
    refine W_weaken [0, 6, 7, 8] [24] (fr' := ((pairs_Most_s29 a0) ((1 : Int), List.replicate (Int.toNat (bShl .i64 (1 : Int) (List.length a0 : Int))) (0 : Int))).1) (L' := ((pairs_Most_s29 a0) ((1 : Int), List.replicate (Int.toNat (bShl .i64 (1 : Int) (List.length a0 : Int))) (0 : Int))).2) (by kernel_rfl) ?_
    refine W_cutK (W_loop (S := (pairs_Most_s29 a0)) (J := (exQ (.exit 0) (pairs_Most_s30 a0))) (by kernel_rfl) ?_ fuel _ v350 h351) ?_
    · rintro x121 s h
      refine W_seq (by kernel_rfl) ?_
      refine W_seq (by kernel_rfl) ?_
      refine W_run 4 [] [0, 6, 7, 8, 28] [24] (fr' := [(0, aD (.slice (.slice tI)) a0), (6, aI (List.length a0 : Int)), (7, .one (.slc 24)), (8, aI x121.1), (28, aB (decide (x121.1 < (bShl .i64 (1 : Int) (List.length a0 : Int)))))]) (L' := [(24, .seq tI x121.2)]) (obs := [(0 ≤ (List.length a0 : Int))]) (by kernel_rfl) (by kernel_rfl) (by kernel_rfl) (allP1 h4) ?_
      refine seqQ_norm ?_
      refine W_cond (o := .tmp 28) (b := decide (x121.1 < (bShl .i64 (1 : Int) (List.length a0 : Int)))) (by kernel_rfl) (by kernel_rfl) (fun h236 => ?_) (fun h236 => ?_)
      · replace h := ofT h236 h
        refine W_skip [0, 6, 7, 8] [24] (fr' := [(0, aD (.slice (.slice tI)) a0), (6, aI (List.length a0 : Int)), (7, .one (.slc 24)), (8, aI x121.1)]) (L' := [(24, .seq tI x121.2)]) (by kernel_rfl) (by kernel_rfl) ?_
        refine seqQ_norm ?_
        refine W_seq (by kernel_rfl) ?_
        refine W_block (id := 1) (by kernel_rfl) ?_
        refine W_seq (by kernel_rfl) ?_
        refine W_region (by kernel_rfl) ?_
        refine WO_run (j := 3) (k := 3) (orcs := []) (kF := [0, 6, 7, 8, 31, 33]) (kL := [24]) (fr' := [(0, aD (.slice (.slice tI)) a0), (6, aI (List.length a0 : Int)), (7, .one (.slc 24)), (8, aI x121.1), (31, aI (List.length a0 : Int)), (33, aD (.int .u64) (IntKind.wrap .u64 (x121.1)))]) (L' := [(24, .seq tI x121.2)]) (obs := []) rfl (by kernel_rfl) allP0 ?_
        obtain ⟨r237, h238, h⟩ := bind_of h
        refine WO_call0 (us := [none]) (d := 34) (p := True) (j := 4) rfl ⟨by kernel_rfl, by kernel_rfl, by kernel_rfl⟩ trivial (math_bits_OnesCount_ok h238) (by kernel_rfl) ?_
        refine WO_run (j := 6) (k := 2) (orcs := []) (kF := [0, 6, 7, 8, 9]) (kL := [24]) (fr' := [(0, aD (.slice (.slice tI)) a0), (6, aI (List.length a0 : Int)), (7, .one (.slc 24)), (8, aI x121.1), (9, aI (w64 ((List.length a0 : Int) - r237)))]) (L' := [(24, .seq tI x121.2)]) (obs := []) rfl (by kernel_rfl) allP0 ?_
        refine WO_fin [0, 6, 7, 8, 9] [24] (fr' := [(0, aD (.slice (.slice tI)) a0), (6, aI (List.length a0 : Int)), (7, .one (.slc 24)), (8, aI x121.1), (9, aI (w64 ((List.length a0 : Int) - r237)))]) (L' := [(24, .seq tI x121.2)]) (by kernel_rfl) (by kernel_rfl) ?_
        refine seqQ_norm ?_
        refine W_seq (by kernel_rfl) ?_
        obtain ⟨v239, h240, h⟩ := bind_of h
        refine W_run 7 [] [0, 6, 7, 8, 9] [24] (fr' := [(0, aD (.slice (.slice tI)) a0), (6, aI (List.length a0 : Int)), (7, .one (.slc 24)), (8, aI x121.1), (9, aI (w64 ((List.length a0 : Int) - r237)))]) (L' := [(24, .seq tI (List.set x121.2 (Int.toNat x121.1) (w64 ((w64 (0 - (List.length a0 : Int))) * (20 : Int)))))]) (obs := [InR x121.1 (List.length x121.2), InR x121.1 (List.length x121.2)]) (by kernel_rfl) (by kernel_rfl) (by kernel_rfl) (allP2 (InR.of h240) (allP1 (InR.of h240))) ?_
        refine seqQ_norm ?_
        refine W_seq (by kernel_rfl) ?_
        refine W_run 2 [] [0, 6, 7, 8, 9, 42, 43] [24] (fr' := [(0, aD (.slice (.slice tI)) a0), (6, aI (List.length a0 : Int)), (7, .one (.slc 24)), (8, aI x121.1), (9, aI (w64 ((List.length a0 : Int) - r237))), (42, aI (List.length a0 : Int)), (43, aI (0 : Int))]) (L' := [(24, .seq tI (List.set x121.2 (Int.toNat x121.1) (w64 ((w64 (0 - (List.length a0 : Int))) * (20 : Int)))))]) (obs := []) (by kernel_rfl) (by kernel_rfl) (by kernel_rfl) allP0 ?_
        refine seqQ_norm ?_
        refine W_block (id := 2) (by kernel_rfl) ?_
        obtain ⟨v345, h346, h⟩ := bind_of h
        refine W_len (t := 0) (u := (.slice tI)) (xs := a0) (by kernel_rfl) (fun h349 => ?_)
        obtain ⟨h347, h348⟩ := forL_iter h349 h346
        refine W_weaken [0, 6, 7, 8, 9, 42, 43] [24] (fr' := ((pairs_Most_s26 a0 x121 r237) ((0 : Int), List.set x121.2 (Int.toNat x121.1) (w64 ((w64 (0 - (List.length a0 : Int))) * (20 : Int))))).1) (L' := ((pairs_Most_s26 a0 x121 r237) ((0 : Int), List.set x121.2 (Int.toNat x121.1) (w64 ((w64 (0 - (List.length a0 : Int))) * (20 : Int))))).2) (by kernel_rfl) ?_
        refine W_cutK (W_loop (S := (pairs_Most_s26 a0 x121 r237)) (J := (exQ (.exit 2) (pairs_Most_s27 a0 x121))) (by kernel_rfl) ?_ h347 _ v345 h348) ?_
        · rintro ⟨i306, x307⟩ s h
          refine W_seq (by kernel_rfl) ?_
          refine W_run 1 [] [0, 6, 7, 8, 9, 42, 43, 44] [24] (fr' := [(0, aD (.slice (.slice tI)) a0), (6, aI (List.length a0 : Int)), (7, .one (.slc 24)), (8, aI x121.1), (9, aI (w64 ((List.length a0 : Int) - r237))), (42, aI (List.length a0 : Int)), (43, aI i306), (44, aB (decide (i306 < (List.length a0 : Int))))]) (L' := [(24, .seq tI x307)]) (obs := []) (by kernel_rfl) (by kernel_rfl) (by kernel_rfl) allP0 ?_
          refine seqQ_norm ?_
          refine W_seq (by kernel_rfl) ?_
          refine W_cond (o := .tmp 44) (b := decide (i306 < (List.length a0 : Int))) (by kernel_rfl) (by kernel_rfl) (fun h311 => ?_) (fun h311 => ?_)
          · replace h := stepL_true h311 h
            obtain ⟨v309, _, h310, h, rfl⟩ := h
            refine W_skip [0, 6, 7, 8, 9, 42, 43] [24] (fr' := [(0, aD (.slice (.slice tI)) a0), (6, aI (List.length a0 : Int)), (7, .one (.slc 24)), (8, aI x121.1), (9, aI (w64 ((List.length a0 : Int) - r237))), (42, aI (List.length a0 : Int)), (43, aI i306)]) (L' := [(24, .seq tI x307)]) (by kernel_rfl) (by kernel_rfl) ?_
            refine seqQ_norm ?_
            refine W_seq (by kernel_rfl) ?_
            obtain ⟨v342, h343, h⟩ := bind_of h
            refine W_cutK (Q' := (exQ .normal (pairs_Most_s24 a0 x121 r237 i306)) v342) ?_ ?_
            · replace h := h343
              refine W_block (id := 3) (by kernel_rfl) ?_
              refine W_seq (by kernel_rfl) ?_
              refine W_run 2 [] [0, 6, 7, 8, 9, 10, 42, 43] [24] (fr' := [(0, aD (.slice (.slice tI)) a0), (6, aI (List.length a0 : Int)), (7, .one (.slc 24)), (8, aI x121.1), (9, aI (w64 ((List.length a0 : Int) - r237))), (10, aI i306), (42, aI (List.length a0 : Int)), (43, aI i306)]) (L' := [(24, .seq tI x307)]) (obs := []) (by kernel_rfl) (by kernel_rfl) (by kernel_rfl) allP0 ?_
              refine seqQ_norm ?_
              refine W_seq (by kernel_rfl) ?_
              obtain ⟨_, h332, h⟩ := bind_of h
              replace h332 := ck_some h332
              refine W_run 5 [] [0, 6, 7, 8, 9, 10, 42, 43, 50] [24] (fr' := [(0, aD (.slice (.slice tI)) a0), (6, aI (List.length a0 : Int)), (7, .one (.slc 24)), (8, aI x121.1), (9, aI (w64 ((List.length a0 : Int) - r237))), (10, aI i306), (42, aI (List.length a0 : Int)), (43, aI i306), (50, aB ((bAnd .i64 (bShr .i64 x121.1 i306) (1 : Int)) == (1 : Int)))]) (L' := [(24, .seq tI x307)]) (obs := [(0 ≤ i306)]) (by kernel_rfl) (by kernel_rfl) (by kernel_rfl) (allP1 h332) ?_
              refine seqQ_norm ?_
              refine W_cond (o := .tmp 50) (b := (bAnd .i64 (bShr .i64 x121.1 i306) (1 : Int)) == (1 : Int)) (by kernel_rfl) (by kernel_rfl) (fun h333 => ?_) (fun h333 => ?_)
              · replace h := ofT h333 h
                obtain ⟨v334, h335, h⟩ := bind_of h
                obtain ⟨v336, h337, h⟩ := bind_of h
                obtain ⟨v338, h339, h⟩ := bind_of h
                obtain ⟨v340, h341, h⟩ := bind_of h
                obtain rfl := Option.some.inj h
                refine W_draw2 22 [(11, .val (.dat tI v334)), (17, .val (.dat (.slice tI) v336)), (23, .val (.dat tI v338)), (39, .val (.dat tI v340))] [] [0, 6, 7, 8, 9, 42, 43] [24] (fr' := [(0, aD (.slice (.slice tI)) a0), (6, aI (List.length a0 : Int)), (7, .one (.slc 24)), (8, aI x121.1), (9, aI (w64 ((List.length a0 : Int) - r237))), (42, aI (List.length a0 : Int)), (43, aI i306)]) (L' := [(24, .seq tI (List.set x307 (Int.toNat x121.1) (imax v334 (w64 (v338 + v340)))))]) (out := [(51, .one (.slc 24)), (52, aI x121.1), (53, .one (.slc 24)), (54, aI x121.1), (55, .one (.eptr 24 1 x121.1 0)), (56, aI v334), (57, aD (.slice (.slice tI)) a0), (58, aI (w64 ((List.length a0 : Int) - r237))), (59, .one (.dptr (.slice tI) v336)), (60, aD (.slice tI) v336), (61, aI i306), (62, .one (.dptr tI v338)), (63, aI v338), (64, .one (.slc 24)), (65, aI x121.1), (66, aI i306), (67, aI (bShl .i64 (1 : Int) i306)), (68, aI (bClr .i64 x121.1 (bShl .i64 (1 : Int) i306))), (69, .one (.eptr 24 1 (bClr .i64 x121.1 (bShl .i64 (1 : Int) i306)) 0)), (70, aI v340), (71, aI (w64 (v338 + v340))), (72, aI (imax v334 (w64 (v338 + v340))))]) (obs := [InR x121.1 (List.length x307), Idx x307 x121.1 v334, Idx a0 (w64 ((List.length a0 : Int) - r237)) v336, Idx v336 i306 v338, (0 ≤ i306), InR (bClr .i64 x121.1 (bShl .i64 (1 : Int) i306)) (List.length x307), Idx x307 (bClr .i64 x121.1 (bShl .i64 (1 : Int) i306)) v340]) (obs2 := [InR x121.1 (List.length x307), InR x121.1 (List.length x307)]) (calls := []) (by kernel_rfl) (by kernel_rfl) (by kernel_rfl) (by kernel_rfl) (allP2 (InR.of h335) (allP2 (Idx.of h335) (allP2 (Idx.of h337) (allP2 (Idx.of h339) (allP2 h332 (allP2 (InR.of h341) (allP1 (Idx.of h341)))))))) allC0 (by kernel_rfl) (allP2 (InR.of h335) (allP1 (InR.of h335))) ?_
                refine blockQ_norm ?_
                exact exQ_mk (by kernel_rfl) (by kernel_rfl)
              · replace h := ofF h333 h
                obtain rfl := Option.some.inj h
                refine W_skip [0, 6, 7, 8, 9, 42, 43] [24] (fr' := [(0, aD (.slice (.slice tI)) a0), (6, aI (List.length a0 : Int)), (7, .one (.slc 24)), (8, aI x121.1), (9, aI (w64 ((List.length a0 : Int) - r237))), (42, aI (List.length a0 : Int)), (43, aI i306)]) (L' := [(24, .seq tI x307)]) (by kernel_rfl) (by kernel_rfl) ?_
                refine blockQ_norm ?_
                exact exQ_mk (by kernel_rfl) (by kernel_rfl)
            · intro e fr L hJ
              obtain ⟨rfl, rfl, rfl⟩ := hJ
              refine LT_keep [0, 6, 7, 8, 9, 42, 43] [24] (fr' := [(0, aD (.slice (.slice tI)) a0), (6, aI (List.length a0 : Int)), (7, .one (.slc 24)), (8, aI x121.1), (9, aI (w64 ((List.length a0 : Int) - r237))), (42, aI (List.length a0 : Int)), (43, aI i306)]) (L' := [(24, .seq tI v342)]) (by kernel_rfl) ?_
              refine seqQ_norm ?_
              obtain rfl := Option.some.inj h
              refine W_run 2 [] [0, 6, 7, 8, 9, 42, 43] [24] (fr' := [(0, aD (.slice (.slice tI)) a0), (6, aI (List.length a0 : Int)), (7, .one (.slc 24)), (8, aI x121.1), (9, aI (w64 ((List.length a0 : Int) - r237))), (42, aI (List.length a0 : Int)), (43, aI (w64 (i306 + (1 : Int))))]) (L' := [(24, .seq tI v342)]) (obs := []) (by kernel_rfl) (by kernel_rfl) (by kernel_rfl) allP0 ?_
              exact round_next' (by kernel_rfl) (by kernel_rfl)
          · obtain rfl := stepL_false h311 h
            refine W_exit (id := 2) [0, 6, 7, 8] [24] (fr' := [(0, aD (.slice (.slice tI)) a0), (6, aI (List.length a0 : Int)), (7, .one (.slc 24)), (8, aI x121.1)]) (L' := [(24, .seq tI x307)]) (by kernel_rfl) (by kernel_rfl) ?_
            refine seqQ_exit ?_
            refine round_exit ?_
            exact exQ_mk (by kernel_rfl) (by kernel_rfl)
        · intro e fr L hJ
          obtain ⟨rfl, rfl, rfl⟩ := hJ
          refine LT_keep [0, 6, 7, 8] [24] (fr' := [(0, aD (.slice (.slice tI)) a0), (6, aI (List.length a0 : Int)), (7, .one (.slc 24)), (8, aI x121.1)]) (L' := [(24, .seq tI v345)]) (by kernel_rfl) ?_
          refine blockQ_hit ?_
          refine blockQ_norm ?_
          refine seqQ_norm ?_
          obtain rfl := Option.some.inj h
          refine W_run 3 [] [0, 6, 7, 8] [24] (fr' := [(0, aD (.slice (.slice tI)) a0), (6, aI (List.length a0 : Int)), (7, .one (.slc 24)), (8, aI (w64 (x121.1 + (1 : Int))))]) (L' := [(24, .seq tI v345)]) (obs := []) (by kernel_rfl) (by kernel_rfl) (by kernel_rfl) allP0 ?_
          exact round_next' (by kernel_rfl) (by kernel_rfl)
      · replace h := ofF h236 h
        obtain rfl := Option.some.inj h
        refine W_exit (id := 0) [0, 6, 7] [24] (fr' := [(0, aD (.slice (.slice tI)) a0), (6, aI (List.length a0 : Int)), (7, .one (.slc 24))]) (L' := [(24, .seq tI x121.2)]) (by kernel_rfl) (by kernel_rfl) ?_
        refine seqQ_exit ?_
        refine round_exit ?_
        exact exQ_mk (by kernel_rfl) (by kernel_rfl)
    · intro e fr L hJ
      obtain ⟨rfl, rfl, rfl⟩ := hJ
      refine LT_keep [0, 6, 7] [24] (fr' := [(0, aD (.slice (.slice tI)) a0), (6, aI (List.length a0 : Int)), (7, .one (.slc 24))]) (L' := [(24, .seq tI v350)]) (by kernel_rfl) ?_
      refine blockQ_hit ?_
      refine seqQ_norm ?_
      refine W_seq (by kernel_rfl) ?_
      refine W_run 1 [] [0, 6, 7, 11] [24] (fr' := [(0, aD (.slice (.slice tI)) a0), (6, aI (List.length a0 : Int)), (7, .one (.slc 24)), (11, .one (.nilS))]) (L' := [(24, .seq tI v350)]) (obs := []) (by kernel_rfl) (by kernel_rfl) (by kernel_rfl) allP0 ?_
      refine seqQ_norm ?_
      refine W_seq (by kernel_rfl) ?_
      refine W_run 4 [] [0, 6, 7, 11, 12] [24] (fr' := [(0, aD (.slice (.slice tI)) a0), (6, aI (List.length a0 : Int)), (7, .one (.slc 24)), (11, .one (.nilS)), (12, aI (w64 ((bShl .i64 (1 : Int) (List.length a0 : Int)) - (1 : Int))))]) (L' := [(24, .seq tI v350)]) (obs := [(0 ≤ (List.length a0 : Int))]) (by kernel_rfl) (by kernel_rfl) (by kernel_rfl) (allP1 h4) ?_
      refine seqQ_norm ?_
      refine W_seq (by kernel_rfl) ?_
      refine W_seq (by kernel_rfl) ?_
      refine W_run 2 [] [0, 6, 7, 11, 12, 78, 79] [24] (fr' := [(0, aD (.slice (.slice tI)) a0), (6, aI (List.length a0 : Int)), (7, .one (.slc 24)), (11, .one (.nilS)), (12, aI (w64 ((bShl .i64 (1 : Int) (List.length a0 : Int)) - (1 : Int)))), (78, aI (List.length a0 : Int)), (79, aI (0 : Int))]) (L' := [(24, .seq tI v350)]) (obs := []) (by kernel_rfl) (by kernel_rfl) (by kernel_rfl) allP0 ?_
      refine seqQ_norm ?_
      refine W_block (id := 4) (by kernel_rfl) ?_
      obtain ⟨v674, h675, h⟩ := bind_of h
      refine W_len (t := 0) (u := (.slice tI)) (xs := a0) (by kernel_rfl) (fun h678 => ?_)
      obtain ⟨h676, h677⟩ := forL_iter h678 h675
      refine W_mine 11 116 tI (by kernel_rfl) ?_
      refine W_weaken [0, 6, 7, 11, 12, 78, 79] [24, 116] (fr' := ((pairs_Most_s59 a0 v350) ((0 : Int), (w64 ((bShl .i64 (1 : Int) (List.length a0 : Int)) - (1 : Int)), []))).1) (L' := ((pairs_Most_s59 a0 v350) ((0 : Int), (w64 ((bShl .i64 (1 : Int) (List.length a0 : Int)) - (1 : Int)), []))).2) (by kernel_rfl) ?_
      refine W_cutK (W_loop (S := (pairs_Most_s59 a0 v350)) (J := (exQ (.exit 4) (pairs_Most_s60 a0 v350))) (by kernel_rfl) ?_ h676 _ v674 h677) ?_
      · rintro ⟨i575, x576⟩ s h
        refine W_seq (by kernel_rfl) ?_
        refine W_run 1 [] [0, 6, 7, 11, 12, 78, 79, 80] [24, 116] (fr' := [(0, aD (.slice (.slice tI)) a0), (6, aI (List.length a0 : Int)), (7, .one (.slc 24)), (11, .one (.slc 116)), (12, aI x576.1), (78, aI (List.length a0 : Int)), (79, aI i575), (80, aB (decide (i575 < (List.length a0 : Int))))]) (L' := [(24, .seq tI v350), (116, .seq tI x576.2)]) (obs := []) (by kernel_rfl) (by kernel_rfl) (by kernel_rfl) allP0 ?_
        refine seqQ_norm ?_
        refine W_seq (by kernel_rfl) ?_
        refine W_cond (o := .tmp 80) (b := decide (i575 < (List.length a0 : Int))) (by kernel_rfl) (by kernel_rfl) (fun h580 => ?_) (fun h580 => ?_)
        · replace h := stepL_true h580 h
          obtain ⟨v578, _, h579, h, rfl⟩ := h
          refine W_skip [0, 6, 7, 11, 12, 78, 79] [24, 116] (fr' := [(0, aD (.slice (.slice tI)) a0), (6, aI (List.length a0 : Int)), (7, .one (.slc 24)), (11, .one (.slc 116)), (12, aI x576.1), (78, aI (List.length a0 : Int)), (79, aI i575)]) (L' := [(24, .seq tI v350), (116, .seq tI x576.2)]) (by kernel_rfl) (by kernel_rfl) ?_
          refine seqQ_norm ?_
          refine W_seq (by kernel_rfl) ?_
          refine W_block (id := 5) (by kernel_rfl) ?_
          refine W_seq (by kernel_rfl) ?_
          refine W_run 2 [] [0, 6, 7, 11, 12, 13, 78, 79] [24, 116] (fr' := [(0, aD (.slice (.slice tI)) a0), (6, aI (List.length a0 : Int)), (7, .one (.slc 24)), (11, .one (.slc 116)), (12, aI x576.1), (13, aI i575), (78, aI (List.length a0 : Int)), (79, aI i575)]) (L' := [(24, .seq tI v350), (116, .seq tI x576.2)]) (obs := []) (by kernel_rfl) (by kernel_rfl) (by kernel_rfl) allP0 ?_
          refine seqQ_norm ?_
          refine W_seq (by kernel_rfl) ?_
          refine W_run 2 [] [0, 6, 7, 11, 12, 13, 78, 79, 82, 83] [24, 116] (fr' := [(0, aD (.slice (.slice tI)) a0), (6, aI (List.length a0 : Int)), (7, .one (.slc 24)), (11, .one (.slc 116)), (12, aI x576.1), (13, aI i575), (78, aI (List.length a0 : Int)), (79, aI i575), (82, aI (List.length a0 : Int)), (83, aI (0 : Int))]) (L' := [(24, .seq tI v350), (116, .seq tI x576.2)]) (obs := []) (by kernel_rfl) (by kernel_rfl) (by kernel_rfl) allP0 ?_
          refine seqQ_norm ?_
          refine W_block (id := 6) (by kernel_rfl) ?_
          obtain ⟨v669, h670, h⟩ := bind_of h
          refine W_weaken [0, 6, 7, 11, 12, 13, 78, 79, 82, 83] [24, 116] (fr' := ((pairs_Most_s56 a0 v350 i575 x576) (0 : Int)).1) (L' := ((pairs_Most_s56 a0 v350 i575 x576) (0 : Int)).2) (by kernel_rfl) ?_
          refine W_cutK (W_loop (S := (pairs_Most_s56 a0 v350 i575 x576)) (J := (exQ (.exit 6) (pairs_Most_s57 a0 v350 i575))) (by kernel_rfl) ?_ fuel _ v669 h670) ?_
          · rintro x608 s h
            refine W_seq (by kernel_rfl) ?_
            refine W_run 1 [] [0, 6, 7, 11, 12, 13, 78, 79, 82, 83, 84] [24, 116] (fr' := [(0, aD (.slice (.slice tI)) a0), (6, aI (List.length a0 : Int)), (7, .one (.slc 24)), (11, .one (.slc 116)), (12, aI x576.1), (13, aI i575), (78, aI (List.length a0 : Int)), (79, aI i575), (82, aI (List.length a0 : Int)), (83, aI x608), (84, aB (decide (x608 < (List.length a0 : Int))))]) (L' := [(24, .seq tI v350), (116, .seq tI x576.2)]) (obs := []) (by kernel_rfl) (by kernel_rfl) (by kernel_rfl) allP0 ?_
            refine seqQ_norm ?_
            refine W_seq (by kernel_rfl) ?_
            refine W_cond (o := .tmp 84) (b := decide (x608 < (List.length a0 : Int))) (by kernel_rfl) (by kernel_rfl) (fun h639 => ?_) (fun h639 => ?_)
            · replace h := ofT h639 h
              refine W_skip [0, 6, 7, 11, 12, 13, 78, 79, 82, 83] [24, 116] (fr' := [(0, aD (.slice (.slice tI)) a0), (6, aI (List.length a0 : Int)), (7, .one (.slc 24)), (11, .one (.slc 116)), (12, aI x576.1), (13, aI i575), (78, aI (List.length a0 : Int)), (79, aI i575), (82, aI (List.length a0 : Int)), (83, aI x608)]) (L' := [(24, .seq tI v350), (116, .seq tI x576.2)]) (by kernel_rfl) (by kernel_rfl) ?_
              refine seqQ_norm ?_
              refine W_seq (by kernel_rfl) ?_
              refine W_block (id := 7) (by kernel_rfl) ?_
              refine W_seq (by kernel_rfl) ?_
              refine W_run 2 [] [0, 6, 7, 11, 12, 13, 14, 78, 79, 82, 83] [24, 116] (fr' := [(0, aD (.slice (.slice tI)) a0), (6, aI (List.length a0 : Int)), (7, .one (.slc 24)), (11, .one (.slc 116)), (12, aI x576.1), (13, aI i575), (14, aI x608), (78, aI (List.length a0 : Int)), (79, aI i575), (82, aI (List.length a0 : Int)), (83, aI x608)]) (L' := [(24, .seq tI v350), (116, .seq tI x576.2)]) (obs := []) (by kernel_rfl) (by kernel_rfl) (by kernel_rfl) allP0 ?_
              refine seqQ_norm ?_
              refine W_seq (by kernel_rfl) ?_
              obtain ⟨v664, h665, h⟩ := bind_of h
              refine W_cutK (Q' := (exQ .normal (pairs_Most_s54 a0 v350 i575 x576 x608)) v664) ?_ ?_
              · replace h := h665
                obtain ⟨_, h656, h⟩ := bind_of h
                replace h656 := ck_some h656
                rcases Bool.eq_false_or_eq_true ((bAnd .i64 (bShr .i64 x576.1 x608) (1 : Int)) == (1 : Int)) with h657 | h657
                · replace h := ofT h657 h
                  obtain ⟨v658, h659, h⟩ := bind_of h
                  obtain ⟨v660, h661, h⟩ := bind_of h
                  obtain ⟨v662, h663, h⟩ := bind_of h
                  obtain rfl := Option.some.inj h
                  refine W_draw2 27 [(12, .known true), (14, .known true), (16, .known true), (18, .known true), (19, .val (.dat tI v658)), (20, .known true), (22, .known true), (24, .known true), (25, .val (.dat (.slice tI) v578)), (26, .known true), (28, .known true), (30, .known true), (31, .val (.dat tI v660)), (32, .known true), (34, .known true), (36, .known true), (38, .known true), (40, .known true), (42, .known true), (44, .known true), (46, .known true), (47, .val (.dat tI v662)), (48, .known true), (50, .known true), (53, .val (.dat .bool true))] [] [0, 6, 7, 11, 12, 13, 14, 78, 79, 82, 83, 112] [24, 116] (fr' := [(0, aD (.slice (.slice tI)) a0), (6, aI (List.length a0 : Int)), (7, .one (.slc 24)), (11, .one (.slc 116)), (12, aI x576.1), (13, aI i575), (14, aI x608), (78, aI (List.length a0 : Int)), (79, aI i575), (82, aI (List.length a0 : Int)), (83, aI x608), (112, aB (v658 == (w64 (v660 + v662))))]) (L' := [(24, .seq tI v350), (116, .seq tI x576.2)]) (out := [(86, aI x576.1), (87, aI x608), (88, aI (bShr .i64 x576.1 x608)), (89, aI (bAnd .i64 (bShr .i64 x576.1 x608) (1 : Int))), (90, aB ((bAnd .i64 (bShr .i64 x576.1 x608) (1 : Int)) == (1 : Int))), (91, aB ((bAnd .i64 (bShr .i64 x576.1 x608) (1 : Int)) == (1 : Int))), (92, .one (.slc 24)), (93, aI x576.1), (94, .one (.eptr 24 1 x576.1 0)), (95, aI v658), (96, aD (.slice (.slice tI)) a0), (97, aI i575), (98, .one (.dptr (.slice tI) v578)), (99, aD (.slice tI) v578), (100, aI x608), (101, .one (.dptr tI v660)), (102, aI v660), (103, .one (.slc 24)), (104, aI x576.1), (105, aI x608), (106, aI (bShl .i64 (1 : Int) x608)), (107, aI (bClr .i64 x576.1 (bShl .i64 (1 : Int) x608))), (108, .one (.eptr 24 1 (bClr .i64 x576.1 (bShl .i64 (1 : Int) x608)) 0)), (109, aI v662), (110, aI (w64 (v660 + v662))), (111, aB (v658 == (w64 (v660 + v662)))), (112, aB (v658 == (w64 (v660 + v662))))]) (obs := [(0 ≤ x608), (((bAnd .i64 (bShr .i64 x576.1 x608) (1 : Int)) == (1 : Int)) = true), (((bAnd .i64 (bShr .i64 x576.1 x608) (1 : Int)) == (1 : Int)) = true), (((bAnd .i64 (bShr .i64 x576.1 x608) (1 : Int)) == (1 : Int)) = true), InR x576.1 (List.length v350), (((bAnd .i64 (bShr .i64 x576.1 x608) (1 : Int)) == (1 : Int)) = true), Idx v350 x576.1 v658, (((bAnd .i64 (bShr .i64 x576.1 x608) (1 : Int)) == (1 : Int)) = true), (((bAnd .i64 (bShr .i64 x576.1 x608) (1 : Int)) == (1 : Int)) = true), (((bAnd .i64 (bShr .i64 x576.1 x608) (1 : Int)) == (1 : Int)) = true), Idx a0 i575 v578, (((bAnd .i64 (bShr .i64 x576.1 x608) (1 : Int)) == (1 : Int)) = true), (((bAnd .i64 (bShr .i64 x576.1 x608) (1 : Int)) == (1 : Int)) = true), (((bAnd .i64 (bShr .i64 x576.1 x608) (1 : Int)) == (1 : Int)) = true), Idx v578 x608 v660, (((bAnd .i64 (bShr .i64 x576.1 x608) (1 : Int)) == (1 : Int)) = true), (((bAnd .i64 (bShr .i64 x576.1 x608) (1 : Int)) == (1 : Int)) = true), (((bAnd .i64 (bShr .i64 x576.1 x608) (1 : Int)) == (1 : Int)) = true), (((bAnd .i64 (bShr .i64 x576.1 x608) (1 : Int)) == (1 : Int)) = true), (((bAnd .i64 (bShr .i64 x576.1 x608) (1 : Int)) == (1 : Int)) = true), (0 ≤ x608), (((bAnd .i64 (bShr .i64 x576.1 x608) (1 : Int)) == (1 : Int)) = true), (((bAnd .i64 (bShr .i64 x576.1 x608) (1 : Int)) == (1 : Int)) = true), InR (bClr .i64 x576.1 (bShl .i64 (1 : Int) x608)) (List.length v350), (((bAnd .i64 (bShr .i64 x576.1 x608) (1 : Int)) == (1 : Int)) = true), Idx v350 (bClr .i64 x576.1 (bShl .i64 (1 : Int) x608)) v662, (((bAnd .i64 (bShr .i64 x576.1 x608) (1 : Int)) == (1 : Int)) = true), (((bAnd .i64 (bShr .i64 x576.1 x608) (1 : Int)) == (1 : Int)) = true), (((bAnd .i64 (bShr .i64 x576.1 x608) (1 : Int)) == (1 : Int)) = true)]) (obs2 := []) (calls := []) (by kernel_rfl) (by kernel_rfl) (by kernel_rfl) (by kernel_rfl) (allP2 h656 (allP2 h657 (allP2 h657 (allP2 h657 (allP2 (InR.of h659) (allP2 h657 (allP2 (Idx.of h659) (allP2 h657 (allP2 h657 (allP2 h657 (allP2 (Idx.of h579) (allP2 h657 (allP2 h657 (allP2 h657 (allP2 (Idx.of h661) (allP2 h657 (allP2 h657 (allP2 h657 (allP2 h657 (allP2 h657 (allP2 h656 (allP2 h657 (allP2 h657 (allP2 (InR.of h663) (allP2 h657 (allP2 (Idx.of h663) (allP2 h657 (allP2 h657 (allP1 h657))))))))))))))))))))))))))))) allC0 (by kernel_rfl) allP0 ?_
                  exact exQ_mk (by kernel_rfl) (by kernel_rfl)
                · replace h := ofF h657 h
                  obtain rfl := Option.some.inj h
                  refine W_draw2 27 [(12, .known false), (14, .known false), (16, .known false), (18, .known false), (20, .known false), (22, .known false), (24, .known false), (26, .known false), (28, .known false), (30, .known false), (32, .known false), (34, .known false), (36, .known false), (38, .known false), (40, .known false), (42, .known false), (44, .known false), (46, .known false), (48, .known false), (50, .known false), (53, .val (.dat .bool false))] [] [0, 6, 7, 11, 12, 13, 14, 78, 79, 82, 83, 112] [24, 116] (fr' := [(0, aD (.slice (.slice tI)) a0), (6, aI (List.length a0 : Int)), (7, .one (.slc 24)), (11, .one (.slc 116)), (12, aI x576.1), (13, aI i575), (14, aI x608), (78, aI (List.length a0 : Int)), (79, aI i575), (82, aI (List.length a0 : Int)), (83, aI x608), (112, aB false)]) (L' := [(24, .seq tI v350), (116, .seq tI x576.2)]) (out := [(86, aI x576.1), (87, aI x608), (88, aI (bShr .i64 x576.1 x608)), (89, aI (bAnd .i64 (bShr .i64 x576.1 x608) (1 : Int))), (90, aB ((bAnd .i64 (bShr .i64 x576.1 x608) (1 : Int)) == (1 : Int))), (91, aB ((bAnd .i64 (bShr .i64 x576.1 x608) (1 : Int)) == (1 : Int))), (92, .tup []), (93, .tup []), (94, .tup []), (95, .tup []), (96, .tup []), (97, .tup []), (98, .tup []), (99, .tup []), (100, .tup []), (101, .tup []), (102, .tup []), (103, .tup []), (104, .tup []), (105, .tup []), (106, .tup []), (107, .tup []), (108, .tup []), (109, .tup []), (110, .tup []), (111, .tup []), (112, aB false)]) (obs := [(0 ≤ x608), (((bAnd .i64 (bShr .i64 x576.1 x608) (1 : Int)) == (1 : Int)) = false), (((bAnd .i64 (bShr .i64 x576.1 x608) (1 : Int)) == (1 : Int)) = false), (((bAnd .i64 (bShr .i64 x576.1 x608) (1 : Int)) == (1 : Int)) = false), (((bAnd .i64 (bShr .i64 x576.1 x608) (1 : Int)) == (1 : Int)) = false), (((bAnd .i64 (bShr .i64 x576.1 x608) (1 : Int)) == (1 : Int)) = false), (((bAnd .i64 (bShr .i64 x576.1 x608) (1 : Int)) == (1 : Int)) = false), (((bAnd .i64 (bShr .i64 x576.1 x608) (1 : Int)) == (1 : Int)) = false), (((bAnd .i64 (bShr .i64 x576.1 x608) (1 : Int)) == (1 : Int)) = false), (((bAnd .i64 (bShr .i64 x576.1 x608) (1 : Int)) == (1 : Int)) = false), (((bAnd .i64 (bShr .i64 x576.1 x608) (1 : Int)) == (1 : Int)) = false), (((bAnd .i64 (bShr .i64 x576.1 x608) (1 : Int)) == (1 : Int)) = false), (((bAnd .i64 (bShr .i64 x576.1 x608) (1 : Int)) == (1 : Int)) = false), (((bAnd .i64 (bShr .i64 x576.1 x608) (1 : Int)) == (1 : Int)) = false), (((bAnd .i64 (bShr .i64 x576.1 x608) (1 : Int)) == (1 : Int)) = false), (((bAnd .i64 (bShr .i64 x576.1 x608) (1 : Int)) == (1 : Int)) = false), (((bAnd .i64 (bShr .i64 x576.1 x608) (1 : Int)) == (1 : Int)) = false), (((bAnd .i64 (bShr .i64 x576.1 x608) (1 : Int)) == (1 : Int)) = false), (((bAnd .i64 (bShr .i64 x576.1 x608) (1 : Int)) == (1 : Int)) = false), (((bAnd .i64 (bShr .i64 x576.1 x608) (1 : Int)) == (1 : Int)) = false), (((bAnd .i64 (bShr .i64 x576.1 x608) (1 : Int)) == (1 : Int)) = false), (((bAnd .i64 (bShr .i64 x576.1 x608) (1 : Int)) == (1 : Int)) = false)]) (obs2 := []) (calls := []) (by kernel_rfl) (by kernel_rfl) (by kernel_rfl) (by kernel_rfl) (allP2 h656 (allP2 h657 (allP2 h657 (allP2 h657 (allP2 h657 (allP2 h657 (allP2 h657 (allP2 h657 (allP2 h657 (allP2 h657 (allP2 h657 (allP2 h657 (allP2 h657 (allP2 h657 (allP2 h657 (allP2 h657 (allP2 h657 (allP2 h657 (allP2 h657 (allP2 h657 (allP2 h657 (allP1 h657)))))))))))))))))))))) allC0 (by kernel_rfl) allP0 ?_
                  exact exQ_mk (by kernel_rfl) (by kernel_rfl)
              · intro e fr L hJ
                obtain ⟨rfl, rfl, rfl⟩ := hJ
                refine LT_keep [0, 6, 7, 11, 12, 13, 14, 78, 79, 82, 83, 112] [24, 116] (fr' := [(0, aD (.slice (.slice tI)) a0), (6, aI (List.length a0 : Int)), (7, .one (.slc 24)), (11, .one (.slc 116)), (12, aI x576.1), (13, aI i575), (14, aI x608), (78, aI (List.length a0 : Int)), (79, aI i575), (82, aI (List.length a0 : Int)), (83, aI x608), (112, aB v664)]) (L' := [(24, .seq tI v350), (116, .seq tI x576.2)]) (by kernel_rfl) ?_
                refine seqQ_norm ?_
                refine W_cond (o := .tmp 112) (b := v664) (by kernel_rfl) (by kernel_rfl) (fun h666 => ?_) (fun h666 => ?_)
                · replace h := ofT h666 h
                  refine W_seq (by kernel_rfl) ?_
                  obtain ⟨_, h667, h⟩ := bind_of h
                  replace h667 := ck_some h667
                  refine W_run 5 [] [0, 6, 7, 11, 12, 14, 78, 79] [24, 116] (fr' := [(0, aD (.slice (.slice tI)) a0), (6, aI (List.length a0 : Int)), (7, .one (.slc 24)), (11, .one (.slc 116)), (12, aI x576.1), (14, aI x608), (78, aI (List.length a0 : Int)), (79, aI i575)]) (L' := [(24, .seq tI v350), (116, .seq tI (x576.2 ++ [x608]))]) (obs := [SmallLen (List.length x576.2 + List.length [x608])]) (by kernel_rfl) (by kernel_rfl) (by kernel_rfl) (allP1 h667) ?_
                  refine seqQ_norm ?_
                  refine W_seq (by kernel_rfl) ?_
                  obtain ⟨_, h668, h⟩ := bind_of h
                  replace h668 := ck_some h668
                  refine W_run 5 [] [0, 6, 7, 11, 12, 78, 79] [24, 116] (fr' := [(0, aD (.slice (.slice tI)) a0), (6, aI (List.length a0 : Int)), (7, .one (.slc 24)), (11, .one (.slc 116)), (12, aI (bClr .i64 x576.1 (bShl .i64 (1 : Int) x608))), (78, aI (List.length a0 : Int)), (79, aI i575)]) (L' := [(24, .seq tI v350), (116, .seq tI (x576.2 ++ [x608]))]) (obs := [(0 ≤ x608)]) (by kernel_rfl) (by kernel_rfl) (by kernel_rfl) (allP1 h668) ?_
                  refine seqQ_norm ?_
                  obtain rfl := Option.some.inj h
                  refine W_exit (id := 6) [0, 6, 7, 11, 12, 78, 79] [24, 116] (fr' := [(0, aD (.slice (.slice tI)) a0), (6, aI (List.length a0 : Int)), (7, .one (.slc 24)), (11, .one (.slc 116)), (12, aI (bClr .i64 x576.1 (bShl .i64 (1 : Int) x608))), (78, aI (List.length a0 : Int)), (79, aI i575)]) (L' := [(24, .seq tI v350), (116, .seq tI (x576.2 ++ [x608]))]) (by kernel_rfl) (by kernel_rfl) ?_
                  refine blockQ_miss rfl ?_
                  refine seqQ_exit ?_
                  refine round_exit ?_
                  exact exQ_mk (by kernel_rfl) (by kernel_rfl)
                · replace h := ofF h666 h
                  refine W_skip [0, 6, 7, 11, 12, 13, 78, 79, 82, 83] [24, 116] (fr' := [(0, aD (.slice (.slice tI)) a0), (6, aI (List.length a0 : Int)), (7, .one (.slc 24)), (11, .one (.slc 116)), (12, aI x576.1), (13, aI i575), (78, aI (List.length a0 : Int)), (79, aI i575), (82, aI (List.length a0 : Int)), (83, aI x608)]) (L' := [(24, .seq tI v350), (116, .seq tI x576.2)]) (by kernel_rfl) (by kernel_rfl) ?_
                  refine blockQ_norm ?_
                  refine seqQ_norm ?_
                  obtain rfl := Option.some.inj h
                  refine W_run 2 [] [0, 6, 7, 11, 12, 13, 78, 79, 82, 83] [24, 116] (fr' := [(0, aD (.slice (.slice tI)) a0), (6, aI (List.length a0 : Int)), (7, .one (.slc 24)), (11, .one (.slc 116)), (12, aI x576.1), (13, aI i575), (78, aI (List.length a0 : Int)), (79, aI i575), (82, aI (List.length a0 : Int)), (83, aI (w64 (x608 + (1 : Int))))]) (L' := [(24, .seq tI v350), (116, .seq tI x576.2)]) (obs := []) (by kernel_rfl) (by kernel_rfl) (by kernel_rfl) allP0 ?_
                  exact round_next' (by kernel_rfl) (by kernel_rfl)
            · replace h := ofF h639 h
              obtain rfl := Option.some.inj h
              refine W_exit (id := 6) [0, 6, 7, 11, 12, 78, 79] [24, 116] (fr' := [(0, aD (.slice (.slice tI)) a0), (6, aI (List.length a0 : Int)), (7, .one (.slc 24)), (11, .one (.slc 116)), (12, aI x576.1), (78, aI (List.length a0 : Int)), (79, aI i575)]) (L' := [(24, .seq tI v350), (116, .seq tI x576.2)]) (by kernel_rfl) (by kernel_rfl) ?_
              refine seqQ_exit ?_
              refine round_exit ?_
              exact exQ_mk (by kernel_rfl) (by kernel_rfl)
          · intro e fr L hJ
            obtain ⟨rfl, rfl, rfl⟩ := hJ
            refine LT_keep [0, 6, 7, 11, 12, 78, 79] [24, 116] (fr' := [(0, aD (.slice (.slice tI)) a0), (6, aI (List.length a0 : Int)), (7, .one (.slc 24)), (11, .one (.slc 116)), (12, aI v669.1), (78, aI (List.length a0 : Int)), (79, aI i575)]) (L' := [(24, .seq tI v350), (116, .seq tI v669.2)]) (by kernel_rfl) ?_
            refine blockQ_hit ?_
            refine blockQ_norm ?_
            refine seqQ_norm ?_
            obtain rfl := Option.some.inj h
            refine W_run 2 [] [0, 6, 7, 11, 12, 78, 79] [24, 116] (fr' := [(0, aD (.slice (.slice tI)) a0), (6, aI (List.length a0 : Int)), (7, .one (.slc 24)), (11, .one (.slc 116)), (12, aI v669.1), (78, aI (List.length a0 : Int)), (79, aI (w64 (i575 + (1 : Int))))]) (L' := [(24, .seq tI v350), (116, .seq tI v669.2)]) (obs := []) (by kernel_rfl) (by kernel_rfl) (by kernel_rfl) allP0 ?_
            exact round_next' (by kernel_rfl) (by kernel_rfl)
        · obtain rfl := stepL_false h580 h
          refine W_exit (id := 4) [6, 7, 11] [24, 116] (fr' := [(6, aI (List.length a0 : Int)), (7, .one (.slc 24)), (11, .one (.slc 116))]) (L' := [(24, .seq tI v350), (116, .seq tI x576.2)]) (by kernel_rfl) (by kernel_rfl) ?_
          refine seqQ_exit ?_
          refine round_exit ?_
          exact exQ_mk (by kernel_rfl) (by kernel_rfl)
      · intro e fr L hJ
        obtain ⟨rfl, rfl, rfl⟩ := hJ
        refine LT_keep [6, 7, 11] [24, 116] (fr' := [(6, aI (List.length a0 : Int)), (7, .one (.slc 24)), (11, .one (.slc 116))]) (L' := [(24, .seq tI v350), (116, .seq tI v674)]) (by kernel_rfl) ?_
        refine blockQ_hit ?_
        refine seqQ_norm ?_
        refine W_seq (by kernel_rfl) ?_
        obtain ⟨v679, h680, h⟩ := bind_of h
        refine W_run 10 [(11, .val (.dat tI v679))] [2, 3, 4] [116] (fr' := [(2, aI v679), (3, .one (.slc 116)), (4, aI (0 : Int))]) (L' := [(116, .seq tI v674)]) (obs := [(0 ≤ (List.length a0 : Int)), InR (w64 ((bShl .i64 (1 : Int) (List.length a0 : Int)) - (1 : Int))) (List.length v350), Idx v350 (w64 ((bShl .i64 (1 : Int) (List.length a0 : Int)) - (1 : Int))) v679]) (by kernel_rfl) (by kernel_rfl) (by kernel_rfl) (allP2 h4 (allP2 (InR.of h680) (allP1 (Idx.of h680)))) ?_
        refine seqQ_norm ?_
        obtain rfl := Option.some.inj h
        refine W_frz 116 (by kernel_rfl) ?_
        refine W_ret [2, 3, 4] [] (fr' := [(2, aI v679), (3, aD (.slice tI) v674), (4, aI (0 : Int))]) (L' := []) (by kernel_rfl) (by kernel_rfl) ?_
        exact retQ_mk (by kernel_rfl) (by kernel_rfl) (by kernel_rfl)

def ref_Within (a0 : Int) (a1 : Int) (a2 : Int) : Option Bool :=
some ((decide (a0 ≤ a1)) && (decide (a1 ≤ a2)))
theorem ref_Within_ok {a0 : Int} {a1 : Int} {a2 : Int} {r : Bool} (h : ref_Within a0 a1 a2 = some r) : FnC Try.prog 40 [aI a0, aI a1, aI a2] [] (aB r) [] := by
  refine fnC_of_W (B := bodyOf Try.f40) (n := 15) Try.func40 (by kernel_rfl) (by kernel_rfl) (by kernel_rfl) (by kernel_rfl) (by kernel_rfl) ?_
  intro K
  refine W_seq (by kernel_rfl) ?_
  refine W_run 1 [] [0, 1, 2] [] (fr' := [(0, aI a0), (1, aI a1), (2, aI a2)]) (L' := []) (obs := []) (by kernel_rfl) (by kernel_rfl) (by kernel_rfl) allP0 ?_
  refine seqQ_norm ?_
  refine W_seq (by kernel_rfl) ?_
  refine W_run 9 [] [6] [] (fr' := [(6, aB ((decide (a0 ≤ a1)) && (decide (a1 ≤ a2))))]) (L' := []) (obs := []) (by kernel_rfl) (by kernel_rfl) (by kernel_rfl) allP0 ?_
  refine seqQ_norm ?_
  obtain rfl := Option.some.inj h
  refine W_ret [6] [] (fr' := [(6, aB ((decide (a0 ≤ a1)) && (decide (a1 ≤ a2))))]) (L' := []) (by kernel_rfl) (by kernel_rfl) ?_
  exact retQ_mk (by kernel_rfl) (by kernel_rfl) (by kernel_rfl)

def ref_SquareCheck_b1 (a0 : (List (List Int))) (i14 : Int) (v17 : (List Int)) (x15 : Unit) : Option (Flow Unit (Esc Int Unit)) :=
bif (List.length v17 : Int) != (List.length a0 : Int) then
(some (.done (.ret (3 : Int))))
else
(some (.next ()))
@[reducible] def ref_SquareCheck_s2 (a0 : (List (List Int))) (v : Int × Unit) : Fr × LL := ([(0, aD (.slice (.slice tI)) a0), (13, aD (.slice (.slice tI)) a0), (14, aI (List.length a0 : Int)), (15, aI v.1)], [])
@[reducible] def ref_SquareCheck_s3 (v : Int) : Fr × LL := ([(2, aI v)], [])
@[reducible] def ref_SquareCheck_s4 (a0 : (List (List Int))) (v : Unit) : Fr × LL := ([(0, aD (.slice (.slice tI)) a0)], [])
def ref_SquareCheck_b11 (i119 : Int) (v122 : Int) (x120 : Unit) : Option (Flow Unit (Esc Int Unit)) :=
(ref_Within (-20 : Int) v122 (20 : Int)).bind fun r125 =>
bif !r125 then
(some (.done (.ret (4 : Int))))
else
(some (.next ()))
@[reducible] def ref_SquareCheck_s12 (a0 : (List (List Int))) (i99 : Int) (v102 : (List Int)) (v : Int × Unit) : Fr × LL := ([(25, aD (.slice (.slice tI)) a0), (26, aI (List.length a0 : Int)), (27, aI i99), (31, aD (.slice tI) v102), (32, aI (List.length v102 : Int)), (33, aI v.1)], [])
@[reducible] def ref_SquareCheck_s13 (v : Int) : Fr × LL := ([(2, aI v)], [])
@[reducible] def ref_SquareCheck_s14 (a0 : (List (List Int))) (i99 : Int) (v : Unit) : Fr × LL := ([(25, aD (.slice (.slice tI)) a0), (26, aI (List.length a0 : Int)), (27, aI i99)], [])
def ref_SquareCheck_b15 (i99 : Int) (v102 : (List Int)) (x100 : Unit) : Option (Flow Unit (Esc Int Unit)) :=
(forL ref_SquareCheck_b11 (fun x120 => (.brk ())) v102 0 ()).bind fun v129 =>
match v129 with
| .ret v134 =>
(some (.done (.ret v134)))
| .brk v135 =>
(some (.next ()))
@[reducible] def ref_SquareCheck_s16 (a0 : (List (List Int))) (v : Int × Unit) : Fr × LL := ([(25, aD (.slice (.slice tI)) a0), (26, aI (List.length a0 : Int)), (27, aI v.1)], [])
@[reducible] def ref_SquareCheck_s17 (v : Int) : Fr × LL := ([(2, aI v)], [])
@[reducible] def ref_SquareCheck_s18 (v : Unit) : Fr × LL := ([], [])
def ref_SquareCheck (a0 : (List (List Int))) : Option Int :=
(ref_Within (1 : Int) (List.length a0 : Int) (6 : Int)).bind fun r1 =>
bif !r1 then
(some (1 : Int))
else
((forL (ref_SquareCheck_b1 a0) (fun x15 => (.brk ())) a0 0 ()).bind fun v22 =>
match v22 with
| .ret v27 =>
(some v27)
| .brk v28 =>
((forL ref_SquareCheck_b15 (fun x100 => (.brk ())) a0 0 ()).bind fun v137 =>
match v137 with
| .ret v142 =>
(some v142)
| .brk v143 =>
(some (0 : Int))))
theorem ref_SquareCheck_ok {a0 : (List (List Int))} {r : Int} (h : ref_SquareCheck a0 = some r) : FnC Try.prog 28 [aD (.slice (.slice tI)) a0] [] (aI r) [] := by
  refine fnC_of_W (B := bodyOf Try.f28) (n := 42) Try.func28 (by kernel_rfl) (by kernel_rfl) (by kernel_rfl) (by kernel_rfl) (by kernel_rfl) ?_
  intro K
  refine W_seq (by kernel_rfl) ?_
  refine W_run 1 [] [0] [] (fr' := [(0, aD (.slice (.slice tI)) a0)]) (L' := []) (obs := []) (by kernel_rfl) (by kernel_rfl) (by kernel_rfl) allP0 ?_
  refine seqQ_norm ?_
  refine W_seq (by kernel_rfl) ?_
  refine W_seq (by kernel_rfl) ?_
  refine W_region (by kernel_rfl) ?_
  refine WO_run (j := 2) (k := 2) (orcs := []) (kF := [0, 10]) (kL := []) (fr' := [(0, aD (.slice (.slice tI)) a0), (10, aI (List.length a0 : Int))]) (L' := []) (obs := []) rfl (by kernel_rfl) allP0 ?_
  obtain ⟨r1, h2, h⟩ := bind_of h
  refine WO_call0 (us := [none, none, none]) (d := 11) (p := True) (j := 3) rfl ⟨by kernel_rfl, by kernel_rfl, by kernel_rfl⟩ trivial (ref_Within_ok h2) (by kernel_rfl) ?_
  refine WO_run (j := 4) (k := 1) (orcs := []) (kF := [0, 12]) (kL := []) (fr' := [(0, aD (.slice (.slice tI)) a0), (12, aB (!r1))]) (L' := []) (obs := []) rfl (by kernel_rfl) allP0 ?_
  refine WO_fin [0, 12] [] (fr' := [(0, aD (.slice (.slice tI)) a0), (12, aB (!r1))]) (L' := []) (by kernel_rfl) (by kernel_rfl) ?_
  refine seqQ_norm ?_
  refine W_cond (o := .tmp 12) (b := !r1) (by kernel_rfl) (by kernel_rfl) (fun h3 => ?_) (fun h3 => ?_)
  · replace h := ofT h3 h
    refine W_seq (by kernel_rfl) ?_
    refine W_run 1 [] [2] [] (fr' := [(2, aI (1 : Int))]) (L' := []) (obs := []) (by kernel_rfl) (by kernel_rfl) (by kernel_rfl) allP0 ?_
    refine seqQ_norm ?_
    obtain rfl := Option.some.inj h
    refine W_ret [2] [] (fr' := [(2, aI (1 : Int))]) (L' := []) (by kernel_rfl) (by kernel_rfl) ?_
    refine seqQ_ret ?_
    exact retQ_mk (by kernel_rfl) (by kernel_rfl) (by kernel_rfl)
  · replace h := ofF h3 h
    refine W_skip [0] [] (fr' := [(0, aD (.slice (.slice tI)) a0)]) (L' := []) (by kernel_rfl) (by kernel_rfl) ?_
    refine seqQ_norm ?_
    refine W_seq (by kernel_rfl) ?_
    refine W_seq (by kernel_rfl) ?_
    refine W_run 3 [] [0, 13, 14, 15] [] (fr' := [(0, aD (.slice (.slice tI)) a0), (13, aD (.slice (.slice tI)) a0), (14, aI (List.length a0 : Int)), (15, aI (0 : Int))]) (L' := []) (obs := []) (by kernel_rfl) (by kernel_rfl) (by kernel_rfl) allP0 ?_
    refine seqQ_norm ?_
    refine W_block (id := 0) (by kernel_rfl) ?_
    obtain ⟨v22, h23, h⟩ := bind_of h
    refine W_len (t := 13) (u := (.slice tI)) (xs := a0) (by kernel_rfl) (fun h26 => ?_)
    obtain ⟨h24, h25⟩ := forL_iter h26 h23
    refine W_weaken [0, 13, 14, 15] [] (fr' := ((ref_SquareCheck_s2 a0) ((0 : Int), ())).1) (L' := ((ref_SquareCheck_s2 a0) ((0 : Int), ())).2) (by kernel_rfl) ?_
    refine W_cutK (W_loop (S := (ref_SquareCheck_s2 a0)) (J := (escQ (exQ .ret ref_SquareCheck_s3) (exQ (.exit 0) (ref_SquareCheck_s4 a0)))) (by kernel_rfl) ?_ h24 _ v22 h25) ?_
    · rintro ⟨i14, x15⟩ s h
      refine W_seq (by kernel_rfl) ?_
      refine W_run 1 [] [0, 13, 14, 15, 16] [] (fr' := [(0, aD (.slice (.slice tI)) a0), (13, aD (.slice (.slice tI)) a0), (14, aI (List.length a0 : Int)), (15, aI i14), (16, aB (decide (i14 < (List.length a0 : Int))))]) (L' := []) (obs := []) (by kernel_rfl) (by kernel_rfl) (by kernel_rfl) allP0 ?_
      refine seqQ_norm ?_
      refine W_seq (by kernel_rfl) ?_
      refine W_cond (o := .tmp 16) (b := decide (i14 < (List.length a0 : Int))) (by kernel_rfl) (by kernel_rfl) (fun h19 => ?_) (fun h19 => ?_)
      · replace h := stepL_true h19 h
        obtain ⟨v17, _, h18, h, rfl⟩ := h
        refine W_skip [0, 13, 14, 15] [] (fr' := [(0, aD (.slice (.slice tI)) a0), (13, aD (.slice (.slice tI)) a0), (14, aI (List.length a0 : Int)), (15, aI i14)]) (L' := []) (by kernel_rfl) (by kernel_rfl) ?_
        refine seqQ_norm ?_
        refine W_seq (by kernel_rfl) ?_
        refine W_block (id := 1) (by kernel_rfl) ?_
        refine W_seq (by kernel_rfl) ?_
        refine W_run 3 [(1, .val (.dat (.slice tI) v17))] [0, 4, 13, 14, 15] [] (fr' := [(0, aD (.slice (.slice tI)) a0), (4, aD (.slice tI) v17), (13, aD (.slice (.slice tI)) a0), (14, aI (List.length a0 : Int)), (15, aI i14)]) (L' := []) (obs := [Idx a0 i14 v17]) (by kernel_rfl) (by kernel_rfl) (by kernel_rfl) (allP1 (Idx.of h18)) ?_
        refine seqQ_norm ?_
        refine W_seq (by kernel_rfl) ?_
        refine W_run 5 [] [0, 13, 14, 15, 23] [] (fr' := [(0, aD (.slice (.slice tI)) a0), (13, aD (.slice (.slice tI)) a0), (14, aI (List.length a0 : Int)), (15, aI i14), (23, aB ((List.length v17 : Int) != (List.length a0 : Int)))]) (L' := []) (obs := []) (by kernel_rfl) (by kernel_rfl) (by kernel_rfl) allP0 ?_
        refine seqQ_norm ?_
        refine W_cond (o := .tmp 23) (b := (List.length v17 : Int) != (List.length a0 : Int)) (by kernel_rfl) (by kernel_rfl) (fun h20 => ?_) (fun h20 => ?_)
        · replace h := ofT h20 h
          refine W_seq (by kernel_rfl) ?_
          refine W_run 1 [] [2] [] (fr' := [(2, aI (3 : Int))]) (L' := []) (obs := []) (by kernel_rfl) (by kernel_rfl) (by kernel_rfl) allP0 ?_
          refine seqQ_norm ?_
          obtain rfl := Option.some.inj h
          refine W_ret [2] [] (fr' := [(2, aI (3 : Int))]) (L' := []) (by kernel_rfl) (by kernel_rfl) ?_
          refine blockQ_ret ?_
          refine seqQ_ret ?_
          refine round_ret ?_
          refine escQ_ret ?_
          exact exQ_mk (by kernel_rfl) (by kernel_rfl)
        · replace h := ofF h20 h
          refine W_skip [0, 13, 14, 15] [] (fr' := [(0, aD (.slice (.slice tI)) a0), (13, aD (.slice (.slice tI)) a0), (14, aI (List.length a0 : Int)), (15, aI i14)]) (L' := []) (by kernel_rfl) (by kernel_rfl) ?_
          refine blockQ_norm ?_
          refine seqQ_norm ?_
          obtain rfl := Option.some.inj h
          refine W_run 2 [] [0, 13, 14, 15] [] (fr' := [(0, aD (.slice (.slice tI)) a0), (13, aD (.slice (.slice tI)) a0), (14, aI (List.length a0 : Int)), (15, aI (w64 (i14 + (1 : Int))))]) (L' := []) (obs := []) (by kernel_rfl) (by kernel_rfl) (by kernel_rfl) allP0 ?_
          exact round_next' (by kernel_rfl) (by kernel_rfl)
      · obtain rfl := stepL_false h19 h
        refine W_exit (id := 0) [0] [] (fr' := [(0, aD (.slice (.slice tI)) a0)]) (L' := []) (by kernel_rfl) (by kernel_rfl) ?_
        refine seqQ_exit ?_
        refine round_exit ?_
        refine escQ_brk ?_
        exact exQ_mk (by kernel_rfl) (by kernel_rfl)
    · intro e fr L hJ
      rcases v22 with v27 | v28
      · obtain ⟨rfl, rfl, rfl⟩ := hJ
        obtain rfl := Option.some.inj h
        refine LT_keep [2] [] (fr' := [(2, aI v27)]) (L' := []) (by kernel_rfl) ?_
        refine blockQ_ret ?_
        refine seqQ_ret ?_
        exact retQ_mk (by kernel_rfl) (by kernel_rfl) (by kernel_rfl)
      · obtain ⟨rfl, rfl, rfl⟩ := hJ
        refine LT_keep [0] [] (fr' := [(0, aD (.slice (.slice tI)) a0)]) (L' := []) (by kernel_rfl) ?_
        refine blockQ_hit ?_
        refine seqQ_norm ?_
        refine W_seq (by kernel_rfl) ?_
        refine W_seq (by kernel_rfl) ?_
        refine W_run 3 [] [25, 26, 27] [] (fr' := [(25, aD (.slice (.slice tI)) a0), (26, aI (List.length a0 : Int)), (27, aI (0 : Int))]) (L' := []) (obs := []) (by kernel_rfl) (by kernel_rfl) (by kernel_rfl) allP0 ?_
        refine seqQ_norm ?_
        refine W_block (id := 2) (by kernel_rfl) ?_
        obtain ⟨v137, h138, h⟩ := bind_of h
        refine W_len (t := 25) (u := (.slice tI)) (xs := a0) (by kernel_rfl) (fun h141 => ?_)
        obtain ⟨h139, h140⟩ := forL_iter h141 h138
        refine W_weaken [25, 26, 27] [] (fr' := ((ref_SquareCheck_s16 a0) ((0 : Int), ())).1) (L' := ((ref_SquareCheck_s16 a0) ((0 : Int), ())).2) (by kernel_rfl) ?_
        refine W_cutK (W_loop (S := (ref_SquareCheck_s16 a0)) (J := (escQ (exQ .ret ref_SquareCheck_s17) (exQ (.exit 2) ref_SquareCheck_s18))) (by kernel_rfl) ?_ h139 _ v137 h140) ?_
        · rintro ⟨i99, x100⟩ s h
          refine W_seq (by kernel_rfl) ?_
          refine W_run 1 [] [25, 26, 27, 28] [] (fr' := [(25, aD (.slice (.slice tI)) a0), (26, aI (List.length a0 : Int)), (27, aI i99), (28, aB (decide (i99 < (List.length a0 : Int))))]) (L' := []) (obs := []) (by kernel_rfl) (by kernel_rfl) (by kernel_rfl) allP0 ?_
          refine seqQ_norm ?_
          refine W_seq (by kernel_rfl) ?_
          refine W_cond (o := .tmp 28) (b := decide (i99 < (List.length a0 : Int))) (by kernel_rfl) (by kernel_rfl) (fun h104 => ?_) (fun h104 => ?_)
          · replace h := stepL_true h104 h
            obtain ⟨v102, _, h103, h, rfl⟩ := h
            refine W_skip [25, 26, 27] [] (fr' := [(25, aD (.slice (.slice tI)) a0), (26, aI (List.length a0 : Int)), (27, aI i99)]) (L' := []) (by kernel_rfl) (by kernel_rfl) ?_
            refine seqQ_norm ?_
            refine W_seq (by kernel_rfl) ?_
            refine W_block (id := 3) (by kernel_rfl) ?_
            refine W_seq (by kernel_rfl) ?_
            refine W_run 3 [(1, .val (.dat (.slice tI) v102))] [6, 25, 26, 27] [] (fr' := [(6, aD (.slice tI) v102), (25, aD (.slice (.slice tI)) a0), (26, aI (List.length a0 : Int)), (27, aI i99)]) (L' := []) (obs := [Idx a0 i99 v102]) (by kernel_rfl) (by kernel_rfl) (by kernel_rfl) (allP1 (Idx.of h103)) ?_
            refine seqQ_norm ?_
            refine W_seq (by kernel_rfl) ?_
            refine W_run 3 [] [25, 26, 27, 31, 32, 33] [] (fr' := [(25, aD (.slice (.slice tI)) a0), (26, aI (List.length a0 : Int)), (27, aI i99), (31, aD (.slice tI) v102), (32, aI (List.length v102 : Int)), (33, aI (0 : Int))]) (L' := []) (obs := []) (by kernel_rfl) (by kernel_rfl) (by kernel_rfl) allP0 ?_
            refine seqQ_norm ?_
            refine W_block (id := 4) (by kernel_rfl) ?_
            obtain ⟨v129, h130, h⟩ := bind_of h
            refine W_len (t := 31) (u := tI) (xs := v102) (by kernel_rfl) (fun h133 => ?_)
            obtain ⟨h131, h132⟩ := forL_iter h133 h130
            refine W_weaken [25, 26, 27, 31, 32, 33] [] (fr' := ((ref_SquareCheck_s12 a0 i99 v102) ((0 : Int), ())).1) (L' := ((ref_SquareCheck_s12 a0 i99 v102) ((0 : Int), ())).2) (by kernel_rfl) ?_
            refine W_cutK (W_loop (S := (ref_SquareCheck_s12 a0 i99 v102)) (J := (escQ (exQ .ret ref_SquareCheck_s13) (exQ (.exit 4) (ref_SquareCheck_s14 a0 i99)))) (by kernel_rfl) ?_ h131 _ v129 h132) ?_
            · rintro ⟨i119, x120⟩ s h
              refine W_seq (by kernel_rfl) ?_
              refine W_run 1 [] [25, 26, 27, 31, 32, 33, 34] [] (fr' := [(25, aD (.slice (.slice tI)) a0), (26, aI (List.length a0 : Int)), (27, aI i99), (31, aD (.slice tI) v102), (32, aI (List.length v102 : Int)), (33, aI i119), (34, aB (decide (i119 < (List.length v102 : Int))))]) (L' := []) (obs := []) (by kernel_rfl) (by kernel_rfl) (by kernel_rfl) allP0 ?_
              refine seqQ_norm ?_
              refine W_seq (by kernel_rfl) ?_
              refine W_cond (o := .tmp 34) (b := decide (i119 < (List.length v102 : Int))) (by kernel_rfl) (by kernel_rfl) (fun h124 => ?_) (fun h124 => ?_)
              · replace h := stepL_true h124 h
                obtain ⟨v122, _, h123, h, rfl⟩ := h
                refine W_skip [25, 26, 27, 31, 32, 33] [] (fr' := [(25, aD (.slice (.slice tI)) a0), (26, aI (List.length a0 : Int)), (27, aI i99), (31, aD (.slice tI) v102), (32, aI (List.length v102 : Int)), (33, aI i119)]) (L' := []) (by kernel_rfl) (by kernel_rfl) ?_
                refine seqQ_norm ?_
                refine W_seq (by kernel_rfl) ?_
                refine W_block (id := 5) (by kernel_rfl) ?_
                refine W_seq (by kernel_rfl) ?_
                refine W_run 3 [(1, .val (.dat tI v122))] [8, 25, 26, 27, 31, 32, 33] [] (fr' := [(8, aI v122), (25, aD (.slice (.slice tI)) a0), (26, aI (List.length a0 : Int)), (27, aI i99), (31, aD (.slice tI) v102), (32, aI (List.length v102 : Int)), (33, aI i119)]) (L' := []) (obs := [Idx v102 i119 v122]) (by kernel_rfl) (by kernel_rfl) (by kernel_rfl) (allP1 (Idx.of h123)) ?_
                refine seqQ_norm ?_
                refine W_seq (by kernel_rfl) ?_
                refine W_region (by kernel_rfl) ?_
                refine WO_run (j := 1) (k := 1) (orcs := []) (kF := [25, 26, 27, 31, 32, 33, 37]) (kL := []) (fr' := [(25, aD (.slice (.slice tI)) a0), (26, aI (List.length a0 : Int)), (27, aI i99), (31, aD (.slice tI) v102), (32, aI (List.length v102 : Int)), (33, aI i119), (37, aI v122)]) (L' := []) (obs := []) rfl (by kernel_rfl) allP0 ?_
                obtain ⟨r125, h126, h⟩ := bind_of h
                refine WO_call0 (us := [none, none, none]) (d := 38) (p := True) (j := 2) rfl ⟨by kernel_rfl, by kernel_rfl, by kernel_rfl⟩ trivial (ref_Within_ok h126) (by kernel_rfl) ?_
                refine WO_run (j := 3) (k := 1) (orcs := []) (kF := [25, 26, 27, 31, 32, 33, 39]) (kL := []) (fr' := [(25, aD (.slice (.slice tI)) a0), (26, aI (List.length a0 : Int)), (27, aI i99), (31, aD (.slice tI) v102), (32, aI (List.length v102 : Int)), (33, aI i119), (39, aB (!r125))]) (L' := []) (obs := []) rfl (by kernel_rfl) allP0 ?_
                refine WO_fin [25, 26, 27, 31, 32, 33, 39] [] (fr' := [(25, aD (.slice (.slice tI)) a0), (26, aI (List.length a0 : Int)), (27, aI i99), (31, aD (.slice tI) v102), (32, aI (List.length v102 : Int)), (33, aI i119), (39, aB (!r125))]) (L' := []) (by kernel_rfl) (by kernel_rfl) ?_
                refine seqQ_norm ?_
                refine W_cond (o := .tmp 39) (b := !r125) (by kernel_rfl) (by kernel_rfl) (fun h127 => ?_) (fun h127 => ?_)
                · replace h := ofT h127 h
                  refine W_seq (by kernel_rfl) ?_
                  refine W_run 1 [] [2] [] (fr' := [(2, aI (4 : Int))]) (L' := []) (obs := []) (by kernel_rfl) (by kernel_rfl) (by kernel_rfl) allP0 ?_
                  refine seqQ_norm ?_
                  obtain rfl := Option.some.inj h
                  refine W_ret [2] [] (fr' := [(2, aI (4 : Int))]) (L' := []) (by kernel_rfl) (by kernel_rfl) ?_
                  refine blockQ_ret ?_
                  refine seqQ_ret ?_
                  refine round_ret ?_
                  refine escQ_ret ?_
                  exact exQ_mk (by kernel_rfl) (by kernel_rfl)
                · replace h := ofF h127 h
                  refine W_skip [25, 26, 27, 31, 32, 33] [] (fr' := [(25, aD (.slice (.slice tI)) a0), (26, aI (List.length a0 : Int)), (27, aI i99), (31, aD (.slice tI) v102), (32, aI (List.length v102 : Int)), (33, aI i119)]) (L' := []) (by kernel_rfl) (by kernel_rfl) ?_
                  refine blockQ_norm ?_
                  refine seqQ_norm ?_
                  obtain rfl := Option.some.inj h
                  refine W_run 2 [] [25, 26, 27, 31, 32, 33] [] (fr' := [(25, aD (.slice (.slice tI)) a0), (26, aI (List.length a0 : Int)), (27, aI i99), (31, aD (.slice tI) v102), (32, aI (List.length v102 : Int)), (33, aI (w64 (i119 + (1 : Int))))]) (L' := []) (obs := []) (by kernel_rfl) (by kernel_rfl) (by kernel_rfl) allP0 ?_
                  exact round_next' (by kernel_rfl) (by kernel_rfl)
              · obtain rfl := stepL_false h124 h
                refine W_exit (id := 4) [25, 26, 27] [] (fr' := [(25, aD (.slice (.slice tI)) a0), (26, aI (List.length a0 : Int)), (27, aI i99)]) (L' := []) (by kernel_rfl) (by kernel_rfl) ?_
                refine seqQ_exit ?_
                refine round_exit ?_
                refine escQ_brk ?_
                exact exQ_mk (by kernel_rfl) (by kernel_rfl)
            · intro e fr L hJ
              rcases v129 with v134 | v135
              · obtain ⟨rfl, rfl, rfl⟩ := hJ
                obtain rfl := Option.some.inj h
                refine LT_keep [2] [] (fr' := [(2, aI v134)]) (L' := []) (by kernel_rfl) ?_
                refine blockQ_ret ?_
                refine blockQ_ret ?_
                refine seqQ_ret ?_
                refine round_ret ?_
                refine escQ_ret ?_
                exact exQ_mk (by kernel_rfl) (by kernel_rfl)
              · obtain ⟨rfl, rfl, rfl⟩ := hJ
                refine LT_keep [25, 26, 27] [] (fr' := [(25, aD (.slice (.slice tI)) a0), (26, aI (List.length a0 : Int)), (27, aI i99)]) (L' := []) (by kernel_rfl) ?_
                refine blockQ_hit ?_
                refine blockQ_norm ?_
                refine seqQ_norm ?_
                obtain rfl := Option.some.inj h
                refine W_run 2 [] [25, 26, 27] [] (fr' := [(25, aD (.slice (.slice tI)) a0), (26, aI (List.length a0 : Int)), (27, aI (w64 (i99 + (1 : Int))))]) (L' := []) (obs := []) (by kernel_rfl) (by kernel_rfl) (by kernel_rfl) allP0 ?_
                exact round_next' (by kernel_rfl) (by kernel_rfl)
          · obtain rfl := stepL_false h104 h
            refine W_exit (id := 2) [] [] (fr' := []) (L' := []) (by kernel_rfl) (by kernel_rfl) ?_
            refine seqQ_exit ?_
            refine round_exit ?_
            refine escQ_brk ?_
            exact exQ_mk (by kernel_rfl) (by kernel_rfl)
        · intro e fr L hJ
          rcases v137 with v142 | v143
          · obtain ⟨rfl, rfl, rfl⟩ := hJ
            obtain rfl := Option.some.inj h
            refine LT_keep [2] [] (fr' := [(2, aI v142)]) (L' := []) (by kernel_rfl) ?_
            refine blockQ_ret ?_
            refine seqQ_ret ?_
            exact retQ_mk (by kernel_rfl) (by kernel_rfl) (by kernel_rfl)
          · obtain ⟨rfl, rfl, rfl⟩ := hJ
            refine LT_keep [] [] (fr' := []) (L' := []) (by kernel_rfl) ?_
            refine blockQ_hit ?_
            refine seqQ_norm ?_
            refine W_seq (by kernel_rfl) ?_
            refine W_run 1 [] [2] [] (fr' := [(2, aI (0 : Int))]) (L' := []) (obs := []) (by kernel_rfl) (by kernel_rfl) (by kernel_rfl) allP0 ?_
            refine seqQ_norm ?_
            obtain rfl := Option.some.inj h
            refine W_ret [2] [] (fr' := [(2, aI (0 : Int))]) (L' := []) (by kernel_rfl) (by kernel_rfl) ?_
            exact retQ_mk (by kernel_rfl) (by kernel_rfl) (by kernel_rfl)

def ref_without_b1 (a1 : Int) (i23 : Int) (v26 : (List Int)) (x24 : (List (List Int))) : Option (Flow (List (List Int)) (List (List Int))) :=
(ck (0 ≤ (0 : Int) ∧ (0 : Int) ≤ a1 ∧ a1 ≤ (List.length v26 : Int))).bind fun _ =>
(ck ((0 : Int) + (List.length (sub v26 (0 : Int) a1) : Int) ≤ 4294967296)).bind fun _ =>
(ck (0 ≤ w64 (a1 + (1 : Int)) ∧ w64 (a1 + (1 : Int)) ≤ (List.length v26 : Int) ∧ (List.length v26 : Int) ≤ (List.length v26 : Int))).bind fun _ =>
(ck ((List.length ([] ++ (sub v26 (0 : Int) a1)) : Int) + (List.length (sub v26 (w64 (a1 + (1 : Int))) (List.length v26 : Int)) : Int) ≤ 4294967296)).bind fun _ =>
(ck ((List.length x24 : Int) + 1 ≤ 4294967296)).bind fun _ =>
some (.next (x24 ++ [([] ++ (sub v26 (0 : Int) a1)) ++ (sub v26 (w64 (a1 + (1 : Int))) (List.length v26 : Int))]))
@[reducible] def ref_without_s2 (a0 : (List (List Int))) (a1 : Int) (v : Int × (List (List Int))) : Fr × LL := ([(1, aI a1), (5, .one (.slc 27)), (9, aD (.slice (.slice tI)) (sub a0 (1 : Int) (List.length a0 : Int))), (10, aI (List.length (sub a0 (1 : Int) (List.length a0 : Int)) : Int)), (11, aI v.1)], [(27, .seq (.slice tI) v.2)])
@[reducible] def ref_without_s3 (v : (List (List Int))) : Fr × LL := ([(5, .one (.slc 27))], [(27, .seq (.slice tI) v)])
def ref_without (a0 : (List (List Int))) (a1 : Int) : Option (List (List Int)) :=
(ck (0 ≤ (1 : Int) ∧ (1 : Int) ≤ (List.length a0 : Int) ∧ (List.length a0 : Int) ≤ (List.length a0 : Int))).bind fun _ =>
(forL (ref_without_b1 a1) (fun x24 => x24) (sub a0 (1 : Int) (List.length a0 : Int)) 0 []).bind fun v37 =>
some v37
theorem ref_without_ok {a0 : (List (List Int))} {a1 : Int} {r : (List (List Int))} (h : ref_without a0 a1 = some r) : FnC Try.prog 55 [aD (.slice (.slice tI)) a0, aI a1] [] (aD (.slice (.slice tI)) r) [] := by
  refine fnC_of_W (B := bodyOf Try.f55) (n := 30) Try.func55 (by kernel_rfl) (by kernel_rfl) (by kernel_rfl) (by kernel_rfl) (by kernel_rfl) ?_
  intro K
  refine W_seq (by kernel_rfl) ?_
  refine W_run 1 [] [0, 1] [] (fr' := [(0, aD (.slice (.slice tI)) a0), (1, aI a1)]) (L' := []) (obs := []) (by kernel_rfl) (by kernel_rfl) (by kernel_rfl) allP0 ?_
  refine seqQ_norm ?_
  refine W_seq (by kernel_rfl) ?_
  refine W_run 1 [] [0, 1, 5] [] (fr' := [(0, aD (.slice (.slice tI)) a0), (1, aI a1), (5, .one (.nilS))]) (L' := []) (obs := []) (by kernel_rfl) (by kernel_rfl) (by kernel_rfl) allP0 ?_
  refine seqQ_norm ?_
  refine W_seq (by kernel_rfl) ?_
  refine W_seq (by kernel_rfl) ?_
  obtain ⟨_, h1, h⟩ := bind_of h
  replace h1 := ck_some h1
  refine W_run 4 [] [1, 5, 9, 10, 11] [] (fr' := [(1, aI a1), (5, .one (.nilS)), (9, aD (.slice (.slice tI)) (sub a0 (1 : Int) (List.length a0 : Int))), (10, aI (List.length (sub a0 (1 : Int) (List.length a0 : Int)) : Int)), (11, aI (0 : Int))]) (L' := []) (obs := [Cuts (1 : Int) (List.length a0 : Int) (List.length a0)]) (by kernel_rfl) (by kernel_rfl) (by kernel_rfl) (allP1 h1) ?_
  refine seqQ_norm ?_
  refine W_block (id := 0) (by kernel_rfl) ?_
  obtain ⟨v37, h38, h⟩ := bind_of h
  refine W_len (t := 9) (u := (.slice tI)) (xs := sub a0 (1 : Int) (List.length a0 : Int)) (by kernel_rfl) (fun h41 => ?_)
  obtain ⟨h39, h40⟩ := forL_iter h41 h38
  refine W_mine 5 27 (.slice tI) (by kernel_rfl) ?_
  refine W_weaken [1, 5, 9, 10, 11] [27] (fr' := ((ref_without_s2 a0 a1) ((0 : Int), [])).1) (L' := ((ref_without_s2 a0 a1) ((0 : Int), [])).2) (by kernel_rfl) ?_
  refine W_cutK (W_loop (S := (ref_without_s2 a0 a1)) (J := (exQ (.exit 0) ref_without_s3)) (by kernel_rfl) ?_ h39 _ v37 h40) ?_
  · rintro ⟨i23, x24⟩ s h
    refine W_seq (by kernel_rfl) ?_
    refine W_run 1 [] [1, 5, 9, 10, 11, 12] [27] (fr' := [(1, aI a1), (5, .one (.slc 27)), (9, aD (.slice (.slice tI)) (sub a0 (1 : Int) (List.length a0 : Int))), (10, aI (List.length (sub a0 (1 : Int) (List.length a0 : Int)) : Int)), (11, aI i23), (12, aB (decide (i23 < (List.length (sub a0 (1 : Int) (List.length a0 : Int)) : Int))))]) (L' := [(27, .seq (.slice tI) x24)]) (obs := []) (by kernel_rfl) (by kernel_rfl) (by kernel_rfl) allP0 ?_
    refine seqQ_norm ?_
    refine W_seq (by kernel_rfl) ?_
    refine W_cond (o := .tmp 12) (b := decide (i23 < (List.length (sub a0 (1 : Int) (List.length a0 : Int)) : Int))) (by kernel_rfl) (by kernel_rfl) (fun h28 => ?_) (fun h28 => ?_)
    · replace h := stepL_true h28 h
      obtain ⟨v26, _, h27, h, rfl⟩ := h
      refine W_skip [1, 5, 9, 10, 11] [27] (fr' := [(1, aI a1), (5, .one (.slc 27)), (9, aD (.slice (.slice tI)) (sub a0 (1 : Int) (List.length a0 : Int))), (10, aI (List.length (sub a0 (1 : Int) (List.length a0 : Int)) : Int)), (11, aI i23)]) (L' := [(27, .seq (.slice tI) x24)]) (by kernel_rfl) (by kernel_rfl) ?_
      refine seqQ_norm ?_
      refine W_seq (by kernel_rfl) ?_
      refine W_block (id := 1) (by kernel_rfl) ?_
      refine W_seq (by kernel_rfl) ?_
      refine W_run 3 [(1, .val (.dat (.slice tI) v26))] [1, 5, 7, 9, 10, 11] [27] (fr' := [(1, aI a1), (5, .one (.slc 27)), (7, aD (.slice tI) v26), (9, aD (.slice (.slice tI)) (sub a0 (1 : Int) (List.length a0 : Int))), (10, aI (List.length (sub a0 (1 : Int) (List.length a0 : Int)) : Int)), (11, aI i23)]) (L' := [(27, .seq (.slice tI) x24)]) (obs := [Idx (sub a0 (1 : Int) (List.length a0 : Int)) i23 v26]) (by kernel_rfl) (by kernel_rfl) (by kernel_rfl) (allP1 (Idx.of h27)) ?_
      refine seqQ_norm ?_
      obtain ⟨_, h31, h⟩ := bind_of h
      replace h31 := ck_some h31
      obtain ⟨_, h32, h⟩ := bind_of h
      replace h32 := ck_some h32
      obtain ⟨_, h33, h⟩ := bind_of h
      replace h33 := ck_some h33
      obtain ⟨_, h34, h⟩ := bind_of h
      replace h34 := ck_some h34
      refine W_drawC5 12 [(1, [16], [(16, .seq tI [])]), (5, [16], [(16, .seq tI ([] ++ (sub v26 (0 : Int) a1)))]), (10, [16], [])] [] [(1, .one (.slc 16)), (5, .one (.slc 16)), (10, aD (.slice tI) (([] ++ (sub v26 (0 : Int) a1)) ++ (sub v26 (w64 (a1 + (1 : Int))) (List.length v26 : Int))))] [] [] [1, 5, 9, 10, 11, 15, 26] [27] (out := [(15, .one (.slc 27)), (16, .one (.slc 16)), (17, aD (.slice tI) v26), (18, aI a1), (19, aD (.slice tI) (sub v26 (0 : Int) a1)), (20, .one (.slc 16)), (21, aD (.slice tI) v26), (22, aI a1), (23, aI (w64 (a1 + (1 : Int)))), (24, aD (.slice tI) (sub v26 (w64 (a1 + (1 : Int))) (List.length v26 : Int))), (25, aD (.slice tI) (([] ++ (sub v26 (0 : Int) a1)) ++ (sub v26 (w64 (a1 + (1 : Int))) (List.length v26 : Int)))), (26, aD (.slice (.slice tI)) [([] ++ (sub v26 (0 : Int) a1)) ++ (sub v26 (w64 (a1 + (1 : Int))) (List.length v26 : Int))])]) (obs := [Cuts (0 : Int) a1 (List.length v26), Cuts (w64 (a1 + (1 : Int))) (List.length v26 : Int) (List.length v26), True]) (calls := []) (fr' := [(1, aI a1), (5, .one (.slc 27)), (9, aD (.slice (.slice tI)) (sub a0 (1 : Int) (List.length a0 : Int))), (10, aI (List.length (sub a0 (1 : Int) (List.length a0 : Int)) : Int)), (11, aI i23), (15, .one (.slc 27)), (26, aD (.slice (.slice tI)) [([] ++ (sub v26 (0 : Int) a1)) ++ (sub v26 (w64 (a1 + (1 : Int))) (List.length v26 : Int))])]) (L' := [(27, .seq (.slice tI) x24)]) (by kernel_rfl) (by kernel_rfl) (by kernel_rfl) (by kernel_rfl) (by kernel_rfl) (allP2 h31 (allP2 h33 (allP1 trivial))) allD0 (chDo (ty := false) (d := 16) (nm := 16) (ob := .seq tI []) (av := .one (.slc 16)) (p := True) (by kernel_rfl) trivial (by kernel_rfl) (chDo (ty := false) (d := 20) (nm := 16) (ob := .seq tI ([] ++ (sub v26 (0 : Int) a1))) (av := .one (.slc 16)) (p := SmallLen (List.length ([] : (List Int)) + List.length (sub v26 (0 : Int) a1))) (by kernel_rfl) h32 (by kernel_rfl) (chFz (ty := false) (d := 25) (u := tI) (xs := ([] ++ (sub v26 (0 : Int) a1)) ++ (sub v26 (w64 (a1 + (1 : Int))) (List.length v26 : Int))) (p := SmallLen (List.length ([] ++ (sub v26 (0 : Int) a1)) + List.length (sub v26 (w64 (a1 + (1 : Int))) (List.length v26 : Int)))) (by kernel_rfl) h34 (by kernel_rfl) (by kernel_rfl) chNil))) mkNil (by kernel_rfl) ?_
      obtain ⟨_, h35, h⟩ := bind_of h
      replace h35 := ck_some h35
      refine WO_run (j := 14) (k := 2) (orcs := []) (kF := [1, 5, 9, 10, 11]) (kL := [27]) (fr' := [(1, aI a1), (5, .one (.slc 27)), (9, aD (.slice (.slice tI)) (sub a0 (1 : Int) (List.length a0 : Int))), (10, aI (List.length (sub a0 (1 : Int) (List.length a0 : Int)) : Int)), (11, aI i23)]) (L' := [(27, .seq (.slice tI) (x24 ++ [([] ++ (sub v26 (0 : Int) a1)) ++ (sub v26 (w64 (a1 + (1 : Int))) (List.length v26 : Int))]))]) (obs := [SmallLen (List.length x24 + List.length [([] ++ (sub v26 (0 : Int) a1)) ++ (sub v26 (w64 (a1 + (1 : Int))) (List.length v26 : Int))])]) rfl (by kernel_rfl) (allP1 h35) ?_
      refine WO_fin [1, 5, 9, 10, 11] [27] (fr' := [(1, aI a1), (5, .one (.slc 27)), (9, aD (.slice (.slice tI)) (sub a0 (1 : Int) (List.length a0 : Int))), (10, aI (List.length (sub a0 (1 : Int) (List.length a0 : Int)) : Int)), (11, aI i23)]) (L' := [(27, .seq (.slice tI) (x24 ++ [([] ++ (sub v26 (0 : Int) a1)) ++ (sub v26 (w64 (a1 + (1 : Int))) (List.length v26 : Int))]))]) (by kernel_rfl) (by kernel_rfl) ?_
      refine ⟨rfl, ?_⟩
      refine blockQ_norm ?_
      refine seqQ_norm ?_
      obtain rfl := Option.some.inj h
      refine W_run 2 [] [1, 5, 9, 10, 11] [27] (fr' := [(1, aI a1), (5, .one (.slc 27)), (9, aD (.slice (.slice tI)) (sub a0 (1 : Int) (List.length a0 : Int))), (10, aI (List.length (sub a0 (1 : Int) (List.length a0 : Int)) : Int)), (11, aI (w64 (i23 + (1 : Int))))]) (L' := [(27, .seq (.slice tI) (x24 ++ [([] ++ (sub v26 (0 : Int) a1)) ++ (sub v26 (w64 (a1 + (1 : Int))) (List.length v26 : Int))]))]) (obs := []) (by kernel_rfl) (by kernel_rfl) (by kernel_rfl) allP0 ?_
      exact round_next' (by kernel_rfl) (by kernel_rfl)
    · obtain rfl := stepL_false h28 h
      refine W_exit (id := 0) [5] [27] (fr' := [(5, .one (.slc 27))]) (L' := [(27, .seq (.slice tI) x24)]) (by kernel_rfl) (by kernel_rfl) ?_
      refine seqQ_exit ?_
      refine round_exit ?_
      exact exQ_mk (by kernel_rfl) (by kernel_rfl)
  · intro e fr L hJ
    obtain ⟨rfl, rfl, rfl⟩ := hJ
    refine LT_keep [5] [27] (fr' := [(5, .one (.slc 27))]) (L' := [(27, .seq (.slice tI) v37)]) (by kernel_rfl) ?_
    refine blockQ_hit ?_
    refine seqQ_norm ?_
    refine W_seq (by kernel_rfl) ?_
    refine W_run 2 [] [4] [27] (fr' := [(4, .one (.slc 27))]) (L' := [(27, .seq (.slice tI) v37)]) (obs := []) (by kernel_rfl) (by kernel_rfl) (by kernel_rfl) allP0 ?_
    refine seqQ_norm ?_
    obtain rfl := Option.some.inj h
    refine W_frz 27 (by kernel_rfl) ?_
    refine W_ret [4] [] (fr' := [(4, aD (.slice (.slice tI)) v37)]) (L' := []) (by kernel_rfl) (by kernel_rfl) ?_
    exact retQ_mk (by kernel_rfl) (by kernel_rfl) (by kernel_rfl)

@[reducible] def ref_Greatest_s109 (a0 : (List (List Int))) (r797 : (Int × (List Int))) (v802 : Int) (i838 : Int) (x839 : (List Int)) (v : Int) : Fr × LL := ([(0, aD (.slice (.slice tI)) a0), (4, aI (w64 (r797.1 + v802))), (5, .one (.slc 50)), (6, aI (0 : Int)), (10, aI v), (51, aD (.slice tI) r797.2), (52, aI (List.length r797.2 : Int)), (53, aI i838)], [(50, .seq tI x839)])
def ref_Greatest_b110 (i838 : Int) (v841 : Int) (x839 : (List Int)) : Option (Flow (List Int) (List Int)) :=
(bif decide (v841 ≥ (0 : Int)) then
(some (w64 (v841 + (1 : Int))))
else
(some v841)).bind fun v853 =>
(ck ((List.length x839 : Int) + 1 ≤ 4294967296)).bind fun _ =>
some (.next (x839 ++ [v853]))
@[reducible] def ref_Greatest_s111 (a0 : (List (List Int))) (r797 : (Int × (List Int))) (v802 : Int) (v : Int × (List Int)) : Fr × LL := ([(0, aD (.slice (.slice tI)) a0), (4, aI (w64 (r797.1 + v802))), (5, .one (.slc 50)), (6, aI (0 : Int)), (51, aD (.slice tI) r797.2), (52, aI (List.length r797.2 : Int)), (53, aI v.1)], [(50, .seq tI v.2)])
@[reducible] def ref_Greatest_s112 (a0 : (List (List Int))) (r797 : (Int × (List Int))) (v802 : Int) (v : (List Int)) : Fr × LL := ([(0, aD (.slice (.slice tI)) a0), (4, aI (w64 (r797.1 + v802))), (5, .one (.slc 50)), (6, aI (0 : Int))], [(50, .seq tI v)])
def ref_Greatest_b113 (a0 : (List (List Int))) (rf_ref_Greatest : (List (List Int)) → Option (Int × (List Int))) (x726 : Unit) : Option (Flow (Int × Int × (List Int)) (Int × (List Int))) :=
bif decide ((0 : Int) < (List.length a0 : Int)) then
((ref_without a0 (0 : Int)).bind fun r795 =>
(rf_ref_Greatest r795).bind fun r797 =>
(idx a0 (0 : Int)).bind fun v800 =>
(idx v800 (0 : Int)).bind fun v802 =>
(forL ref_Greatest_b110 (fun x839 => x839) r797.2 0 [(0 : Int)]).bind fun v857 =>
some (.next (w64 (r797.1 + v802), (1 : Int), v857)))
else
(some (.done ((0 : Int), [])))
@[reducible] def ref_Greatest_s137 (a0 : (List (List Int))) (x862 : (Int × Int × (List Int))) (r1012 : (Int × (List Int))) (v1022 : Int) (i1059 : Int) (x1060 : (List Int)) (v : Int) : Fr × LL := ([(0, aD (.slice (.slice tI)) a0), (4, aI (w64 (r1012.1 + v1022))), (5, .one (.slc 50)), (6, aI x862.2.1), (10, aI v), (51, aD (.slice tI) r1012.2), (52, aI (List.length r1012.2 : Int)), (53, aI i1059)], [(50, .seq tI x1060)])
def ref_Greatest_b138 (x862 : (Int × Int × (List Int))) (i1059 : Int) (v1062 : Int) (x1060 : (List Int)) : Option (Flow (List Int) (List Int)) :=
(bif decide (v1062 ≥ x862.2.1) then
(some (w64 (v1062 + (1 : Int))))
else
(some v1062)).bind fun v1074 =>
(ck ((List.length x1060 : Int) + 1 ≤ 4294967296)).bind fun _ =>
some (.next (x1060 ++ [v1074]))
@[reducible] def ref_Greatest_s139 (a0 : (List (List Int))) (x862 : (Int × Int × (List Int))) (r1012 : (Int × (List Int))) (v1022 : Int) (v : Int × (List Int)) : Fr × LL := ([(0, aD (.slice (.slice tI)) a0), (4, aI (w64 (r1012.1 + v1022))), (5, .one (.slc 50)), (6, aI x862.2.1), (51, aD (.slice tI) r1012.2), (52, aI (List.length r1012.2 : Int)), (53, aI v.1)], [(50, .seq tI v.2)])
@[reducible] def ref_Greatest_s140 (a0 : (List (List Int))) (x862 : (Int × Int × (List Int))) (r1012 : (Int × (List Int))) (v1022 : Int) (v : (List Int)) : Fr × LL := ([(0, aD (.slice (.slice tI)) a0), (4, aI (w64 (r1012.1 + v1022))), (5, .one (.slc 50)), (6, aI x862.2.1)], [(50, .seq tI v)])
def ref_Greatest_g141 (a0 : (List (List Int))) (rf_ref_Greatest : (List (List Int)) → Option (Int × (List Int))) (x862 : (Int × Int × (List Int))) : Option (Int × (List Int)) :=
(ref_without a0 x862.2.1).bind fun r1010 =>
(rf_ref_Greatest r1010).bind fun r1012 =>
(ck (0 < List.length (x862.2.2 : (List Int)))).bind fun _ =>
(idx a0 (0 : Int)).bind fun v1020 =>
(idx v1020 x862.2.1).bind fun v1022 =>
bif decide ((w64 (r1012.1 + v1022)) > x862.1) then
((forL (ref_Greatest_b138 x862) (fun x1060 => x1060) r1012.2 0 [x862.2.1]).bind fun v1078 =>
some (w64 (r1012.1 + v1022), v1078))
else
(some (x862.1, x862.2.2))
@[reducible] def ref_Greatest_s142 (a0 : (List (List Int))) (x862 : (Int × Int × (List Int))) (v : (Int × (List Int))) : Fr × LL := ([(0, aD (.slice (.slice tI)) a0), (4, aI v.1), (5, .one (.slc 50)), (6, aI x862.2.1)], [(50, .seq tI v.2)])
def ref_Greatest_b143 (a0 : (List (List Int))) (rf_ref_Greatest : (List (List Int)) → Option (Int × (List Int))) (x862 : (Int × Int × (List Int))) : Option (Flow (Int × Int × (List Int)) (Int × (List Int))) :=
bif decide (x862.2.1 < (List.length a0 : Int)) then
((ref_Greatest_g141 a0 rf_ref_Greatest x862).bind fun v1083 =>
some (.next (v1083.1, w64 (x862.2.1 + (1 : Int)), v1083.2)))
else
(some (.done (x862.1, x862.2.2)))
@[reducible] def ref_Greatest_s144 (a0 : (List (List Int))) (v : Unit) : Fr × LL := ([(0, aD (.slice (.slice tI)) a0), (4, aI (0 : Int)), (5, .one (.nilS)), (6, aI (0 : Int))], [])
@[reducible] def ref_Greatest_s145 (a0 : (List (List Int))) (v : (Int × Int × (List Int))) : Fr × LL := ([(0, aD (.slice (.slice tI)) a0), (4, aI v.1), (5, .one (.slc 50)), (6, aI v.2.1)], [(50, .seq tI v.2.2)])
@[reducible] def ref_Greatest_s146 (v : (Int × (List Int))) : Fr × LL := ([(4, aI v.1), (5, .one (.slc 50))], [(50, .seq tI v.2)])
def ref_Greatest_step (rf_ref_Greatest : (List (List Int)) → Option (Int × (List Int))) (fuel : Nat) (a0 : (List (List Int))) : Option (Int × (List Int)) :=
bif (List.length a0 : Int) == (0 : Int) then
(some ((0 : Int), []))
else
((iterP (ref_Greatest_b113 a0 rf_ref_Greatest) (ref_Greatest_b143 a0 rf_ref_Greatest) fuel ()).bind fun v1085 =>
some (v1085.1, v1085.2))
def ref_Greatest : Nat → (List (List Int)) → Option (Int × (List Int))
  | 0 => fun _ => none
  | fuel + 1 => fun a0 => ref_Greatest_step (ref_Greatest fuel) fuel a0
theorem ref_Greatest_step_ok {rf_ref_Greatest : (List (List Int)) → Option (Int × (List Int))} (ih_ref_Greatest : ∀ {a0 : (List (List Int))} {r : (Int × (List Int))}, rf_ref_Greatest a0 = some r → FnC Try.prog 34 [aD (.slice (.slice tI)) a0] [] (.tup [.dat tI r.1, .dat (.slice tI) r.2]) []) {fuel : Nat} {a0 : (List (List Int))} {r : (Int × (List Int))} (h : ref_Greatest_step rf_ref_Greatest fuel a0 = some r) : FnC Try.prog 34 [aD (.slice (.slice tI)) a0] [] (.tup [.dat tI r.1, .dat (.slice tI) r.2]) [] := by
  refine fnC_of_W (B := bodyOf Try.f34) (n := 69) Try.func34 (by kernel_rfl) (by kernel_rfl) (by kernel_rfl) (by kernel_rfl) (by kernel_rfl) ?_
  intro K
  refine W_seq (by kernel_rfl) ?_
  refine W_run 2 [] [0] [] (fr' := [(0, aD (.slice (.slice tI)) a0)]) (L' := []) (obs := []) (by kernel_rfl) (by kernel_rfl) (by kernel_rfl) allP0 ?_
  refine seqQ_norm ?_
  refine W_seq (by kernel_rfl) ?_
  refine W_seq (by kernel_rfl) ?_
  refine W_run 3 [] [0, 13] [] (fr' := [(0, aD (.slice (.slice tI)) a0), (13, aB ((List.length a0 : Int) == (0 : Int)))]) (L' := []) (obs := []) (by kernel_rfl) (by kernel_rfl) (by kernel_rfl) allP0 ?_
  refine seqQ_norm ?_
  refine W_cond (o := .tmp 13) (b := (List.length a0 : Int) == (0 : Int)) (by kernel_rfl) (by kernel_rfl) (fun h1 => ?_) (fun h1 => ?_)
  · replace h := ofT h1 h
    refine W_seq (by kernel_rfl) ?_
    refine W_run 2 [] [2, 3] [] (fr' := [(2, aI (0 : Int)), (3, .one (.nilS))]) (L' := []) (obs := []) (by kernel_rfl) (by kernel_rfl) (by kernel_rfl) allP0 ?_
    refine seqQ_norm ?_
    obtain rfl := Option.some.inj h
    refine W_cnv 3 (.slice tI) (by kernel_rfl) ?_
    refine W_ret [2, 3] [] (fr' := [(2, aI (0 : Int)), (3, aD (.slice tI) [])]) (L' := []) (by kernel_rfl) (by kernel_rfl) ?_
    refine seqQ_ret ?_
    exact retQ_mk (by kernel_rfl) (by kernel_rfl) (by kernel_rfl)
  · replace h := ofF h1 h
    refine W_skip [0] [] (fr' := [(0, aD (.slice (.slice tI)) a0)]) (L' := []) (by kernel_rfl) (by kernel_rfl) ?_
    refine seqQ_norm ?_
    refine W_seq (by kernel_rfl) ?_
    refine W_run 1 [] [0, 4] [] (fr' := [(0, aD (.slice (.slice tI)) a0), (4, aI (0 : Int))]) (L' := []) (obs := []) (by kernel_rfl) (by kernel_rfl) (by kernel_rfl) allP0 ?_
    refine seqQ_norm ?_
    refine W_seq (by kernel_rfl) ?_
    refine W_run 1 [] [0, 4, 5] [] (fr' := [(0, aD (.slice (.slice tI)) a0), (4, aI (0 : Int)), (5, .one (.nilS))]) (L' := []) (obs := []) (by kernel_rfl) (by kernel_rfl) (by kernel_rfl) allP0 ?_
    refine seqQ_norm ?_
    refine W_seq (by kernel_rfl) ?_
    refine W_seq (by kernel_rfl) ?_
    refine W_run 1 [] [0, 4, 5, 6] [] (fr' := [(0, aD (.slice (.slice tI)) a0), (4, aI (0 : Int)), (5, .one (.nilS)), (6, aI (0 : Int))]) (L' := []) (obs := []) (by kernel_rfl) (by kernel_rfl) (by kernel_rfl) allP0 ?_
    refine seqQ_norm ?_
    refine W_block (id := 0) (by kernel_rfl) ?_
    obtain ⟨v1085, h1086, h⟩ := bind_of h
    refine W_weaken [0, 4, 5, 6] [] (fr' := ((ref_Greatest_s144 a0) ()).1) (L' := ((ref_Greatest_s144 a0) ()).2) (by kernel_rfl) ?_
    refine W_cutK (W_loopP (S0 := (ref_Greatest_s144 a0)) (S := (ref_Greatest_s145 a0)) (J := (exQ (.exit 0) ref_Greatest_s146)) (by kernel_rfl) ?_ ?_ fuel _ v1085 h1086) ?_
    · rintro x726 s h
      refine W_seq (by kernel_rfl) ?_
      refine W_seq (by kernel_rfl) ?_
      refine W_run 4 [] [0, 4, 5, 6, 17] [] (fr' := [(0, aD (.slice (.slice tI)) a0), (4, aI (0 : Int)), (5, .one (.nilS)), (6, aI (0 : Int)), (17, aB (decide ((0 : Int) < (List.length a0 : Int))))]) (L' := []) (obs := []) (by kernel_rfl) (by kernel_rfl) (by kernel_rfl) allP0 ?_
      refine seqQ_norm ?_
      refine W_cond (o := .tmp 17) (b := decide ((0 : Int) < (List.length a0 : Int))) (by kernel_rfl) (by kernel_rfl) (fun h727 => ?_) (fun h727 => ?_)
      · replace h := ofT h727 h
        refine W_skip [0, 4, 5, 6] [] (fr' := [(0, aD (.slice (.slice tI)) a0), (4, aI (0 : Int)), (5, .one (.nilS)), (6, aI (0 : Int))]) (L' := []) (by kernel_rfl) (by kernel_rfl) ?_
        refine seqQ_norm ?_
        refine W_seq (by kernel_rfl) ?_
        refine W_block (id := 1) (by kernel_rfl) ?_
        refine W_seq (by kernel_rfl) ?_
        refine W_region (by kernel_rfl) ?_
        refine WO_run (j := 2) (k := 2) (orcs := []) (kF := [0, 4, 5, 6, 21, 22]) (kL := []) (fr' := [(0, aD (.slice (.slice tI)) a0), (4, aI (0 : Int)), (5, .one (.nilS)), (6, aI (0 : Int)), (21, aD (.slice (.slice tI)) a0), (22, aI (0 : Int))]) (L' := []) (obs := []) rfl (by kernel_rfl) allP0 ?_
        obtain ⟨r795, h796, h⟩ := bind_of h
        refine WO_call0 (us := [none, none]) (d := 23) (p := True) (j := 3) rfl ⟨by kernel_rfl, by kernel_rfl, by kernel_rfl⟩ trivial (ref_without_ok h796) (by kernel_rfl) ?_
        obtain ⟨r797, h798, h⟩ := bind_of h
        refine WO_call0 (us := [none]) (d := 24) (p := True) (j := 4) rfl ⟨by kernel_rfl, by kernel_rfl, by kernel_rfl⟩ trivial (ih_ref_Greatest h798) (by kernel_rfl) ?_
        refine WO_run (j := 9) (k := 5) (orcs := []) (kF := [0, 4, 5, 6, 7, 8]) (kL := []) (fr' := [(0, aD (.slice (.slice tI)) a0), (4, aI (0 : Int)), (5, .one (.nilS)), (6, aI (0 : Int)), (7, aI r797.1), (8, aD (.slice tI) r797.2)]) (L' := []) (obs := []) rfl (by kernel_rfl) allP0 ?_
        refine WO_fin [0, 4, 5, 6, 7, 8] [] (fr' := [(0, aD (.slice (.slice tI)) a0), (4, aI (0 : Int)), (5, .one (.nilS)), (6, aI (0 : Int)), (7, aI r797.1), (8, aD (.slice tI) r797.2)]) (L' := []) (by kernel_rfl) (by kernel_rfl) ?_
        refine seqQ_norm ?_
        refine W_seq (by kernel_rfl) ?_
        refine W_run 14 [(6, .known true), (8, .known true), (10, .known true), (12, .known true), (14, .known true), (16, .known true), (18, .known true), (20, .known true), (22, .known true), (24, .known true), (27, .val (.dat .bool true))] [0, 4, 5, 6, 7, 8, 40] [] (fr' := [(0, aD (.slice (.slice tI)) a0), (4, aI (0 : Int)), (5, .one (.nilS)), (6, aI (0 : Int)), (7, aI r797.1), (8, aD (.slice tI) r797.2), (40, aB true)]) (L' := []) (obs := [(true = true), (true = true), (true = true), (true = true), (true = true), (true = true), (true = true), (true = true), (true = true), (true = true), (true = true)]) (by kernel_rfl) (by kernel_rfl) (by kernel_rfl) (allP2 rfl (allP2 rfl (allP2 rfl (allP2 rfl (allP2 rfl (allP2 rfl (allP2 rfl (allP2 rfl (allP2 rfl (allP2 rfl (allP1 rfl))))))))))) ?_
        refine seqQ_norm ?_
        refine W_cond (o := .tmp 40) (b := true) (by kernel_rfl) (by kernel_rfl) (fun h799 => ?_) (fun h799 => by have := (rfl : true = true).symm.trans h799; cases this)
        refine W_seq (by kernel_rfl) ?_
        obtain ⟨v800, h801, h⟩ := bind_of h
        obtain ⟨v802, h803, h⟩ := bind_of h
        refine W_run 9 [(5, .val (.dat (.slice tI) v800)), (11, .val (.dat tI v802))] [0, 4, 6, 8] [] (fr' := [(0, aD (.slice (.slice tI)) a0), (4, aI (w64 (r797.1 + v802))), (6, aI (0 : Int)), (8, aD (.slice tI) r797.2)]) (L' := []) (obs := [Idx a0 (0 : Int) v800, Idx v800 (0 : Int) v802]) (by kernel_rfl) (by kernel_rfl) (by kernel_rfl) (allP2 (Idx.of h801) (allP1 (Idx.of h803))) ?_
        refine seqQ_norm ?_
        refine W_seq (by kernel_rfl) ?_
        refine W_run 3 [] [0, 4, 5, 6, 8] [50] (fr' := [(0, aD (.slice (.slice tI)) a0), (4, aI (w64 (r797.1 + v802))), (5, .one (.slc 50)), (6, aI (0 : Int)), (8, aD (.slice tI) r797.2)]) (L' := [(50, .seq tI [(0 : Int)])]) (obs := []) (by kernel_rfl) (by kernel_rfl) (by kernel_rfl) allP0 ?_
        refine seqQ_norm ?_
        refine W_seq (by kernel_rfl) ?_
        refine W_run 3 [] [0, 4, 5, 6, 51, 52, 53] [50] (fr' := [(0, aD (.slice (.slice tI)) a0), (4, aI (w64 (r797.1 + v802))), (5, .one (.slc 50)), (6, aI (0 : Int)), (51, aD (.slice tI) r797.2), (52, aI (List.length r797.2 : Int)), (53, aI (0 : Int))]) (L' := [(50, .seq tI [(0 : Int)])]) (obs := []) (by kernel_rfl) (by kernel_rfl) (by kernel_rfl) allP0 ?_
        refine seqQ_norm ?_
        refine W_block (id := 2) (by kernel_rfl) ?_
        obtain ⟨v857, h858, h⟩ := bind_of h
        refine W_len (t := 51) (u := tI) (xs := r797.2) (by kernel_rfl) (fun h861 => ?_)
        obtain ⟨h859, h860⟩ := forL_iter h861 h858
        refine W_weaken [0, 4, 5, 6, 51, 52, 53] [50] (fr' := ((ref_Greatest_s111 a0 r797 v802) ((0 : Int), [(0 : Int)])).1) (L' := ((ref_Greatest_s111 a0 r797 v802) ((0 : Int), [(0 : Int)])).2) (by kernel_rfl) ?_
        refine W_cutK (W_loop (S := (ref_Greatest_s111 a0 r797 v802)) (J := (exQ (.exit 2) (ref_Greatest_s112 a0 r797 v802))) (by kernel_rfl) ?_ h859 _ v857 h860) ?_
        · rintro ⟨i838, x839⟩ s h
          refine W_seq (by kernel_rfl) ?_
          refine W_run 1 [] [0, 4, 5, 6, 51, 52, 53, 54] [50] (fr' := [(0, aD (.slice (.slice tI)) a0), (4, aI (w64 (r797.1 + v802))), (5, .one (.slc 50)), (6, aI (0 : Int)), (51, aD (.slice tI) r797.2), (52, aI (List.length r797.2 : Int)), (53, aI i838), (54, aB (decide (i838 < (List.length r797.2 : Int))))]) (L' := [(50, .seq tI x839)]) (obs := []) (by kernel_rfl) (by kernel_rfl) (by kernel_rfl) allP0 ?_
          refine seqQ_norm ?_
          refine W_seq (by kernel_rfl) ?_
          refine W_cond (o := .tmp 54) (b := decide (i838 < (List.length r797.2 : Int))) (by kernel_rfl) (by kernel_rfl) (fun h843 => ?_) (fun h843 => ?_)
          · replace h := stepL_true h843 h
            obtain ⟨v841, _, h842, h, rfl⟩ := h
            refine W_skip [0, 4, 5, 6, 51, 52, 53] [50] (fr' := [(0, aD (.slice (.slice tI)) a0), (4, aI (w64 (r797.1 + v802))), (5, .one (.slc 50)), (6, aI (0 : Int)), (51, aD (.slice tI) r797.2), (52, aI (List.length r797.2 : Int)), (53, aI i838)]) (L' := [(50, .seq tI x839)]) (by kernel_rfl) (by kernel_rfl) ?_
            refine seqQ_norm ?_
            refine W_seq (by kernel_rfl) ?_
            refine W_block (id := 3) (by kernel_rfl) ?_
            refine W_seq (by kernel_rfl) ?_
            refine W_run 3 [(1, .val (.dat tI v841))] [0, 4, 5, 6, 10, 51, 52, 53] [50] (fr' := [(0, aD (.slice (.slice tI)) a0), (4, aI (w64 (r797.1 + v802))), (5, .one (.slc 50)), (6, aI (0 : Int)), (10, aI v841), (51, aD (.slice tI) r797.2), (52, aI (List.length r797.2 : Int)), (53, aI i838)]) (L' := [(50, .seq tI x839)]) (obs := [Idx r797.2 i838 v841]) (by kernel_rfl) (by kernel_rfl) (by kernel_rfl) (allP1 (Idx.of h842)) ?_
            refine seqQ_norm ?_
            refine W_seq (by kernel_rfl) ?_
            obtain ⟨v853, h854, h⟩ := bind_of h
            refine W_cutK (Q' := (exQ .normal (ref_Greatest_s109 a0 r797 v802 i838 x839)) v853) ?_ ?_
            · replace h := h854
              refine W_seq (by kernel_rfl) ?_
              refine W_run 3 [] [0, 4, 5, 6, 10, 51, 52, 53, 59] [50] (fr' := [(0, aD (.slice (.slice tI)) a0), (4, aI (w64 (r797.1 + v802))), (5, .one (.slc 50)), (6, aI (0 : Int)), (10, aI v841), (51, aD (.slice tI) r797.2), (52, aI (List.length r797.2 : Int)), (53, aI i838), (59, aB (decide (v841 ≥ (0 : Int))))]) (L' := [(50, .seq tI x839)]) (obs := []) (by kernel_rfl) (by kernel_rfl) (by kernel_rfl) allP0 ?_
              refine seqQ_norm ?_
              refine W_cond (o := .tmp 59) (b := decide (v841 ≥ (0 : Int))) (by kernel_rfl) (by kernel_rfl) (fun h852 => ?_) (fun h852 => ?_)
              · replace h := ofT h852 h
                obtain rfl := Option.some.inj h
                refine W_run 3 [] [0, 4, 5, 6, 10, 51, 52, 53] [50] (fr' := [(0, aD (.slice (.slice tI)) a0), (4, aI (w64 (r797.1 + v802))), (5, .one (.slc 50)), (6, aI (0 : Int)), (10, aI (w64 (v841 + (1 : Int)))), (51, aD (.slice tI) r797.2), (52, aI (List.length r797.2 : Int)), (53, aI i838)]) (L' := [(50, .seq tI x839)]) (obs := []) (by kernel_rfl) (by kernel_rfl) (by kernel_rfl) allP0 ?_
                exact exQ_mk (by kernel_rfl) (by kernel_rfl)
              · replace h := ofF h852 h
                obtain rfl := Option.some.inj h
                refine W_skip [0, 4, 5, 6, 10, 51, 52, 53] [50] (fr' := [(0, aD (.slice (.slice tI)) a0), (4, aI (w64 (r797.1 + v802))), (5, .one (.slc 50)), (6, aI (0 : Int)), (10, aI v841), (51, aD (.slice tI) r797.2), (52, aI (List.length r797.2 : Int)), (53, aI i838)]) (L' := [(50, .seq tI x839)]) (by kernel_rfl) (by kernel_rfl) ?_
                exact exQ_mk (by kernel_rfl) (by kernel_rfl)
            · intro e fr L hJ
              obtain ⟨rfl, rfl, rfl⟩ := hJ
              refine LT_keep [0, 4, 5, 6, 10, 51, 52, 53] [50] (fr' := [(0, aD (.slice (.slice tI)) a0), (4, aI (w64 (r797.1 + v802))), (5, .one (.slc 50)), (6, aI (0 : Int)), (10, aI v853), (51, aD (.slice tI) r797.2), (52, aI (List.length r797.2 : Int)), (53, aI i838)]) (L' := [(50, .seq tI x839)]) (by kernel_rfl) ?_
              refine seqQ_norm ?_
              obtain ⟨_, h855, h⟩ := bind_of h
              replace h855 := ck_some h855
              refine W_run 5 [] [0, 4, 5, 6, 51, 52, 53] [50] (fr' := [(0, aD (.slice (.slice tI)) a0), (4, aI (w64 (r797.1 + v802))), (5, .one (.slc 50)), (6, aI (0 : Int)), (51, aD (.slice tI) r797.2), (52, aI (List.length r797.2 : Int)), (53, aI i838)]) (L' := [(50, .seq tI (x839 ++ [v853]))]) (obs := [SmallLen (List.length x839 + List.length [v853])]) (by kernel_rfl) (by kernel_rfl) (by kernel_rfl) (allP1 h855) ?_
              refine blockQ_norm ?_
              refine seqQ_norm ?_
              obtain rfl := Option.some.inj h
              refine W_run 2 [] [0, 4, 5, 6, 51, 52, 53] [50] (fr' := [(0, aD (.slice (.slice tI)) a0), (4, aI (w64 (r797.1 + v802))), (5, .one (.slc 50)), (6, aI (0 : Int)), (51, aD (.slice tI) r797.2), (52, aI (List.length r797.2 : Int)), (53, aI (w64 (i838 + (1 : Int))))]) (L' := [(50, .seq tI (x839 ++ [v853]))]) (obs := []) (by kernel_rfl) (by kernel_rfl) (by kernel_rfl) allP0 ?_
              exact round_next' (by kernel_rfl) (by kernel_rfl)
          · obtain rfl := stepL_false h843 h
            refine W_exit (id := 2) [0, 4, 5, 6] [50] (fr' := [(0, aD (.slice (.slice tI)) a0), (4, aI (w64 (r797.1 + v802))), (5, .one (.slc 50)), (6, aI (0 : Int))]) (L' := [(50, .seq tI x839)]) (by kernel_rfl) (by kernel_rfl) ?_
            refine seqQ_exit ?_
            refine round_exit ?_
            exact exQ_mk (by kernel_rfl) (by kernel_rfl)
        · intro e fr L hJ
          obtain ⟨rfl, rfl, rfl⟩ := hJ
          refine LT_keep [0, 4, 5, 6] [50] (fr' := [(0, aD (.slice (.slice tI)) a0), (4, aI (w64 (r797.1 + v802))), (5, .one (.slc 50)), (6, aI (0 : Int))]) (L' := [(50, .seq tI v857)]) (by kernel_rfl) ?_
          refine blockQ_hit ?_
          refine blockQ_norm ?_
          refine seqQ_norm ?_
          obtain rfl := Option.some.inj h
          refine W_run 3 [] [0, 4, 5, 6] [50] (fr' := [(0, aD (.slice (.slice tI)) a0), (4, aI (w64 (r797.1 + v802))), (5, .one (.slc 50)), (6, aI (1 : Int))]) (L' := [(50, .seq tI v857)]) (obs := []) (by kernel_rfl) (by kernel_rfl) (by kernel_rfl) allP0 ?_
          exact round_next' (by kernel_rfl) (by kernel_rfl)
      · replace h := ofF h727 h
        obtain rfl := Option.some.inj h
        refine W_mine 5 50 tI (by kernel_rfl) ?_
        refine W_exit (id := 0) [4, 5] [50] (fr' := [(4, aI (0 : Int)), (5, .one (.slc 50))]) (L' := [(50, .seq tI [])]) (by kernel_rfl) (by kernel_rfl) ?_
        refine seqQ_exit ?_
        refine round_exit ?_
        exact exQ_mk (by kernel_rfl) (by kernel_rfl)
    · rintro x862 s h
      refine W_seq (by kernel_rfl) ?_
      refine W_seq (by kernel_rfl) ?_
      refine W_run 4 [] [0, 4, 5, 6, 17] [50] (fr' := [(0, aD (.slice (.slice tI)) a0), (4, aI x862.1), (5, .one (.slc 50)), (6, aI x862.2.1), (17, aB (decide (x862.2.1 < (List.length a0 : Int))))]) (L' := [(50, .seq tI x862.2.2)]) (obs := []) (by kernel_rfl) (by kernel_rfl) (by kernel_rfl) allP0 ?_
      refine seqQ_norm ?_
      refine W_cond (o := .tmp 17) (b := decide (x862.2.1 < (List.length a0 : Int))) (by kernel_rfl) (by kernel_rfl) (fun h863 => ?_) (fun h863 => ?_)
      · replace h := ofT h863 h
        refine W_skip [0, 4, 5, 6] [50] (fr' := [(0, aD (.slice (.slice tI)) a0), (4, aI x862.1), (5, .one (.slc 50)), (6, aI x862.2.1)]) (L' := [(50, .seq tI x862.2.2)]) (by kernel_rfl) (by kernel_rfl) ?_
        refine seqQ_norm ?_
        refine W_seq (by kernel_rfl) ?_
        obtain ⟨v1083, h1084, h⟩ := bind_of h
        refine W_cutK (Q' := (exQ .normal (ref_Greatest_s142 a0 x862)) v1083) ?_ ?_
        · replace h := h1084
          refine W_block (id := 1) (by kernel_rfl) ?_
          refine W_seq (by kernel_rfl) ?_
          refine W_region (by kernel_rfl) ?_
          refine WO_run (j := 2) (k := 2) (orcs := []) (kF := [0, 4, 5, 6, 21, 22]) (kL := [50]) (fr' := [(0, aD (.slice (.slice tI)) a0), (4, aI x862.1), (5, .one (.slc 50)), (6, aI x862.2.1), (21, aD (.slice (.slice tI)) a0), (22, aI x862.2.1)]) (L' := [(50, .seq tI x862.2.2)]) (obs := []) rfl (by kernel_rfl) allP0 ?_
          obtain ⟨r1010, h1011, h⟩ := bind_of h
          refine WO_call0 (us := [none, none]) (d := 23) (p := True) (j := 3) rfl ⟨by kernel_rfl, by kernel_rfl, by kernel_rfl⟩ trivial (ref_without_ok h1011) (by kernel_rfl) ?_
          obtain ⟨r1012, h1013, h⟩ := bind_of h
          refine WO_call0 (us := [none]) (d := 24) (p := True) (j := 4) rfl ⟨by kernel_rfl, by kernel_rfl, by kernel_rfl⟩ trivial (ih_ref_Greatest h1013) (by kernel_rfl) ?_
          refine WO_run (j := 9) (k := 5) (orcs := []) (kF := [0, 4, 5, 6, 7, 8]) (kL := [50]) (fr' := [(0, aD (.slice (.slice tI)) a0), (4, aI x862.1), (5, .one (.slc 50)), (6, aI x862.2.1), (7, aI r1012.1), (8, aD (.slice tI) r1012.2)]) (L' := [(50, .seq tI x862.2.2)]) (obs := []) rfl (by kernel_rfl) allP0 ?_
          refine WO_fin [0, 4, 5, 6, 7, 8] [50] (fr' := [(0, aD (.slice (.slice tI)) a0), (4, aI x862.1), (5, .one (.slc 50)), (6, aI x862.2.1), (7, aI r1012.1), (8, aD (.slice tI) r1012.2)]) (L' := [(50, .seq tI x862.2.2)]) (by kernel_rfl) (by kernel_rfl) ?_
          refine seqQ_norm ?_
          refine W_seq (by kernel_rfl) ?_
          obtain ⟨_, h1019, h⟩ := bind_of h
          replace h1019 := ck_some h1019
          refine W_region (by kernel_rfl) ?_
          refine WO_run (j := 1) (k := 1) (orcs := []) (kF := [0, 4, 5, 6, 7, 8, 27]) (kL := [50]) (fr' := [(0, aD (.slice (.slice tI)) a0), (4, aI x862.1), (5, .one (.slc 50)), (6, aI x862.2.1), (7, aI r1012.1), (8, aD (.slice tI) r1012.2), (27, .one (.slc 50))]) (L' := [(50, .seq tI x862.2.2)]) (obs := []) rfl (by kernel_rfl) allP0 ?_
          refine WO_nilO (u := tI) (xs := x862.2.2) (d := 28) (j := 2) rfl (by kernel_rfl) (by kernel_rfl) h1019 ?_
          obtain ⟨v1020, h1021, h⟩ := bind_of h
          obtain ⟨v1022, h1023, h⟩ := bind_of h
          refine WO_run (j := 14) (k := 12) (orcs := [(6, .known false), (8, .known false), (10, .known false), (11, .val (.dat (.slice tI) v1020)), (12, .known false), (14, .known false), (16, .known false), (17, .val (.dat tI v1022)), (18, .known false), (20, .known false), (22, .known false), (24, .known false), (27, .val (.dat .bool false))]) (kF := [0, 4, 5, 6, 7, 8, 40]) (kL := [50]) (fr' := [(0, aD (.slice (.slice tI)) a0), (4, aI x862.1), (5, .one (.slc 50)), (6, aI x862.2.1), (7, aI r1012.1), (8, aD (.slice tI) r1012.2), (40, aB (decide ((w64 (r1012.1 + v1022)) > x862.1)))]) (L' := [(50, .seq tI x862.2.2)]) (obs := [(false = false), (false = false), (false = false), Idx a0 (0 : Int) v1020, (false = false), (false = false), (false = false), Idx v1020 x862.2.1 v1022, (false = false), (false = false), (false = false), (false = false), (false = false)]) rfl (by kernel_rfl) (allP2 rfl (allP2 rfl (allP2 rfl (allP2 (Idx.of h1021) (allP2 rfl (allP2 rfl (allP2 rfl (allP2 (Idx.of h1023) (allP2 rfl (allP2 rfl (allP2 rfl (allP2 rfl (allP1 rfl))))))))))))) ?_
          refine WO_fin [0, 4, 5, 6, 7, 8, 40] [50] (fr' := [(0, aD (.slice (.slice tI)) a0), (4, aI x862.1), (5, .one (.slc 50)), (6, aI x862.2.1), (7, aI r1012.1), (8, aD (.slice tI) r1012.2), (40, aB (decide ((w64 (r1012.1 + v1022)) > x862.1)))]) (L' := [(50, .seq tI x862.2.2)]) (by kernel_rfl) (by kernel_rfl) ?_
          refine seqQ_norm ?_
          refine W_cond (o := .tmp 40) (b := decide ((w64 (r1012.1 + v1022)) > x862.1)) (by kernel_rfl) (by kernel_rfl) (fun h1024 => ?_) (fun h1024 => ?_)
          · replace h := ofT h1024 h
            refine W_seq (by kernel_rfl) ?_
            refine W_run 9 [(5, .val (.dat (.slice tI) v1020)), (11, .val (.dat tI v1022))] [0, 4, 6, 8] [] (fr' := [(0, aD (.slice (.slice tI)) a0), (4, aI (w64 (r1012.1 + v1022))), (6, aI x862.2.1), (8, aD (.slice tI) r1012.2)]) (L' := []) (obs := [Idx a0 (0 : Int) v1020, Idx v1020 x862.2.1 v1022]) (by kernel_rfl) (by kernel_rfl) (by kernel_rfl) (allP2 (Idx.of h1021) (allP1 (Idx.of h1023))) ?_
            refine seqQ_norm ?_
            refine W_seq (by kernel_rfl) ?_
            refine W_run 3 [] [0, 4, 5, 6, 8] [50] (fr' := [(0, aD (.slice (.slice tI)) a0), (4, aI (w64 (r1012.1 + v1022))), (5, .one (.slc 50)), (6, aI x862.2.1), (8, aD (.slice tI) r1012.2)]) (L' := [(50, .seq tI [x862.2.1])]) (obs := []) (by kernel_rfl) (by kernel_rfl) (by kernel_rfl) allP0 ?_
            refine seqQ_norm ?_
            refine W_seq (by kernel_rfl) ?_
            refine W_run 3 [] [0, 4, 5, 6, 51, 52, 53] [50] (fr' := [(0, aD (.slice (.slice tI)) a0), (4, aI (w64 (r1012.1 + v1022))), (5, .one (.slc 50)), (6, aI x862.2.1), (51, aD (.slice tI) r1012.2), (52, aI (List.length r1012.2 : Int)), (53, aI (0 : Int))]) (L' := [(50, .seq tI [x862.2.1])]) (obs := []) (by kernel_rfl) (by kernel_rfl) (by kernel_rfl) allP0 ?_
            refine seqQ_norm ?_
            refine W_block (id := 2) (by kernel_rfl) ?_
            obtain ⟨v1078, h1079, h⟩ := bind_of h
            refine W_len (t := 51) (u := tI) (xs := r1012.2) (by kernel_rfl) (fun h1082 => ?_)
            obtain ⟨h1080, h1081⟩ := forL_iter h1082 h1079
            refine W_weaken [0, 4, 5, 6, 51, 52, 53] [50] (fr' := ((ref_Greatest_s139 a0 x862 r1012 v1022) ((0 : Int), [x862.2.1])).1) (L' := ((ref_Greatest_s139 a0 x862 r1012 v1022) ((0 : Int), [x862.2.1])).2) (by kernel_rfl) ?_
            refine W_cutK (W_loop (S := (ref_Greatest_s139 a0 x862 r1012 v1022)) (J := (exQ (.exit 2) (ref_Greatest_s140 a0 x862 r1012 v1022))) (by kernel_rfl) ?_ h1080 _ v1078 h1081) ?_
            · rintro ⟨i1059, x1060⟩ s h
              refine W_seq (by kernel_rfl) ?_
              refine W_run 1 [] [0, 4, 5, 6, 51, 52, 53, 54] [50] (fr' := [(0, aD (.slice (.slice tI)) a0), (4, aI (w64 (r1012.1 + v1022))), (5, .one (.slc 50)), (6, aI x862.2.1), (51, aD (.slice tI) r1012.2), (52, aI (List.length r1012.2 : Int)), (53, aI i1059), (54, aB (decide (i1059 < (List.length r1012.2 : Int))))]) (L' := [(50, .seq tI x1060)]) (obs := []) (by kernel_rfl) (by kernel_rfl) (by kernel_rfl) allP0 ?_
              refine seqQ_norm ?_
              refine W_seq (by kernel_rfl) ?_
              refine W_cond (o := .tmp 54) (b := decide (i1059 < (List.length r1012.2 : Int))) (by kernel_rfl) (by kernel_rfl) (fun h1064 => ?_) (fun h1064 => ?_)
              · replace h := stepL_true h1064 h
                obtain ⟨v1062, _, h1063, h, rfl⟩ := h
                refine W_skip [0, 4, 5, 6, 51, 52, 53] [50] (fr' := [(0, aD (.slice (.slice tI)) a0), (4, aI (w64 (r1012.1 + v1022))), (5, .one (.slc 50)), (6, aI x862.2.1), (51, aD (.slice tI) r1012.2), (52, aI (List.length r1012.2 : Int)), (53, aI i1059)]) (L' := [(50, .seq tI x1060)]) (by kernel_rfl) (by kernel_rfl) ?_
                refine seqQ_norm ?_
                refine W_seq (by kernel_rfl) ?_
                refine W_block (id := 3) (by kernel_rfl) ?_
                refine W_seq (by kernel_rfl) ?_
                refine W_run 3 [(1, .val (.dat tI v1062))] [0, 4, 5, 6, 10, 51, 52, 53] [50] (fr' := [(0, aD (.slice (.slice tI)) a0), (4, aI (w64 (r1012.1 + v1022))), (5, .one (.slc 50)), (6, aI x862.2.1), (10, aI v1062), (51, aD (.slice tI) r1012.2), (52, aI (List.length r1012.2 : Int)), (53, aI i1059)]) (L' := [(50, .seq tI x1060)]) (obs := [Idx r1012.2 i1059 v1062]) (by kernel_rfl) (by kernel_rfl) (by kernel_rfl) (allP1 (Idx.of h1063)) ?_
                refine seqQ_norm ?_
                refine W_seq (by kernel_rfl) ?_
                obtain ⟨v1074, h1075, h⟩ := bind_of h
                refine W_cutK (Q' := (exQ .normal (ref_Greatest_s137 a0 x862 r1012 v1022 i1059 x1060)) v1074) ?_ ?_
                · replace h := h1075
                  refine W_seq (by kernel_rfl) ?_
                  refine W_run 3 [] [0, 4, 5, 6, 10, 51, 52, 53, 59] [50] (fr' := [(0, aD (.slice (.slice tI)) a0), (4, aI (w64 (r1012.1 + v1022))), (5, .one (.slc 50)), (6, aI x862.2.1), (10, aI v1062), (51, aD (.slice tI) r1012.2), (52, aI (List.length r1012.2 : Int)), (53, aI i1059), (59, aB (decide (v1062 ≥ x862.2.1)))]) (L' := [(50, .seq tI x1060)]) (obs := []) (by kernel_rfl) (by kernel_rfl) (by kernel_rfl) allP0 ?_
                  refine seqQ_norm ?_
                  refine W_cond (o := .tmp 59) (b := decide (v1062 ≥ x862.2.1)) (by kernel_rfl) (by kernel_rfl) (fun h1073 => ?_) (fun h1073 => ?_)
                  · replace h := ofT h1073 h
                    obtain rfl := Option.some.inj h
                    refine W_run 3 [] [0, 4, 5, 6, 10, 51, 52, 53] [50] (fr' := [(0, aD (.slice (.slice tI)) a0), (4, aI (w64 (r1012.1 + v1022))), (5, .one (.slc 50)), (6, aI x862.2.1), (10, aI (w64 (v1062 + (1 : Int)))), (51, aD (.slice tI) r1012.2), (52, aI (List.length r1012.2 : Int)), (53, aI i1059)]) (L' := [(50, .seq tI x1060)]) (obs := []) (by kernel_rfl) (by kernel_rfl) (by kernel_rfl) allP0 ?_
                    exact exQ_mk (by kernel_rfl) (by kernel_rfl)
                  · replace h := ofF h1073 h
                    obtain rfl := Option.some.inj h
                    refine W_skip [0, 4, 5, 6, 10, 51, 52, 53] [50] (fr' := [(0, aD (.slice (.slice tI)) a0), (4, aI (w64 (r1012.1 + v1022))), (5, .one (.slc 50)), (6, aI x862.2.1), (10, aI v1062), (51, aD (.slice tI) r1012.2), (52, aI (List.length r1012.2 : Int)), (53, aI i1059)]) (L' := [(50, .seq tI x1060)]) (by kernel_rfl) (by kernel_rfl) ?_
                    exact exQ_mk (by kernel_rfl) (by kernel_rfl)
                · intro e fr L hJ
                  obtain ⟨rfl, rfl, rfl⟩ := hJ
                  refine LT_keep [0, 4, 5, 6, 10, 51, 52, 53] [50] (fr' := [(0, aD (.slice (.slice tI)) a0), (4, aI (w64 (r1012.1 + v1022))), (5, .one (.slc 50)), (6, aI x862.2.1), (10, aI v1074), (51, aD (.slice tI) r1012.2), (52, aI (List.length r1012.2 : Int)), (53, aI i1059)]) (L' := [(50, .seq tI x1060)]) (by kernel_rfl) ?_
                  refine seqQ_norm ?_
                  obtain ⟨_, h1076, h⟩ := bind_of h
                  replace h1076 := ck_some h1076
                  refine W_run 5 [] [0, 4, 5, 6, 51, 52, 53] [50] (fr' := [(0, aD (.slice (.slice tI)) a0), (4, aI (w64 (r1012.1 + v1022))), (5, .one (.slc 50)), (6, aI x862.2.1), (51, aD (.slice tI) r1012.2), (52, aI (List.length r1012.2 : Int)), (53, aI i1059)]) (L' := [(50, .seq tI (x1060 ++ [v1074]))]) (obs := [SmallLen (List.length x1060 + List.length [v1074])]) (by kernel_rfl) (by kernel_rfl) (by kernel_rfl) (allP1 h1076) ?_
                  refine blockQ_norm ?_
                  refine seqQ_norm ?_
                  obtain rfl := Option.some.inj h
                  refine W_run 2 [] [0, 4, 5, 6, 51, 52, 53] [50] (fr' := [(0, aD (.slice (.slice tI)) a0), (4, aI (w64 (r1012.1 + v1022))), (5, .one (.slc 50)), (6, aI x862.2.1), (51, aD (.slice tI) r1012.2), (52, aI (List.length r1012.2 : Int)), (53, aI (w64 (i1059 + (1 : Int))))]) (L' := [(50, .seq tI (x1060 ++ [v1074]))]) (obs := []) (by kernel_rfl) (by kernel_rfl) (by kernel_rfl) allP0 ?_
                  exact round_next' (by kernel_rfl) (by kernel_rfl)
              · obtain rfl := stepL_false h1064 h
                refine W_exit (id := 2) [0, 4, 5, 6] [50] (fr' := [(0, aD (.slice (.slice tI)) a0), (4, aI (w64 (r1012.1 + v1022))), (5, .one (.slc 50)), (6, aI x862.2.1)]) (L' := [(50, .seq tI x1060)]) (by kernel_rfl) (by kernel_rfl) ?_
                refine seqQ_exit ?_
                refine round_exit ?_
                exact exQ_mk (by kernel_rfl) (by kernel_rfl)
            · intro e fr L hJ
              obtain ⟨rfl, rfl, rfl⟩ := hJ
              obtain rfl := Option.some.inj h
              refine LT_keep [0, 4, 5, 6] [50] (fr' := [(0, aD (.slice (.slice tI)) a0), (4, aI (w64 (r1012.1 + v1022))), (5, .one (.slc 50)), (6, aI x862.2.1)]) (L' := [(50, .seq tI v1078)]) (by kernel_rfl) ?_
              refine blockQ_hit ?_
              refine blockQ_norm ?_
              exact exQ_mk (by kernel_rfl) (by kernel_rfl)
          · replace h := ofF h1024 h
            obtain rfl := Option.some.inj h
            refine W_skip [0, 4, 5, 6] [50] (fr' := [(0, aD (.slice (.slice tI)) a0), (4, aI x862.1), (5, .one (.slc 50)), (6, aI x862.2.1)]) (L' := [(50, .seq tI x862.2.2)]) (by kernel_rfl) (by kernel_rfl) ?_
            refine blockQ_norm ?_
            exact exQ_mk (by kernel_rfl) (by kernel_rfl)
        · intro e fr L hJ
          obtain ⟨rfl, rfl, rfl⟩ := hJ
          refine LT_keep [0, 4, 5, 6] [50] (fr' := [(0, aD (.slice (.slice tI)) a0), (4, aI v1083.1), (5, .one (.slc 50)), (6, aI x862.2.1)]) (L' := [(50, .seq tI v1083.2)]) (by kernel_rfl) ?_
          refine seqQ_norm ?_
          obtain rfl := Option.some.inj h
          refine W_run 3 [] [0, 4, 5, 6] [50] (fr' := [(0, aD (.slice (.slice tI)) a0), (4, aI v1083.1), (5, .one (.slc 50)), (6, aI (w64 (x862.2.1 + (1 : Int))))]) (L' := [(50, .seq tI v1083.2)]) (obs := []) (by kernel_rfl) (by kernel_rfl) (by kernel_rfl) allP0 ?_
          exact round_next' (by kernel_rfl) (by kernel_rfl)
      · replace h := ofF h863 h
        obtain rfl := Option.some.inj h
        refine W_exit (id := 0) [4, 5] [50] (fr' := [(4, aI x862.1), (5, .one (.slc 50))]) (L' := [(50, .seq tI x862.2.2)]) (by kernel_rfl) (by kernel_rfl) ?_
        refine seqQ_exit ?_
        refine round_exit ?_
        exact exQ_mk (by kernel_rfl) (by kernel_rfl)
    · intro e fr L hJ
      obtain ⟨rfl, rfl, rfl⟩ := hJ
      refine LT_keep [4, 5] [50] (fr' := [(4, aI v1085.1), (5, .one (.slc 50))]) (L' := [(50, .seq tI v1085.2)]) (by kernel_rfl) ?_
      refine blockQ_hit ?_
      refine seqQ_norm ?_
      refine W_seq (by kernel_rfl) ?_
      refine W_run 4 [] [2, 3] [50] (fr' := [(2, aI v1085.1), (3, .one (.slc 50))]) (L' := [(50, .seq tI v1085.2)]) (obs := []) (by kernel_rfl) (by kernel_rfl) (by kernel_rfl) allP0 ?_
      refine seqQ_norm ?_
      obtain rfl := Option.some.inj h
      refine W_frz 50 (by kernel_rfl) ?_
      refine W_ret [2, 3] [] (fr' := [(2, aI v1085.1), (3, aD (.slice tI) v1085.2)]) (L' := []) (by kernel_rfl) (by kernel_rfl) ?_
      exact retQ_mk (by kernel_rfl) (by kernel_rfl) (by kernel_rfl)
theorem ref_Greatest_ok : ∀ {fuel : Nat} {a0 : (List (List Int))} {r : (Int × (List Int))}, ref_Greatest fuel a0 = some r → FnC Try.prog 34 [aD (.slice (.slice tI)) a0] [] (.tup [.dat tI r.1, .dat (.slice tI) r.2]) [] := by
  intro fuel
  induction fuel with
  | zero => intros a0 r h; cases h
  | succ fuel ih => intros a0 r h; exact ref_Greatest_step_ok (fun h => ih h) (show ref_Greatest_step (ref_Greatest fuel) fuel a0 = some r from h)

def ref_Ints_b1 (a1 : (List Int)) (i16 : Int) (v19 : Int) (x17 : Unit) : Option (Flow Unit (Esc Bool Unit)) :=
(idx a1 i16).bind fun v22 =>
bif v19 != v22 then
(some (.done (.ret false)))
else
(some (.next ()))
@[reducible] def ref_Ints_s2 (a0 : (List Int)) (a1 : (List Int)) (v : Int × Unit) : Fr × LL := ([(0, aD (.slice tI) a0), (1, aD (.slice tI) a1), (5, aI v.1)], [])
@[reducible] def ref_Ints_s3 (v : Bool) : Fr × LL := ([(4, aB v)], [])
@[reducible] def ref_Ints_s4 (v : Unit) : Fr × LL := ([], [])
def ref_Ints (a0 : (List Int)) (a1 : (List Int)) : Option Bool :=
bif (List.length a0 : Int) != (List.length a1 : Int) then
(some false)
else
((forL (ref_Ints_b1 a1) (fun x17 => (.brk ())) a0 0 ()).bind fun v26 =>
match v26 with
| .ret v31 =>
(some v31)
| .brk v32 =>
(some true))
theorem ref_Ints_ok {a0 : (List Int)} {a1 : (List Int)} {r : Bool} (h : ref_Ints a0 a1 = some r) : FnC Try.prog 35 [aD (.slice tI) a0, aD (.slice tI) a1] [] (aB r) [] := by
  refine fnC_of_W (B := bodyOf Try.f35) (n := 26) Try.func35 (by kernel_rfl) (by kernel_rfl) (by kernel_rfl) (by kernel_rfl) (by kernel_rfl) ?_
  intro K
  refine W_seq (by kernel_rfl) ?_
  refine W_run 1 [] [0, 1] [] (fr' := [(0, aD (.slice tI) a0), (1, aD (.slice tI) a1)]) (L' := []) (obs := []) (by kernel_rfl) (by kernel_rfl) (by kernel_rfl) allP0 ?_
  refine seqQ_norm ?_
  refine W_seq (by kernel_rfl) ?_
  refine W_seq (by kernel_rfl) ?_
  refine W_run 5 [] [0, 1, 10] [] (fr' := [(0, aD (.slice tI) a0), (1, aD (.slice tI) a1), (10, aB ((List.length a0 : Int) != (List.length a1 : Int)))]) (L' := []) (obs := []) (by kernel_rfl) (by kernel_rfl) (by kernel_rfl) allP0 ?_
  refine seqQ_norm ?_
  refine W_cond (o := .tmp 10) (b := (List.length a0 : Int) != (List.length a1 : Int)) (by kernel_rfl) (by kernel_rfl) (fun h1 => ?_) (fun h1 => ?_)
  · replace h := ofT h1 h
    refine W_seq (by kernel_rfl) ?_
    refine W_run 1 [] [4] [] (fr' := [(4, aB false)]) (L' := []) (obs := []) (by kernel_rfl) (by kernel_rfl) (by kernel_rfl) allP0 ?_
    refine seqQ_norm ?_
    obtain rfl := Option.some.inj h
    refine W_ret [4] [] (fr' := [(4, aB false)]) (L' := []) (by kernel_rfl) (by kernel_rfl) ?_
    refine seqQ_ret ?_
    exact retQ_mk (by kernel_rfl) (by kernel_rfl) (by kernel_rfl)
  · replace h := ofF h1 h
    refine W_skip [0, 1] [] (fr' := [(0, aD (.slice tI) a0), (1, aD (.slice tI) a1)]) (L' := []) (by kernel_rfl) (by kernel_rfl) ?_
    refine seqQ_norm ?_
    refine W_seq (by kernel_rfl) ?_
    refine W_seq (by kernel_rfl) ?_
    refine W_run 1 [] [0, 1, 5] [] (fr' := [(0, aD (.slice tI) a0), (1, aD (.slice tI) a1), (5, aI (0 : Int))]) (L' := []) (obs := []) (by kernel_rfl) (by kernel_rfl) (by kernel_rfl) allP0 ?_
    refine seqQ_norm ?_
    refine W_block (id := 0) (by kernel_rfl) ?_
    obtain ⟨v26, h27, h⟩ := bind_of h
    refine W_len (t := 0) (u := tI) (xs := a0) (by kernel_rfl) (fun h30 => ?_)
    obtain ⟨h28, h29⟩ := forL_iter h30 h27
    refine W_weaken [0, 1, 5] [] (fr' := ((ref_Ints_s2 a0 a1) ((0 : Int), ())).1) (L' := ((ref_Ints_s2 a0 a1) ((0 : Int), ())).2) (by kernel_rfl) ?_
    refine W_cutK (W_loop (S := (ref_Ints_s2 a0 a1)) (J := (escQ (exQ .ret ref_Ints_s3) (exQ (.exit 0) ref_Ints_s4))) (by kernel_rfl) ?_ h28 _ v26 h29) ?_
    · rintro ⟨i16, x17⟩ s h
      refine W_seq (by kernel_rfl) ?_
      refine W_seq (by kernel_rfl) ?_
      refine W_run 4 [] [0, 1, 5, 14] [] (fr' := [(0, aD (.slice tI) a0), (1, aD (.slice tI) a1), (5, aI i16), (14, aB (decide (i16 < (List.length a0 : Int))))]) (L' := []) (obs := []) (by kernel_rfl) (by kernel_rfl) (by kernel_rfl) allP0 ?_
      refine seqQ_norm ?_
      refine W_cond (o := .tmp 14) (b := decide (i16 < (List.length a0 : Int))) (by kernel_rfl) (by kernel_rfl) (fun h21 => ?_) (fun h21 => ?_)
      · replace h := stepL_true h21 h
        obtain ⟨v19, _, h20, h, rfl⟩ := h
        refine W_skip [0, 1, 5] [] (fr' := [(0, aD (.slice tI) a0), (1, aD (.slice tI) a1), (5, aI i16)]) (L' := []) (by kernel_rfl) (by kernel_rfl) ?_
        refine seqQ_norm ?_
        refine W_seq (by kernel_rfl) ?_
        refine W_block (id := 1) (by kernel_rfl) ?_
        refine W_seq (by kernel_rfl) ?_
        obtain ⟨v22, h23, h⟩ := bind_of h
        refine W_draw2 9 [(5, .val (.dat tI v19)), (13, .val (.dat tI v22))] [] [0, 1, 5, 25] [] (fr' := [(0, aD (.slice tI) a0), (1, aD (.slice tI) a1), (5, aI i16), (25, aB (v19 != v22))]) (L' := []) (out := [(17, aD (.slice tI) a0), (18, aI i16), (19, .one (.dptr tI v19)), (20, aI v19), (21, aD (.slice tI) a1), (22, aI i16), (23, .one (.dptr tI v22)), (24, aI v22), (25, aB (v19 != v22))]) (obs := [Idx a0 i16 v19, Idx a1 i16 v22]) (obs2 := []) (calls := []) (by kernel_rfl) (by kernel_rfl) (by kernel_rfl) (by kernel_rfl) (allP2 (Idx.of h20) (allP1 (Idx.of h23))) allC0 (by kernel_rfl) allP0 ?_
        refine seqQ_norm ?_
        refine W_cond (o := .tmp 25) (b := v19 != v22) (by kernel_rfl) (by kernel_rfl) (fun h24 => ?_) (fun h24 => ?_)
        · replace h := ofT h24 h
          refine W_seq (by kernel_rfl) ?_
          refine W_run 1 [] [4] [] (fr' := [(4, aB false)]) (L' := []) (obs := []) (by kernel_rfl) (by kernel_rfl) (by kernel_rfl) allP0 ?_
          refine seqQ_norm ?_
          obtain rfl := Option.some.inj h
          refine W_ret [4] [] (fr' := [(4, aB false)]) (L' := []) (by kernel_rfl) (by kernel_rfl) ?_
          refine blockQ_ret ?_
          refine seqQ_ret ?_
          refine round_ret ?_
          refine escQ_ret ?_
          exact exQ_mk (by kernel_rfl) (by kernel_rfl)
        · replace h := ofF h24 h
          refine W_skip [0, 1, 5] [] (fr' := [(0, aD (.slice tI) a0), (1, aD (.slice tI) a1), (5, aI i16)]) (L' := []) (by kernel_rfl) (by kernel_rfl) ?_
          refine blockQ_norm ?_
          refine seqQ_norm ?_
          obtain rfl := Option.some.inj h
          refine W_run 3 [] [0, 1, 5] [] (fr' := [(0, aD (.slice tI) a0), (1, aD (.slice tI) a1), (5, aI (w64 (i16 + (1 : Int))))]) (L' := []) (obs := []) (by kernel_rfl) (by kernel_rfl) (by kernel_rfl) allP0 ?_
          exact round_next' (by kernel_rfl) (by kernel_rfl)
      · obtain rfl := stepL_false h21 h
        refine W_exit (id := 0) [] [] (fr' := []) (L' := []) (by kernel_rfl) (by kernel_rfl) ?_
        refine seqQ_exit ?_
        refine round_exit ?_
        refine escQ_brk ?_
        exact exQ_mk (by kernel_rfl) (by kernel_rfl)
    · intro e fr L hJ
      rcases v26 with v31 | v32
      · obtain ⟨rfl, rfl, rfl⟩ := hJ
        obtain rfl := Option.some.inj h
        refine LT_keep [4] [] (fr' := [(4, aB v31)]) (L' := []) (by kernel_rfl) ?_
        refine blockQ_ret ?_
        refine seqQ_ret ?_
        exact retQ_mk (by kernel_rfl) (by kernel_rfl) (by kernel_rfl)
      · obtain ⟨rfl, rfl, rfl⟩ := hJ
        refine LT_keep [] [] (fr' := []) (L' := []) (by kernel_rfl) ?_
        refine blockQ_hit ?_
        refine seqQ_norm ?_
        refine W_seq (by kernel_rfl) ?_
        refine W_run 1 [] [4] [] (fr' := [(4, aB true)]) (L' := []) (obs := []) (by kernel_rfl) (by kernel_rfl) (by kernel_rfl) allP0 ?_
        refine seqQ_norm ?_
        obtain rfl := Option.some.inj h
        refine W_ret [4] [] (fr' := [(4, aB true)]) (L' := []) (by kernel_rfl) (by kernel_rfl) ?_
        exact retQ_mk (by kernel_rfl) (by kernel_rfl) (by kernel_rfl)

@[reducible] def law_PairsMosts_s1 (v : Bool) : Fr × LL := ([(2, aB v)], [])
def law_PairsMosts (fuel : Nat) (a0 : (List (List Int))) : Option Bool :=
(pairs_Most fuel a0).bind fun r1 =>
(ref_SquareCheck a0).bind fun r3 =>
bif r3 != (0 : Int) then
(some (((r1.2.2 == r3) && (r1.1 == (0 : Int))) && ((List.length r1.2.1 : Int) == (0 : Int))))
else
((ref_Greatest fuel a0).bind fun r6 =>
(bif (r1.2.2 == (0 : Int)) && (r1.1 == r6.1) then
((ref_Ints r1.2.1 r6.2).bind fun r15 =>
some r15)
else
(some false)).bind fun v17 =>
some v17)
theorem law_PairsMosts_ok {fuel : Nat} {a0 : (List (List Int))} {r : Bool} (h : law_PairsMosts fuel a0 = some r) : FnC Try.prog 11 [aD (.slice (.slice tI)) a0] [] (aB r) [] := by
  refine fnC_of_W (B := bodyOf Try.f11) (n := 48) Try.func11 (by kernel_rfl) (by kernel_rfl) (by kernel_rfl) (by kernel_rfl) (by kernel_rfl) ?_
  intro K
  refine W_seq (by kernel_rfl) ?_
  refine W_run 1 [] [0] [] (fr' := [(0, aD (.slice (.slice tI)) a0)]) (L' := []) (obs := []) (by kernel_rfl) (by kernel_rfl) (by kernel_rfl) allP0 ?_
  refine seqQ_norm ?_
  refine W_seq (by kernel_rfl) ?_
  refine W_region (by kernel_rfl) ?_
  refine WO_run (j := 1) (k := 1) (orcs := []) (kF := [0, 10]) (kL := []) (fr' := [(0, aD (.slice (.slice tI)) a0), (10, aD (.slice (.slice tI)) a0)]) (L' := []) (obs := []) rfl (by kernel_rfl) allP0 ?_
  obtain ⟨r1, h2, h⟩ := bind_of h
  refine WO_call0 (us := [none]) (d := 11) (p := True) (j := 2) rfl ⟨by kernel_rfl, by kernel_rfl, by kernel_rfl⟩ trivial (pairs_Most_ok h2) (by kernel_rfl) ?_
  refine WO_run (j := 9) (k := 7) (orcs := []) (kF := [0, 3, 4, 5]) (kL := []) (fr' := [(0, aD (.slice (.slice tI)) a0), (3, aI r1.1), (4, aD (.slice tI) r1.2.1), (5, aI r1.2.2)]) (L' := []) (obs := []) rfl (by kernel_rfl) allP0 ?_
  refine WO_fin [0, 3, 4, 5] [] (fr' := [(0, aD (.slice (.slice tI)) a0), (3, aI r1.1), (4, aD (.slice tI) r1.2.1), (5, aI r1.2.2)]) (L' := []) (by kernel_rfl) (by kernel_rfl) ?_
  refine seqQ_norm ?_
  refine W_seq (by kernel_rfl) ?_
  refine W_region (by kernel_rfl) ?_
  refine WO_run (j := 1) (k := 1) (orcs := []) (kF := [0, 3, 4, 5, 15]) (kL := []) (fr' := [(0, aD (.slice (.slice tI)) a0), (3, aI r1.1), (4, aD (.slice tI) r1.2.1), (5, aI r1.2.2), (15, aD (.slice (.slice tI)) a0)]) (L' := []) (obs := []) rfl (by kernel_rfl) allP0 ?_
  obtain ⟨r3, h4, h⟩ := bind_of h
  refine WO_call0 (us := [none]) (d := 16) (p := True) (j := 2) rfl ⟨by kernel_rfl, by kernel_rfl, by kernel_rfl⟩ trivial (ref_SquareCheck_ok h4) (by kernel_rfl) ?_
  refine WO_run (j := 3) (k := 1) (orcs := []) (kF := [0, 3, 4, 5, 6]) (kL := []) (fr' := [(0, aD (.slice (.slice tI)) a0), (3, aI r1.1), (4, aD (.slice tI) r1.2.1), (5, aI r1.2.2), (6, aI r3)]) (L' := []) (obs := []) rfl (by kernel_rfl) allP0 ?_
  refine WO_fin [0, 3, 4, 5, 6] [] (fr' := [(0, aD (.slice (.slice tI)) a0), (3, aI r1.1), (4, aD (.slice tI) r1.2.1), (5, aI r1.2.2), (6, aI r3)]) (L' := []) (by kernel_rfl) (by kernel_rfl) ?_
  refine seqQ_norm ?_
  refine W_seq (by kernel_rfl) ?_
  refine W_seq (by kernel_rfl) ?_
  refine W_run 2 [] [0, 3, 4, 5, 6, 18] [] (fr' := [(0, aD (.slice (.slice tI)) a0), (3, aI r1.1), (4, aD (.slice tI) r1.2.1), (5, aI r1.2.2), (6, aI r3), (18, aB (r3 != (0 : Int)))]) (L' := []) (obs := []) (by kernel_rfl) (by kernel_rfl) (by kernel_rfl) allP0 ?_
  refine seqQ_norm ?_
  refine W_cond (o := .tmp 18) (b := r3 != (0 : Int)) (by kernel_rfl) (by kernel_rfl) (fun h5 => ?_) (fun h5 => ?_)
  · replace h := ofT h5 h
    refine W_seq (by kernel_rfl) ?_
    refine W_run 13 [] [2] [] (fr' := [(2, aB (((r1.2.2 == r3) && (r1.1 == (0 : Int))) && ((List.length r1.2.1 : Int) == (0 : Int))))]) (L' := []) (obs := []) (by kernel_rfl) (by kernel_rfl) (by kernel_rfl) allP0 ?_
    refine seqQ_norm ?_
    obtain rfl := Option.some.inj h
    refine W_ret [2] [] (fr' := [(2, aB (((r1.2.2 == r3) && (r1.1 == (0 : Int))) && ((List.length r1.2.1 : Int) == (0 : Int))))]) (L' := []) (by kernel_rfl) (by kernel_rfl) ?_
    refine seqQ_ret ?_
    exact retQ_mk (by kernel_rfl) (by kernel_rfl) (by kernel_rfl)
  · replace h := ofF h5 h
    refine W_skip [0, 3, 4, 5] [] (fr' := [(0, aD (.slice (.slice tI)) a0), (3, aI r1.1), (4, aD (.slice tI) r1.2.1), (5, aI r1.2.2)]) (L' := []) (by kernel_rfl) (by kernel_rfl) ?_
    refine seqQ_norm ?_
    refine W_seq (by kernel_rfl) ?_
    refine W_region (by kernel_rfl) ?_
    refine WO_run (j := 1) (k := 1) (orcs := []) (kF := [3, 4, 5, 32]) (kL := []) (fr' := [(3, aI r1.1), (4, aD (.slice tI) r1.2.1), (5, aI r1.2.2), (32, aD (.slice (.slice tI)) a0)]) (L' := []) (obs := []) rfl (by kernel_rfl) allP0 ?_
    obtain ⟨r6, h7, h⟩ := bind_of h
    refine WO_call0 (us := [none]) (d := 33) (p := True) (j := 2) rfl ⟨by kernel_rfl, by kernel_rfl, by kernel_rfl⟩ trivial (ref_Greatest_ok h7) (by kernel_rfl) ?_
    refine WO_run (j := 7) (k := 5) (orcs := []) (kF := [3, 4, 5, 7, 8]) (kL := []) (fr' := [(3, aI r1.1), (4, aD (.slice tI) r1.2.1), (5, aI r1.2.2), (7, aI r6.1), (8, aD (.slice tI) r6.2)]) (L' := []) (obs := []) rfl (by kernel_rfl) allP0 ?_
    refine WO_fin [3, 4, 5, 7, 8] [] (fr' := [(3, aI r1.1), (4, aD (.slice tI) r1.2.1), (5, aI r1.2.2), (7, aI r6.1), (8, aD (.slice tI) r6.2)]) (L' := []) (by kernel_rfl) (by kernel_rfl) ?_
    refine seqQ_norm ?_
    refine W_seq (by kernel_rfl) ?_
    obtain ⟨v17, h18, h⟩ := bind_of h
    refine W_cutK (Q' := (exQ .normal law_PairsMosts_s1) v17) ?_ ?_
    · replace h := h18
      refine W_region (by kernel_rfl) ?_
      refine WO_run (j := 8) (k := 8) (orcs := []) (kF := [4, 8, 43]) (kL := []) (fr' := [(4, aD (.slice tI) r1.2.1), (8, aD (.slice tI) r6.2), (43, aB ((r1.2.2 == (0 : Int)) && (r1.1 == r6.1)))]) (L' := []) (obs := []) rfl (by kernel_rfl) allP0 ?_
      rcases Bool.eq_false_or_eq_true ((r1.2.2 == (0 : Int)) && (r1.1 == r6.1)) with h14 | h14
      · replace h := ofT h14 h
        refine WO_run (j := 10) (k := 2) (orcs := [(16, .known true), (18, .known true)]) (kF := [43, 44, 45]) (kL := []) (fr' := [(43, aB ((r1.2.2 == (0 : Int)) && (r1.1 == r6.1))), (44, aD (.slice tI) r1.2.1), (45, aD (.slice tI) r6.2)]) (L' := []) (obs := [(((r1.2.2 == (0 : Int)) && (r1.1 == r6.1)) = true), (((r1.2.2 == (0 : Int)) && (r1.1 == r6.1)) = true)]) rfl (by kernel_rfl) (allP2 h14 (allP1 h14)) ?_
        obtain ⟨r15, h16, h⟩ := bind_of h
        refine WO_call0 (us := [none, none]) (d := 46) (p := (((r1.2.2 == (0 : Int)) && (r1.1 == r6.1)) = true)) (j := 11) rfl ⟨by kernel_rfl, by kernel_rfl, by kernel_rfl⟩ h14 (ref_Ints_ok h16) (by kernel_rfl) ?_
        refine WO_run (j := 13) (k := 2) (orcs := [(23, .val (.dat .bool true))]) (kF := [2]) (kL := []) (fr' := [(2, aB r15)]) (L' := []) (obs := [(((r1.2.2 == (0 : Int)) && (r1.1 == r6.1)) = true)]) rfl (by kernel_rfl) (allP1 h14) ?_
        obtain rfl := Option.some.inj h
        refine WO_fin [2] [] (fr' := [(2, aB r15)]) (L' := []) (by kernel_rfl) (by kernel_rfl) ?_
        exact exQ_mk (by kernel_rfl) (by kernel_rfl)
      · replace h := ofF h14 h
        refine WO_run (j := 13) (k := 5) (orcs := [(16, .known false), (18, .known false), (20, .known false), (23, .val (.dat .bool false))]) (kF := [2]) (kL := []) (fr' := [(2, aB false)]) (L' := []) (obs := [(((r1.2.2 == (0 : Int)) && (r1.1 == r6.1)) = false), (((r1.2.2 == (0 : Int)) && (r1.1 == r6.1)) = false), (((r1.2.2 == (0 : Int)) && (r1.1 == r6.1)) = false), (((r1.2.2 == (0 : Int)) && (r1.1 == r6.1)) = false)]) rfl (by kernel_rfl) (allP2 h14 (allP2 h14 (allP2 h14 (allP1 h14)))) ?_
        obtain rfl := Option.some.inj h
        refine WO_fin [2] [] (fr' := [(2, aB false)]) (L' := []) (by kernel_rfl) (by kernel_rfl) ?_
        exact exQ_mk (by kernel_rfl) (by kernel_rfl)
    · intro e fr L hJ
      obtain ⟨rfl, rfl, rfl⟩ := hJ
      refine LT_keep [2] [] (fr' := [(2, aB v17)]) (L' := []) (by kernel_rfl) ?_
      refine seqQ_norm ?_
      obtain rfl := Option.some.inj h
      refine W_ret [2] [] (fr' := [(2, aB v17)]) (L' := []) (by kernel_rfl) (by kernel_rfl) ?_
      exact retQ_mk (by kernel_rfl) (by kernel_rfl) (by kernel_rfl)
end Go.Proofs.Ytjghcbdfpcpahaa.pairsMosts
