/- What the functions that PairsParities calls compute, as models, and that they compute it: written by a program of mine. -/
import Derived.Test.YtnblafiefaalgaaProg
import Derived.Test.YtnblafiefaalgaaSl6
set_option linter.all false
set_option maxRecDepth 100000
namespace Go.Proofs.Ytnblafiefaalgaa.pairsParities
open Go Go.Sl
def pairs_wrong_1 (a0 : (List Int)) (c0 : (List (List Int))) : Option Bool :=
some ((List.length a0 : Int) != (List.length c0 : Int))
theorem pairs_wrong_1_ok {a0 : (List Int)} {c0 : (List (List Int))} {r : Bool} (h : pairs_wrong_1 a0 c0 = some r) : FnC Try.prog 91 [aD (.slice tI) a0, .one (.ptr 1000 0)] [(1000, .cells [.dat (.slice (.slice tI)) c0])] (aB r) [(1000, .cells [.dat (.slice (.slice tI)) c0])] := by
  refine fnC_of_W (B := bodyOf Try.f91) (n := 9) Try.func91 (by kernel_rfl) (by kernel_rfl) (by kernel_rfl) (by kernel_rfl) (by kernel_rfl) ?_
  intro K
  refine W_seq (by kernel_rfl) ?_
  refine W_run 1 [] [0, 1] [1000] (fr' := [(0, aD (.slice tI) a0), (1, .one (.ptr 1000 0))]) (L' := [(1000, .cells [.dat (.slice (.slice tI)) c0])]) (obs := []) (by kernel_rfl) (by kernel_rfl) (by kernel_rfl) allP0 ?_
  refine seqQ_norm ?_
  refine W_seq (by kernel_rfl) ?_
  refine W_run 6 [] [3] [1000] (fr' := [(3, aB ((List.length a0 : Int) != (List.length c0 : Int)))]) (L' := [(1000, .cells [.dat (.slice (.slice tI)) c0])]) (obs := []) (by kernel_rfl) (by kernel_rfl) (by kernel_rfl) allP0 ?_
  refine seqQ_norm ?_
  obtain rfl := Option.some.inj h
  refine W_ret [3] [1000] (fr' := [(3, aB ((List.length a0 : Int) != (List.length c0 : Int)))]) (L' := [(1000, .cells [.dat (.slice (.slice tI)) c0])]) (by kernel_rfl) (by kernel_rfl) ?_
  exact retQ_mk (by kernel_rfl) (by kernel_rfl) (by kernel_rfl)

def slices_IndexFunc_LLintLint_with_pairs_wrong_1_b1 (c0 : (List (List Int))) (i15 : Int) (v18 : (List Int)) (x16 : Unit) : Option (Flow Unit (Esc Int Unit)) :=
(pairs_wrong_1 v18 c0).bind fun r21 =>
bif r21 then
(some (.done (.ret i15)))
else
(some (.next ()))
@[reducible] def slices_IndexFunc_LLintLint_with_pairs_wrong_1_s2 (a0 : (List (List Int))) (c0 : (List (List Int))) (v : Int × Unit) : Fr × LL := ([(0, aD (.slice (.slice tI)) a0), (1, .one (.fn 91 [(1000, 0)])), (7, aI (List.length a0 : Int)), (8, aI v.1)], [(1000, .cells [.dat (.slice (.slice tI)) c0])])
@[reducible] def slices_IndexFunc_LLintLint_with_pairs_wrong_1_s3 (c0 : (List (List Int))) (v : Int) : Fr × LL := ([(4, aI v)], [(1000, .cells [.dat (.slice (.slice tI)) c0])])
@[reducible] def slices_IndexFunc_LLintLint_with_pairs_wrong_1_s4 (c0 : (List (List Int))) (v : Unit) : Fr × LL := ([], [(1000, .cells [.dat (.slice (.slice tI)) c0])])
def slices_IndexFunc_LLintLint_with_pairs_wrong_1 (a0 : (List (List Int))) (c0 : (List (List Int))) : Option Int :=
(forL (slices_IndexFunc_LLintLint_with_pairs_wrong_1_b1 c0) (fun x16 => (.brk ())) a0 0 ()).bind fun v25 =>
match v25 with
| .ret v30 =>
(some v30)
| .brk v31 =>
(some (-1 : Int))
theorem slices_IndexFunc_LLintLint_with_pairs_wrong_1_ok {a0 : (List (List Int))} {c0 : (List (List Int))} {r : Int} (h : slices_IndexFunc_LLintLint_with_pairs_wrong_1 a0 c0 = some r) : FnC Try.prog 55 [aD (.slice (.slice tI)) a0, .one (.fn 91 [(1000, 0)])] [(1000, .cells [.dat (.slice (.slice tI)) c0])] (aI r) [(1000, .cells [.dat (.slice (.slice tI)) c0])] := by
  refine fnC_of_W (B := bodyOf Try.f55) (n := 19) Try.func55 (by kernel_rfl) (by kernel_rfl) (by kernel_rfl) (by kernel_rfl) (by kernel_rfl) ?_
  intro K
  refine W_seq (by kernel_rfl) ?_
  refine W_run 1 [] [0, 1] [1000] (fr' := [(0, aD (.slice (.slice tI)) a0), (1, .one (.fn 91 [(1000, 0)]))]) (L' := [(1000, .cells [.dat (.slice (.slice tI)) c0])]) (obs := []) (by kernel_rfl) (by kernel_rfl) (by kernel_rfl) allP0 ?_
  refine seqQ_norm ?_
  refine W_seq (by kernel_rfl) ?_
  refine W_seq (by kernel_rfl) ?_
  refine W_run 3 [] [0, 1, 7, 8] [1000] (fr' := [(0, aD (.slice (.slice tI)) a0), (1, .one (.fn 91 [(1000, 0)])), (7, aI (List.length a0 : Int)), (8, aI (0 : Int))]) (L' := [(1000, .cells [.dat (.slice (.slice tI)) c0])]) (obs := []) (by kernel_rfl) (by kernel_rfl) (by kernel_rfl) allP0 ?_
  refine seqQ_norm ?_
  refine W_block (id := 0) (by kernel_rfl) ?_
  obtain ⟨v25, h26, h⟩ := bind_of h
  refine W_len (t := 0) (u := (.slice tI)) (xs := a0) (by kernel_rfl) (fun h29 => ?_)
  obtain ⟨h27, h28⟩ := forL_iter h29 h26
  refine W_weaken [0, 1, 7, 8] [1000] (fr' := ((slices_IndexFunc_LLintLint_with_pairs_wrong_1_s2 a0 c0) ((0 : Int), ())).1) (L' := ((slices_IndexFunc_LLintLint_with_pairs_wrong_1_s2 a0 c0) ((0 : Int), ())).2) (by kernel_rfl) ?_
  refine W_cutK (W_loop (S := (slices_IndexFunc_LLintLint_with_pairs_wrong_1_s2 a0 c0)) (J := (escQ (exQ .ret (slices_IndexFunc_LLintLint_with_pairs_wrong_1_s3 c0)) (exQ (.exit 0) (slices_IndexFunc_LLintLint_with_pairs_wrong_1_s4 c0)))) (by kernel_rfl) ?_ h27 _ v25 h28) ?_
  · rintro ⟨i15, x16⟩ s h
    refine W_seq (by kernel_rfl) ?_
    refine W_run 1 [] [0, 1, 7, 8, 9] [1000] (fr' := [(0, aD (.slice (.slice tI)) a0), (1, .one (.fn 91 [(1000, 0)])), (7, aI (List.length a0 : Int)), (8, aI i15), (9, aB (decide (i15 < (List.length a0 : Int))))]) (L' := [(1000, .cells [.dat (.slice (.slice tI)) c0])]) (obs := []) (by kernel_rfl) (by kernel_rfl) (by kernel_rfl) allP0 ?_
    refine seqQ_norm ?_
    refine W_seq (by kernel_rfl) ?_
    refine W_cond (o := .tmp 9) (b := decide (i15 < (List.length a0 : Int))) (by kernel_rfl) (by kernel_rfl) (fun h20 => ?_) (fun h20 => ?_)
    · replace h := stepL_true h20 h
      obtain ⟨v18, _, h19, h, rfl⟩ := h
      refine W_skip [0, 1, 7, 8] [1000] (fr' := [(0, aD (.slice (.slice tI)) a0), (1, .one (.fn 91 [(1000, 0)])), (7, aI (List.length a0 : Int)), (8, aI i15)]) (L' := [(1000, .cells [.dat (.slice (.slice tI)) c0])]) (by kernel_rfl) (by kernel_rfl) ?_
      refine seqQ_norm ?_
      refine W_seq (by kernel_rfl) ?_
      refine W_block (id := 1) (by kernel_rfl) ?_
      refine W_seq (by kernel_rfl) ?_
      refine W_run 2 [] [0, 1, 5, 7, 8] [1000] (fr' := [(0, aD (.slice (.slice tI)) a0), (1, .one (.fn 91 [(1000, 0)])), (5, aI i15), (7, aI (List.length a0 : Int)), (8, aI i15)]) (L' := [(1000, .cells [.dat (.slice (.slice tI)) c0])]) (obs := []) (by kernel_rfl) (by kernel_rfl) (by kernel_rfl) allP0 ?_
      refine seqQ_norm ?_
      refine W_seq (by kernel_rfl) ?_
      refine W_region (by kernel_rfl) ?_
      refine WO_run (j := 5) (k := 5) (orcs := [(7, .val (.dat (.slice tI) v18))]) (kF := [0, 1, 5, 7, 8, 11, 15]) (kL := [1000]) (fr' := [(0, aD (.slice (.slice tI)) a0), (1, .one (.fn 91 [(1000, 0)])), (5, aI i15), (7, aI (List.length a0 : Int)), (8, aI i15), (11, .one (.fn 91 [(1000, 0)])), (15, aD (.slice tI) v18)]) (L' := [(1000, .cells [.dat (.slice (.slice tI)) c0])]) (obs := [Idx a0 i15 v18]) rfl (by kernel_rfl) (allP1 (Idx.of h19)) ?_
      obtain ⟨r21, h22, h⟩ := bind_of h
      refine WO_lend [(1000, 1000)] (us := [none, none]) (d := 16) (p := True) (j := 6) rfl ⟨by kernel_rfl, by kernel_rfl, by kernel_rfl⟩ trivial (pairs_wrong_1_ok h22) (by kernel_rfl) (by kernel_rfl) ?_
      refine WO_fin [0, 1, 5, 7, 8, 16] [1000] (fr' := [(0, aD (.slice (.slice tI)) a0), (1, .one (.fn 91 [(1000, 0)])), (5, aI i15), (7, aI (List.length a0 : Int)), (8, aI i15), (16, aB r21)]) (L' := [(1000, .cells [.dat (.slice (.slice tI)) c0])]) (by kernel_rfl) (by kernel_rfl) ?_
      refine seqQ_norm ?_
      refine W_cond (o := .tmp 16) (b := r21) (by kernel_rfl) (by kernel_rfl) (fun h23 => ?_) (fun h23 => ?_)
      · replace h := ofT h23 h
        refine W_seq (by kernel_rfl) ?_
        refine W_run 2 [] [4] [1000] (fr' := [(4, aI i15)]) (L' := [(1000, .cells [.dat (.slice (.slice tI)) c0])]) (obs := []) (by kernel_rfl) (by kernel_rfl) (by kernel_rfl) allP0 ?_
        refine seqQ_norm ?_
        obtain rfl := Option.some.inj h
        refine W_ret [4] [1000] (fr' := [(4, aI i15)]) (L' := [(1000, .cells [.dat (.slice (.slice tI)) c0])]) (by kernel_rfl) (by kernel_rfl) ?_
        refine blockQ_ret ?_
        refine seqQ_ret ?_
        refine round_ret ?_
        refine escQ_ret ?_
        exact exQ_mk (by kernel_rfl) (by kernel_rfl)
      · replace h := ofF h23 h
        refine W_skip [0, 1, 7, 8] [1000] (fr' := [(0, aD (.slice (.slice tI)) a0), (1, .one (.fn 91 [(1000, 0)])), (7, aI (List.length a0 : Int)), (8, aI i15)]) (L' := [(1000, .cells [.dat (.slice (.slice tI)) c0])]) (by kernel_rfl) (by kernel_rfl) ?_
        refine blockQ_norm ?_
        refine seqQ_norm ?_
        obtain rfl := Option.some.inj h
        refine W_run 2 [] [0, 1, 7, 8] [1000] (fr' := [(0, aD (.slice (.slice tI)) a0), (1, .one (.fn 91 [(1000, 0)])), (7, aI (List.length a0 : Int)), (8, aI (w64 (i15 + (1 : Int))))]) (L' := [(1000, .cells [.dat (.slice (.slice tI)) c0])]) (obs := []) (by kernel_rfl) (by kernel_rfl) (by kernel_rfl) allP0 ?_
        exact round_next' (by kernel_rfl) (by kernel_rfl)
    · obtain rfl := stepL_false h20 h
      refine W_exit (id := 0) [] [1000] (fr' := []) (L' := [(1000, .cells [.dat (.slice (.slice tI)) c0])]) (by kernel_rfl) (by kernel_rfl) ?_
      refine seqQ_exit ?_
      refine round_exit ?_
      refine escQ_brk ?_
      exact exQ_mk (by kernel_rfl) (by kernel_rfl)
  · intro e fr L hJ
    rcases v25 with v30 | v31
    · obtain ⟨rfl, rfl, rfl⟩ := hJ
      obtain rfl := Option.some.inj h
      refine LT_keep [4] [1000] (fr' := [(4, aI v30)]) (L' := [(1000, .cells [.dat (.slice (.slice tI)) c0])]) (by kernel_rfl) ?_
      refine blockQ_ret ?_
      refine seqQ_ret ?_
      exact retQ_mk (by kernel_rfl) (by kernel_rfl) (by kernel_rfl)
    · obtain ⟨rfl, rfl, rfl⟩ := hJ
      refine LT_keep [] [1000] (fr' := []) (L' := [(1000, .cells [.dat (.slice (.slice tI)) c0])]) (by kernel_rfl) ?_
      refine blockQ_hit ?_
      refine seqQ_norm ?_
      refine W_seq (by kernel_rfl) ?_
      refine W_run 1 [] [4] [1000] (fr' := [(4, aI (-1 : Int))]) (L' := [(1000, .cells [.dat (.slice (.slice tI)) c0])]) (obs := []) (by kernel_rfl) (by kernel_rfl) (by kernel_rfl) allP0 ?_
      refine seqQ_norm ?_
      obtain rfl := Option.some.inj h
      refine W_ret [4] [1000] (fr' := [(4, aI (-1 : Int))]) (L' := [(1000, .cells [.dat (.slice (.slice tI)) c0])]) (by kernel_rfl) (by kernel_rfl) ?_
      exact retQ_mk (by kernel_rfl) (by kernel_rfl) (by kernel_rfl)

def slices_ContainsFunc_LLintLint_with_pairs_wrong_1 (a0 : (List (List Int))) (c0 : (List (List Int))) : Option Bool :=
(slices_IndexFunc_LLintLint_with_pairs_wrong_1 a0 c0).bind fun r1 =>
some (decide (r1 ≥ (0 : Int)))
theorem slices_ContainsFunc_LLintLint_with_pairs_wrong_1_ok {a0 : (List (List Int))} {c0 : (List (List Int))} {r : Bool} (h : slices_ContainsFunc_LLintLint_with_pairs_wrong_1 a0 c0 = some r) : FnC Try.prog 90 [aD (.slice (.slice tI)) a0, .one (.fn 91 [(1000, 0)])] [(1000, .cells [.dat (.slice (.slice tI)) c0])] (aB r) [(1000, .cells [.dat (.slice (.slice tI)) c0])] := by
  refine fnC_of_W (B := bodyOf Try.f90) (n := 9) Try.func90 (by kernel_rfl) (by kernel_rfl) (by kernel_rfl) (by kernel_rfl) (by kernel_rfl) ?_
  intro K
  refine W_seq (by kernel_rfl) ?_
  refine W_run 1 [] [0, 1] [1000] (fr' := [(0, aD (.slice (.slice tI)) a0), (1, .one (.fn 91 [(1000, 0)]))]) (L' := [(1000, .cells [.dat (.slice (.slice tI)) c0])]) (obs := []) (by kernel_rfl) (by kernel_rfl) (by kernel_rfl) allP0 ?_
  refine seqQ_norm ?_
  refine W_seq (by kernel_rfl) ?_
  refine W_region (by kernel_rfl) ?_
  refine WO_run (j := 2) (k := 2) (orcs := []) (kF := [5, 6]) (kL := [1000]) (fr' := [(5, aD (.slice (.slice tI)) a0), (6, .one (.fn 91 [(1000, 0)]))]) (L' := [(1000, .cells [.dat (.slice (.slice tI)) c0])]) (obs := []) rfl (by kernel_rfl) allP0 ?_
  obtain ⟨r1, h2, h⟩ := bind_of h
  refine WO_lend [(1000, 1000)] (us := [none, none]) (d := 7) (p := True) (j := 3) rfl ⟨by kernel_rfl, by kernel_rfl, by kernel_rfl⟩ trivial (slices_IndexFunc_LLintLint_with_pairs_wrong_1_ok h2) (by kernel_rfl) (by kernel_rfl) ?_
  refine WO_run (j := 5) (k := 2) (orcs := []) (kF := [4]) (kL := [1000]) (fr' := [(4, aB (decide (r1 ≥ (0 : Int))))]) (L' := [(1000, .cells [.dat (.slice (.slice tI)) c0])]) (obs := []) rfl (by kernel_rfl) allP0 ?_
  refine WO_fin [4] [1000] (fr' := [(4, aB (decide (r1 ≥ (0 : Int))))]) (L' := [(1000, .cells [.dat (.slice (.slice tI)) c0])]) (by kernel_rfl) (by kernel_rfl) ?_
  refine seqQ_norm ?_
  obtain rfl := Option.some.inj h
  refine W_ret [4] [1000] (fr' := [(4, aB (decide (r1 ≥ (0 : Int))))]) (L' := [(1000, .cells [.dat (.slice (.slice tI)) c0])]) (by kernel_rfl) (by kernel_rfl) ?_
  exact retQ_mk (by kernel_rfl) (by kernel_rfl) (by kernel_rfl)

@[reducible] def slices_Grow_Lintint_s2 (v : (List Int)) : Fr × LL := ([(0, .one (.slc 22))], [(22, .seq tI v)])
def slices_Grow_Lintint (a1 : Int) : Option (List Int) :=
bif decide (a1 < (0 : Int)) then
(none)
else
((bif decide ((w64 (a1 - (0 : Int))) > (0 : Int)) then
((ck (0 ≤ w64 (a1 - (0 : Int)) ∧ w64 (a1 - (0 : Int)) ≤ 4294967296)).bind fun _ =>
some [])
else
(some [])).bind fun v19 =>
some v19)
theorem slices_Grow_Lintint_ok {a1 : Int} {r : (List Int)} (h : slices_Grow_Lintint a1 = some r) : FnC Try.prog 103 [.one (.nilS), aI a1] [] (.one (.slc 22)) [(22, .seq tI r)] := by
  refine fnC_of_W (B := bodyOf Try.f103) (n := 27) Try.func103 (by kernel_rfl) (by kernel_rfl) (by kernel_rfl) (by kernel_rfl) (by kernel_rfl) ?_
  intro K
  refine W_seq (by kernel_rfl) ?_
  refine W_run 1 [] [0, 1] [] (fr' := [(0, .one (.nilS)), (1, aI a1)]) (L' := []) (obs := []) (by kernel_rfl) (by kernel_rfl) (by kernel_rfl) allP0 ?_
  refine seqQ_norm ?_
  refine W_seq (by kernel_rfl) ?_
  refine W_seq (by kernel_rfl) ?_
  refine W_run 2 [] [0, 1, 6] [] (fr' := [(0, .one (.nilS)), (1, aI a1), (6, aB (decide (a1 < (0 : Int))))]) (L' := []) (obs := []) (by kernel_rfl) (by kernel_rfl) (by kernel_rfl) allP0 ?_
  refine seqQ_norm ?_
  refine W_cond (o := .tmp 6) (b := decide (a1 < (0 : Int))) (by kernel_rfl) (by kernel_rfl) (fun h12 => ?_) (fun h12 => ?_)
  · replace h := ofT h12 h
    cases h
  · replace h := ofF h12 h
    refine W_skip [0, 1] [] (fr' := [(0, .one (.nilS)), (1, aI a1)]) (L' := []) (by kernel_rfl) (by kernel_rfl) ?_
    refine seqQ_norm ?_
    refine W_seq (by kernel_rfl) ?_
    obtain ⟨v19, h20, h⟩ := bind_of h
    refine W_cutK (Q' := (exQ .normal slices_Grow_Lintint_s2) v19) ?_ ?_
    · replace h := h20
      refine W_seq (by kernel_rfl) ?_
      refine W_region (by kernel_rfl) ?_
      refine WO_run (j := 2) (k := 2) (orcs := []) (kF := [0, 1, 8, 9]) (kL := []) (fr' := [(0, .one (.nilS)), (1, aI a1), (8, aI a1), (9, .one (.nilS))]) (L' := []) (obs := []) rfl (by kernel_rfl) allP0 ?_
      refine WO_g [0, 1, 8, 9, 10] [] (fr' := [(0, .one (.nilS)), (1, aI a1), (8, aI a1), (9, .one (.nilS)), (10, aI (0 : Int))]) (L' := []) (p := True) (j := 3) rfl (by kernel_rfl) trivial ?_
      refine WO_run (j := 8) (k := 5) (orcs := []) (kF := [0, 1]) (kL := []) (fr' := [(0, .one (.nilS)), (1, aI (w64 (a1 - (0 : Int))))]) (L' := []) (obs := []) rfl (by kernel_rfl) allP0 ?_
      refine WO_fin [0, 1] [] (fr' := [(0, .one (.nilS)), (1, aI (w64 (a1 - (0 : Int))))]) (L' := []) (by kernel_rfl) (by kernel_rfl) ?_
      refine seqQ_norm ?_
      refine W_seq (by kernel_rfl) ?_
      refine W_run 2 [] [0, 1, 16] [] (fr' := [(0, .one (.nilS)), (1, aI (w64 (a1 - (0 : Int)))), (16, aB (decide ((w64 (a1 - (0 : Int))) > (0 : Int))))]) (L' := []) (obs := []) (by kernel_rfl) (by kernel_rfl) (by kernel_rfl) allP0 ?_
      refine seqQ_norm ?_
      refine W_cond (o := .tmp 16) (b := decide ((w64 (a1 - (0 : Int))) > (0 : Int))) (by kernel_rfl) (by kernel_rfl) (fun h17 => ?_) (fun h17 => ?_)
      · replace h := ofT h17 h
        refine W_region (by kernel_rfl) ?_
        refine WO_run (j := 2) (k := 2) (orcs := []) (kF := [0, 1, 17, 18]) (kL := []) (fr' := [(0, .one (.nilS)), (1, aI (w64 (a1 - (0 : Int)))), (17, .one (.nilS)), (18, .one (.nilS))]) (L' := []) (obs := []) rfl (by kernel_rfl) allP0 ?_
        refine WO_g [0, 1, 17, 18, 19] [] (fr' := [(0, .one (.nilS)), (1, aI (w64 (a1 - (0 : Int)))), (17, .one (.nilS)), (18, .one (.nilS)), (19, aI (0 : Int))]) (L' := []) (p := True) (j := 3) rfl (by kernel_rfl) trivial ?_
        refine WO_g [0, 1, 17, 18, 19, 20] [] (fr' := [(0, .one (.nilS)), (1, aI (w64 (a1 - (0 : Int)))), (17, .one (.nilS)), (18, .one (.nilS)), (19, aI (0 : Int)), (20, .one (.nilS))]) (L' := []) (p := True) (j := 4) rfl (by kernel_rfl) trivial ?_
        obtain ⟨_, h18, h⟩ := bind_of h
        replace h18 := ck_some h18
        refine WO_run (j := 5) (k := 1) (orcs := []) (kF := [0, 20, 21]) (kL := []) (fr' := [(0, .one (.nilS)), (20, .one (.nilS)), (21, aI (w64 (a1 - (0 : Int))))]) (L' := []) (obs := []) rfl (by kernel_rfl) allP0 ?_
        refine WO_g [0, 20, 21, 22] [22] (fr' := [(0, .one (.nilS)), (20, .one (.nilS)), (21, aI (w64 (a1 - (0 : Int)))), (22, .one (.slc 22))]) (L' := [(22, .seq tI (List.replicate (Int.toNat (w64 (a1 - (0 : Int)))) (0 : Int)))]) (p := 0 ≤ w64 (a1 - (0 : Int)) ∧ SmallLen (w64 (a1 - (0 : Int)))) (j := 6) rfl (by kernel_rfl) h18 ?_
        refine WO_run (j := 8) (k := 2) (orcs := []) (kF := [0, 22, 24]) (kL := [22]) (fr' := [(0, .one (.nilS)), (22, .one (.slc 22)), (24, aI (0 : Int))]) (L' := [(22, .seq tI (List.replicate (Int.toNat (w64 (a1 - (0 : Int)))) (0 : Int)))]) (obs := []) rfl (by kernel_rfl) allP0 ?_
        refine WO_g [0, 24, 25] [22] (fr' := [(0, .one (.nilS)), (24, aI (0 : Int)), (25, .one (.slc 22))]) (L' := [(22, .seq tI [])]) (p := 0 ≤ (0 : Int) ∧ (0 : Int) ≤ (List.length (List.replicate (Int.toNat (w64 (a1 - (0 : Int)))) (0 : Int) : (List Int)) : Int)) (j := 9) rfl (by kernel_rfl) ⟨(by decide), (by omega)⟩ ?_
        refine WO_run (j := 10) (k := 1) (orcs := []) (kF := [0]) (kL := [22]) (fr' := [(0, .one (.slc 22))]) (L' := [(22, .seq tI [])]) (obs := []) rfl (by kernel_rfl) allP0 ?_
        obtain rfl := Option.some.inj h
        refine WO_fin [0] [22] (fr' := [(0, .one (.slc 22))]) (L' := [(22, .seq tI [])]) (by kernel_rfl) (by kernel_rfl) ?_
        exact exQ_mk (by kernel_rfl) (by kernel_rfl)
      · replace h := ofF h17 h
        obtain rfl := Option.some.inj h
        refine W_mine 0 22 tI (by kernel_rfl) ?_
        refine W_skip [0] [22] (fr' := [(0, .one (.slc 22))]) (L' := [(22, .seq tI [])]) (by kernel_rfl) (by kernel_rfl) ?_
        exact exQ_mk (by kernel_rfl) (by kernel_rfl)
    · intro e fr L hJ
      obtain ⟨rfl, rfl, rfl⟩ := hJ
      refine LT_keep [0] [22] (fr' := [(0, .one (.slc 22))]) (L' := [(22, .seq tI v19)]) (by kernel_rfl) ?_
      refine seqQ_norm ?_
      refine W_seq (by kernel_rfl) ?_
      refine W_run 2 [] [4] [22] (fr' := [(4, .one (.slc 22))]) (L' := [(22, .seq tI v19)]) (obs := []) (by kernel_rfl) (by kernel_rfl) (by kernel_rfl) allP0 ?_
      refine seqQ_norm ?_
      obtain rfl := Option.some.inj h
      refine W_ret [4] [22] (fr' := [(4, .one (.slc 22))]) (L' := [(22, .seq tI v19)]) (by kernel_rfl) (by kernel_rfl) ?_
      exact retQ_mk (by kernel_rfl) (by kernel_rfl) (by kernel_rfl)

def slices_Concat_Lintint_b7 (i72 : Int) (v75 : (List Int)) (x73 : Int) : Option (Flow Int Int) :=
bif decide ((w64 (x73 + (List.length v75 : Int))) < (0 : Int)) then
(none)
else
(some (.next (w64 (x73 + (List.length v75 : Int)))))
@[reducible] def slices_Concat_Lintint_s8 (a0 : (List (List Int))) (v : Int × Int) : Fr × LL := ([(0, aD (.slice (.slice tI)) a0), (3, aI v.2), (9, aD (.slice (.slice tI)) a0), (10, aI (List.length a0 : Int)), (11, aI v.1)], [])
@[reducible] def slices_Concat_Lintint_s9 (a0 : (List (List Int))) (v : Int) : Fr × LL := ([(0, aD (.slice (.slice tI)) a0), (3, aI v)], [])
def slices_Concat_Lintint_b10 (i98 : Int) (v101 : (List Int)) (x99 : (List Int)) : Option (Flow (List Int) (List Int)) :=
(ck ((List.length x99 : Int) + (List.length v101 : Int) ≤ 4294967296)).bind fun _ =>
some (.next (x99 ++ v101))
@[reducible] def slices_Concat_Lintint_s11 (a0 : (List (List Int))) (v : Int × (List Int)) : Fr × LL := ([(6, .one (.slc 24)), (25, aD (.slice (.slice tI)) a0), (26, aI (List.length a0 : Int)), (27, aI v.1)], [(24, .seq tI v.2)])
@[reducible] def slices_Concat_Lintint_s12 (v : (List Int)) : Fr × LL := ([(6, .one (.slc 24))], [(24, .seq tI v)])
def slices_Concat_Lintint (a0 : (List (List Int))) : Option (List Int) :=
(forL slices_Concat_Lintint_b7 (fun x73 => x73) a0 0 (0 : Int)).bind fun v81 =>
(slices_Grow_Lintint v81).bind fun r86 =>
(forL slices_Concat_Lintint_b10 (fun x99 => x99) a0 0 r86).bind fun v106 =>
some v106
theorem slices_Concat_Lintint_ok {a0 : (List (List Int))} {r : (List Int)} (h : slices_Concat_Lintint a0 = some r) : FnC Try.prog 93 [aD (.slice (.slice tI)) a0] [] (.one (.slc 24)) [(24, .seq tI r)] := by
  refine fnC_of_W (B := bodyOf Try.f93) (n := 36) Try.func93 (by kernel_rfl) (by kernel_rfl) (by kernel_rfl) (by kernel_rfl) (by kernel_rfl) ?_
  intro K
  refine W_seq (by kernel_rfl) ?_
  refine W_run 1 [] [0] [] (fr' := [(0, aD (.slice (.slice tI)) a0)]) (L' := []) (obs := []) (by kernel_rfl) (by kernel_rfl) (by kernel_rfl) allP0 ?_
  refine seqQ_norm ?_
  refine W_seq (by kernel_rfl) ?_
  refine W_run 1 [] [0, 3] [] (fr' := [(0, aD (.slice (.slice tI)) a0), (3, aI (0 : Int))]) (L' := []) (obs := []) (by kernel_rfl) (by kernel_rfl) (by kernel_rfl) allP0 ?_
  refine seqQ_norm ?_
  refine W_seq (by kernel_rfl) ?_
  refine W_seq (by kernel_rfl) ?_
  refine W_run 3 [] [0, 3, 9, 10, 11] [] (fr' := [(0, aD (.slice (.slice tI)) a0), (3, aI (0 : Int)), (9, aD (.slice (.slice tI)) a0), (10, aI (List.length a0 : Int)), (11, aI (0 : Int))]) (L' := []) (obs := []) (by kernel_rfl) (by kernel_rfl) (by kernel_rfl) allP0 ?_
  refine seqQ_norm ?_
  refine W_block (id := 0) (by kernel_rfl) ?_
  obtain ⟨v81, h82, h⟩ := bind_of h
  refine W_len (t := 9) (u := (.slice tI)) (xs := a0) (by kernel_rfl) (fun h85 => ?_)
  obtain ⟨h83, h84⟩ := forL_iter h85 h82
  refine W_weaken [0, 3, 9, 10, 11] [] (fr' := ((slices_Concat_Lintint_s8 a0) ((0 : Int), (0 : Int))).1) (L' := ((slices_Concat_Lintint_s8 a0) ((0 : Int), (0 : Int))).2) (by kernel_rfl) ?_
  refine W_cutK (W_loop (S := (slices_Concat_Lintint_s8 a0)) (J := (exQ (.exit 0) (slices_Concat_Lintint_s9 a0))) (by kernel_rfl) ?_ h83 _ v81 h84) ?_
  · rintro ⟨i72, x73⟩ s h
    refine W_seq (by kernel_rfl) ?_
    refine W_run 1 [] [0, 3, 9, 10, 11, 12] [] (fr' := [(0, aD (.slice (.slice tI)) a0), (3, aI x73), (9, aD (.slice (.slice tI)) a0), (10, aI (List.length a0 : Int)), (11, aI i72), (12, aB (decide (i72 < (List.length a0 : Int))))]) (L' := []) (obs := []) (by kernel_rfl) (by kernel_rfl) (by kernel_rfl) allP0 ?_
    refine seqQ_norm ?_
    refine W_seq (by kernel_rfl) ?_
    refine W_cond (o := .tmp 12) (b := decide (i72 < (List.length a0 : Int))) (by kernel_rfl) (by kernel_rfl) (fun h77 => ?_) (fun h77 => ?_)
    · replace h := stepL_true h77 h
      obtain ⟨v75, _, h76, h, rfl⟩ := h
      refine W_skip [0, 3, 9, 10, 11] [] (fr' := [(0, aD (.slice (.slice tI)) a0), (3, aI x73), (9, aD (.slice (.slice tI)) a0), (10, aI (List.length a0 : Int)), (11, aI i72)]) (L' := []) (by kernel_rfl) (by kernel_rfl) ?_
      refine seqQ_norm ?_
      refine W_seq (by kernel_rfl) ?_
      refine W_block (id := 1) (by kernel_rfl) ?_
      refine W_seq (by kernel_rfl) ?_
      refine W_run 3 [(1, .val (.dat (.slice tI) v75))] [0, 3, 5, 9, 10, 11] [] (fr' := [(0, aD (.slice (.slice tI)) a0), (3, aI x73), (5, aD (.slice tI) v75), (9, aD (.slice (.slice tI)) a0), (10, aI (List.length a0 : Int)), (11, aI i72)]) (L' := []) (obs := [Idx a0 i72 v75]) (by kernel_rfl) (by kernel_rfl) (by kernel_rfl) (allP1 (Idx.of h76)) ?_
      refine seqQ_norm ?_
      refine W_seq (by kernel_rfl) ?_
      refine W_run 5 [] [0, 3, 9, 10, 11] [] (fr' := [(0, aD (.slice (.slice tI)) a0), (3, aI (w64 (x73 + (List.length v75 : Int)))), (9, aD (.slice (.slice tI)) a0), (10, aI (List.length a0 : Int)), (11, aI i72)]) (L' := []) (obs := []) (by kernel_rfl) (by kernel_rfl) (by kernel_rfl) allP0 ?_
      refine seqQ_norm ?_
      refine W_seq (by kernel_rfl) ?_
      refine W_run 2 [] [0, 3, 9, 10, 11, 20] [] (fr' := [(0, aD (.slice (.slice tI)) a0), (3, aI (w64 (x73 + (List.length v75 : Int)))), (9, aD (.slice (.slice tI)) a0), (10, aI (List.length a0 : Int)), (11, aI i72), (20, aB (decide ((w64 (x73 + (List.length v75 : Int))) < (0 : Int))))]) (L' := []) (obs := []) (by kernel_rfl) (by kernel_rfl) (by kernel_rfl) allP0 ?_
      refine seqQ_norm ?_
      refine W_cond (o := .tmp 20) (b := decide ((w64 (x73 + (List.length v75 : Int))) < (0 : Int))) (by kernel_rfl) (by kernel_rfl) (fun h79 => ?_) (fun h79 => ?_)
      · replace h := ofT h79 h
        cases h
      · replace h := ofF h79 h
        refine W_skip [0, 3, 9, 10, 11] [] (fr' := [(0, aD (.slice (.slice tI)) a0), (3, aI (w64 (x73 + (List.length v75 : Int)))), (9, aD (.slice (.slice tI)) a0), (10, aI (List.length a0 : Int)), (11, aI i72)]) (L' := []) (by kernel_rfl) (by kernel_rfl) ?_
        refine blockQ_norm ?_
        refine seqQ_norm ?_
        obtain rfl := Option.some.inj h
        refine W_run 2 [] [0, 3, 9, 10, 11] [] (fr' := [(0, aD (.slice (.slice tI)) a0), (3, aI (w64 (x73 + (List.length v75 : Int)))), (9, aD (.slice (.slice tI)) a0), (10, aI (List.length a0 : Int)), (11, aI (w64 (i72 + (1 : Int))))]) (L' := []) (obs := []) (by kernel_rfl) (by kernel_rfl) (by kernel_rfl) allP0 ?_
        exact round_next' (by kernel_rfl) (by kernel_rfl)
    · obtain rfl := stepL_false h77 h
      refine W_exit (id := 0) [0, 3] [] (fr' := [(0, aD (.slice (.slice tI)) a0), (3, aI x73)]) (L' := []) (by kernel_rfl) (by kernel_rfl) ?_
      refine seqQ_exit ?_
      refine round_exit ?_
      exact exQ_mk (by kernel_rfl) (by kernel_rfl)
  · intro e fr L hJ
    obtain ⟨rfl, rfl, rfl⟩ := hJ
    refine LT_keep [0, 3] [] (fr' := [(0, aD (.slice (.slice tI)) a0), (3, aI v81)]) (L' := []) (by kernel_rfl) ?_
    refine blockQ_hit ?_
    refine seqQ_norm ?_
    refine W_seq (by kernel_rfl) ?_
    refine W_region (by kernel_rfl) ?_
    refine WO_run (j := 1) (k := 1) (orcs := []) (kF := [0, 23]) (kL := []) (fr' := [(0, aD (.slice (.slice tI)) a0), (23, aI v81)]) (L' := []) (obs := []) rfl (by kernel_rfl) allP0 ?_
    obtain ⟨r86, h87, h⟩ := bind_of h
    refine WO_call1 (us := [none, none]) (d := 24) (t := 24) (p := True) (j := 2) rfl ⟨by kernel_rfl, by kernel_rfl, by kernel_rfl⟩ trivial (slices_Grow_Lintint_ok h87) (by kernel_rfl) ?_
    refine WO_run (j := 3) (k := 1) (orcs := []) (kF := [0, 6]) (kL := [24]) (fr' := [(0, aD (.slice (.slice tI)) a0), (6, .one (.slc 24))]) (L' := [(24, .seq tI r86)]) (obs := []) rfl (by kernel_rfl) allP0 ?_
    refine WO_fin [0, 6] [24] (fr' := [(0, aD (.slice (.slice tI)) a0), (6, .one (.slc 24))]) (L' := [(24, .seq tI r86)]) (by kernel_rfl) (by kernel_rfl) ?_
    refine seqQ_norm ?_
    refine W_seq (by kernel_rfl) ?_
    refine W_seq (by kernel_rfl) ?_
    refine W_run 3 [] [6, 25, 26, 27] [24] (fr' := [(6, .one (.slc 24)), (25, aD (.slice (.slice tI)) a0), (26, aI (List.length a0 : Int)), (27, aI (0 : Int))]) (L' := [(24, .seq tI r86)]) (obs := []) (by kernel_rfl) (by kernel_rfl) (by kernel_rfl) allP0 ?_
    refine seqQ_norm ?_
    refine W_block (id := 2) (by kernel_rfl) ?_
    obtain ⟨v106, h107, h⟩ := bind_of h
    refine W_len (t := 25) (u := (.slice tI)) (xs := a0) (by kernel_rfl) (fun h110 => ?_)
    obtain ⟨h108, h109⟩ := forL_iter h110 h107
    refine W_weaken [6, 25, 26, 27] [24] (fr' := ((slices_Concat_Lintint_s11 a0) ((0 : Int), r86)).1) (L' := ((slices_Concat_Lintint_s11 a0) ((0 : Int), r86)).2) (by kernel_rfl) ?_
    refine W_cutK (W_loop (S := (slices_Concat_Lintint_s11 a0)) (J := (exQ (.exit 2) slices_Concat_Lintint_s12)) (by kernel_rfl) ?_ h108 _ v106 h109) ?_
    · rintro ⟨i98, x99⟩ s h
      refine W_seq (by kernel_rfl) ?_
      refine W_run 1 [] [6, 25, 26, 27, 28] [24] (fr' := [(6, .one (.slc 24)), (25, aD (.slice (.slice tI)) a0), (26, aI (List.length a0 : Int)), (27, aI i98), (28, aB (decide (i98 < (List.length a0 : Int))))]) (L' := [(24, .seq tI x99)]) (obs := []) (by kernel_rfl) (by kernel_rfl) (by kernel_rfl) allP0 ?_
      refine seqQ_norm ?_
      refine W_seq (by kernel_rfl) ?_
      refine W_cond (o := .tmp 28) (b := decide (i98 < (List.length a0 : Int))) (by kernel_rfl) (by kernel_rfl) (fun h103 => ?_) (fun h103 => ?_)
      · replace h := stepL_true h103 h
        obtain ⟨v101, _, h102, h, rfl⟩ := h
        refine W_skip [6, 25, 26, 27] [24] (fr' := [(6, .one (.slc 24)), (25, aD (.slice (.slice tI)) a0), (26, aI (List.length a0 : Int)), (27, aI i98)]) (L' := [(24, .seq tI x99)]) (by kernel_rfl) (by kernel_rfl) ?_
        refine seqQ_norm ?_
        refine W_seq (by kernel_rfl) ?_
        refine W_block (id := 3) (by kernel_rfl) ?_
        refine W_seq (by kernel_rfl) ?_
        refine W_run 3 [(1, .val (.dat (.slice tI) v101))] [6, 8, 25, 26, 27] [24] (fr' := [(6, .one (.slc 24)), (8, aD (.slice tI) v101), (25, aD (.slice (.slice tI)) a0), (26, aI (List.length a0 : Int)), (27, aI i98)]) (L' := [(24, .seq tI x99)]) (obs := [Idx a0 i98 v101]) (by kernel_rfl) (by kernel_rfl) (by kernel_rfl) (allP1 (Idx.of h102)) ?_
        refine seqQ_norm ?_
        obtain ⟨_, h104, h⟩ := bind_of h
        replace h104 := ck_some h104
        refine W_run 4 [] [6, 25, 26, 27] [24] (fr' := [(6, .one (.slc 24)), (25, aD (.slice (.slice tI)) a0), (26, aI (List.length a0 : Int)), (27, aI i98)]) (L' := [(24, .seq tI (x99 ++ v101))]) (obs := [SmallLen (List.length x99 + List.length v101)]) (by kernel_rfl) (by kernel_rfl) (by kernel_rfl) (allP1 h104) ?_
        refine blockQ_norm ?_
        refine seqQ_norm ?_
        obtain rfl := Option.some.inj h
        refine W_run 2 [] [6, 25, 26, 27] [24] (fr' := [(6, .one (.slc 24)), (25, aD (.slice (.slice tI)) a0), (26, aI (List.length a0 : Int)), (27, aI (w64 (i98 + (1 : Int))))]) (L' := [(24, .seq tI (x99 ++ v101))]) (obs := []) (by kernel_rfl) (by kernel_rfl) (by kernel_rfl) allP0 ?_
        exact round_next' (by kernel_rfl) (by kernel_rfl)
      · obtain rfl := stepL_false h103 h
        refine W_exit (id := 2) [6] [24] (fr' := [(6, .one (.slc 24))]) (L' := [(24, .seq tI x99)]) (by kernel_rfl) (by kernel_rfl) ?_
        refine seqQ_exit ?_
        refine round_exit ?_
        exact exQ_mk (by kernel_rfl) (by kernel_rfl)
    · intro e fr L hJ
      obtain ⟨rfl, rfl, rfl⟩ := hJ
      refine LT_keep [6] [24] (fr' := [(6, .one (.slc 24))]) (L' := [(24, .seq tI v106)]) (by kernel_rfl) ?_
      refine blockQ_hit ?_
      refine seqQ_norm ?_
      refine W_seq (by kernel_rfl) ?_
      refine W_run 2 [] [2] [24] (fr' := [(2, .one (.slc 24))]) (L' := [(24, .seq tI v106)]) (obs := []) (by kernel_rfl) (by kernel_rfl) (by kernel_rfl) allP0 ?_
      refine seqQ_norm ?_
      obtain rfl := Option.some.inj h
      refine W_ret [2] [24] (fr' := [(2, .one (.slc 24))]) (L' := [(24, .seq tI v106)]) (by kernel_rfl) (by kernel_rfl) ?_
      exact retQ_mk (by kernel_rfl) (by kernel_rfl) (by kernel_rfl)

def pairs_wrong_2 (a0 : Int) : Option Bool :=
some ((decide (a0 < (-20 : Int))) || (decide (a0 > (20 : Int))))
theorem pairs_wrong_2_ok {a0 : Int} {r : Bool} (h : pairs_wrong_2 a0 = some r) : FnC Try.prog 94 [aI a0] [] (aB r) [] := by
  refine fnC_of_W (B := bodyOf Try.f94) (n := 9) Try.func94 (by kernel_rfl) (by kernel_rfl) (by kernel_rfl) (by kernel_rfl) (by kernel_rfl) ?_
  intro K
  refine W_seq (by kernel_rfl) ?_
  refine W_run 1 [] [0] [] (fr' := [(0, aI a0)]) (L' := []) (obs := []) (by kernel_rfl) (by kernel_rfl) (by kernel_rfl) allP0 ?_
  refine seqQ_norm ?_
  refine W_seq (by kernel_rfl) ?_
  refine W_run 7 [] [2] [] (fr' := [(2, aB ((decide (a0 < (-20 : Int))) || (decide (a0 > (20 : Int)))))]) (L' := []) (obs := []) (by kernel_rfl) (by kernel_rfl) (by kernel_rfl) allP0 ?_
  refine seqQ_norm ?_
  obtain rfl := Option.some.inj h
  refine W_ret [2] [] (fr' := [(2, aB ((decide (a0 < (-20 : Int))) || (decide (a0 > (20 : Int)))))]) (L' := []) (by kernel_rfl) (by kernel_rfl) ?_
  exact retQ_mk (by kernel_rfl) (by kernel_rfl) (by kernel_rfl)

def slices_IndexFunc_Lintint_with_pairs_wrong_2_b1 (i15 : Int) (v18 : Int) (x16 : Unit) : Option (Flow Unit (Esc Int Unit)) :=
(pairs_wrong_2 v18).bind fun r21 =>
bif r21 then
(some (.done (.ret i15)))
else
(some (.next ()))
@[reducible] def slices_IndexFunc_Lintint_with_pairs_wrong_2_s2 (a0 : (List Int)) (v : Int × Unit) : Fr × LL := ([(0, aD (.slice tI) a0), (1, .one (.fn 94 [])), (7, aI (List.length a0 : Int)), (8, aI v.1)], [])
@[reducible] def slices_IndexFunc_Lintint_with_pairs_wrong_2_s3 (v : Int) : Fr × LL := ([(4, aI v)], [])
@[reducible] def slices_IndexFunc_Lintint_with_pairs_wrong_2_s4 (v : Unit) : Fr × LL := ([], [])
def slices_IndexFunc_Lintint_with_pairs_wrong_2 (a0 : (List Int)) : Option Int :=
(forL slices_IndexFunc_Lintint_with_pairs_wrong_2_b1 (fun x16 => (.brk ())) a0 0 ()).bind fun v25 =>
match v25 with
| .ret v30 =>
(some v30)
| .brk v31 =>
(some (-1 : Int))
theorem slices_IndexFunc_Lintint_with_pairs_wrong_2_ok {a0 : (List Int)} {r : Int} (h : slices_IndexFunc_Lintint_with_pairs_wrong_2 a0 = some r) : FnC Try.prog 102 [aD (.slice tI) a0, .one (.fn 94 [])] [] (aI r) [] := by
  refine fnC_of_W (B := bodyOf Try.f102) (n := 19) Try.func102 (by kernel_rfl) (by kernel_rfl) (by kernel_rfl) (by kernel_rfl) (by kernel_rfl) ?_
  intro K
  refine W_seq (by kernel_rfl) ?_
  refine W_run 1 [] [0, 1] [] (fr' := [(0, aD (.slice tI) a0), (1, .one (.fn 94 []))]) (L' := []) (obs := []) (by kernel_rfl) (by kernel_rfl) (by kernel_rfl) allP0 ?_
  refine seqQ_norm ?_
  refine W_seq (by kernel_rfl) ?_
  refine W_seq (by kernel_rfl) ?_
  refine W_run 3 [] [0, 1, 7, 8] [] (fr' := [(0, aD (.slice tI) a0), (1, .one (.fn 94 [])), (7, aI (List.length a0 : Int)), (8, aI (0 : Int))]) (L' := []) (obs := []) (by kernel_rfl) (by kernel_rfl) (by kernel_rfl) allP0 ?_
  refine seqQ_norm ?_
  refine W_block (id := 0) (by kernel_rfl) ?_
  obtain ⟨v25, h26, h⟩ := bind_of h
  refine W_len (t := 0) (u := tI) (xs := a0) (by kernel_rfl) (fun h29 => ?_)
  obtain ⟨h27, h28⟩ := forL_iter h29 h26
  refine W_weaken [0, 1, 7, 8] [] (fr' := ((slices_IndexFunc_Lintint_with_pairs_wrong_2_s2 a0) ((0 : Int), ())).1) (L' := ((slices_IndexFunc_Lintint_with_pairs_wrong_2_s2 a0) ((0 : Int), ())).2) (by kernel_rfl) ?_
  refine W_cutK (W_loop (S := (slices_IndexFunc_Lintint_with_pairs_wrong_2_s2 a0)) (J := (escQ (exQ .ret slices_IndexFunc_Lintint_with_pairs_wrong_2_s3) (exQ (.exit 0) slices_IndexFunc_Lintint_with_pairs_wrong_2_s4))) (by kernel_rfl) ?_ h27 _ v25 h28) ?_
  · rintro ⟨i15, x16⟩ s h
    refine W_seq (by kernel_rfl) ?_
    refine W_run 1 [] [0, 1, 7, 8, 9] [] (fr' := [(0, aD (.slice tI) a0), (1, .one (.fn 94 [])), (7, aI (List.length a0 : Int)), (8, aI i15), (9, aB (decide (i15 < (List.length a0 : Int))))]) (L' := []) (obs := []) (by kernel_rfl) (by kernel_rfl) (by kernel_rfl) allP0 ?_
    refine seqQ_norm ?_
    refine W_seq (by kernel_rfl) ?_
    refine W_cond (o := .tmp 9) (b := decide (i15 < (List.length a0 : Int))) (by kernel_rfl) (by kernel_rfl) (fun h20 => ?_) (fun h20 => ?_)
    · replace h := stepL_true h20 h
      obtain ⟨v18, _, h19, h, rfl⟩ := h
      refine W_skip [0, 1, 7, 8] [] (fr' := [(0, aD (.slice tI) a0), (1, .one (.fn 94 [])), (7, aI (List.length a0 : Int)), (8, aI i15)]) (L' := []) (by kernel_rfl) (by kernel_rfl) ?_
      refine seqQ_norm ?_
      refine W_seq (by kernel_rfl) ?_
      refine W_block (id := 1) (by kernel_rfl) ?_
      refine W_seq (by kernel_rfl) ?_
      refine W_run 2 [] [0, 1, 5, 7, 8] [] (fr' := [(0, aD (.slice tI) a0), (1, .one (.fn 94 [])), (5, aI i15), (7, aI (List.length a0 : Int)), (8, aI i15)]) (L' := []) (obs := []) (by kernel_rfl) (by kernel_rfl) (by kernel_rfl) allP0 ?_
      refine seqQ_norm ?_
      refine W_seq (by kernel_rfl) ?_
      refine W_region (by kernel_rfl) ?_
      refine WO_run (j := 5) (k := 5) (orcs := [(7, .val (.dat tI v18))]) (kF := [0, 1, 5, 7, 8, 11, 15]) (kL := []) (fr' := [(0, aD (.slice tI) a0), (1, .one (.fn 94 [])), (5, aI i15), (7, aI (List.length a0 : Int)), (8, aI i15), (11, .one (.fn 94 [])), (15, aI v18)]) (L' := []) (obs := [Idx a0 i15 v18]) rfl (by kernel_rfl) (allP1 (Idx.of h19)) ?_
      obtain ⟨r21, h22, h⟩ := bind_of h
      refine WO_call0 (us := [none]) (d := 16) (p := True) (j := 6) rfl ⟨by kernel_rfl, by kernel_rfl, by kernel_rfl⟩ trivial (pairs_wrong_2_ok h22) (by kernel_rfl) ?_
      refine WO_fin [0, 1, 5, 7, 8, 16] [] (fr' := [(0, aD (.slice tI) a0), (1, .one (.fn 94 [])), (5, aI i15), (7, aI (List.length a0 : Int)), (8, aI i15), (16, aB r21)]) (L' := []) (by kernel_rfl) (by kernel_rfl) ?_
      refine seqQ_norm ?_
      refine W_cond (o := .tmp 16) (b := r21) (by kernel_rfl) (by kernel_rfl) (fun h23 => ?_) (fun h23 => ?_)
      · replace h := ofT h23 h
        refine W_seq (by kernel_rfl) ?_
        refine W_run 2 [] [4] [] (fr' := [(4, aI i15)]) (L' := []) (obs := []) (by kernel_rfl) (by kernel_rfl) (by kernel_rfl) allP0 ?_
        refine seqQ_norm ?_
        obtain rfl := Option.some.inj h
        refine W_ret [4] [] (fr' := [(4, aI i15)]) (L' := []) (by kernel_rfl) (by kernel_rfl) ?_
        refine blockQ_ret ?_
        refine seqQ_ret ?_
        refine round_ret ?_
        refine escQ_ret ?_
        exact exQ_mk (by kernel_rfl) (by kernel_rfl)
      · replace h := ofF h23 h
        refine W_skip [0, 1, 7, 8] [] (fr' := [(0, aD (.slice tI) a0), (1, .one (.fn 94 [])), (7, aI (List.length a0 : Int)), (8, aI i15)]) (L' := []) (by kernel_rfl) (by kernel_rfl) ?_
        refine blockQ_norm ?_
        refine seqQ_norm ?_
        obtain rfl := Option.some.inj h
        refine W_run 2 [] [0, 1, 7, 8] [] (fr' := [(0, aD (.slice tI) a0), (1, .one (.fn 94 [])), (7, aI (List.length a0 : Int)), (8, aI (w64 (i15 + (1 : Int))))]) (L' := []) (obs := []) (by kernel_rfl) (by kernel_rfl) (by kernel_rfl) allP0 ?_
        exact round_next' (by kernel_rfl) (by kernel_rfl)
    · obtain rfl := stepL_false h20 h
      refine W_exit (id := 0) [] [] (fr' := []) (L' := []) (by kernel_rfl) (by kernel_rfl) ?_
      refine seqQ_exit ?_
      refine round_exit ?_
      refine escQ_brk ?_
      exact exQ_mk (by kernel_rfl) (by kernel_rfl)
  · intro e fr L hJ
    rcases v25 with v30 | v31
    · obtain ⟨rfl, rfl, rfl⟩ := hJ
      obtain rfl := Option.some.inj h
      refine LT_keep [4] [] (fr' := [(4, aI v30)]) (L' := []) (by kernel_rfl) ?_
      refine blockQ_ret ?_
      refine seqQ_ret ?_
      exact retQ_mk (by kernel_rfl) (by kernel_rfl) (by kernel_rfl)
    · obtain ⟨rfl, rfl, rfl⟩ := hJ
      refine LT_keep [] [] (fr' := []) (L' := []) (by kernel_rfl) ?_
      refine blockQ_hit ?_
      refine seqQ_norm ?_
      refine W_seq (by kernel_rfl) ?_
      refine W_run 1 [] [4] [] (fr' := [(4, aI (-1 : Int))]) (L' := []) (obs := []) (by kernel_rfl) (by kernel_rfl) (by kernel_rfl) allP0 ?_
      refine seqQ_norm ?_
      obtain rfl := Option.some.inj h
      refine W_ret [4] [] (fr' := [(4, aI (-1 : Int))]) (L' := []) (by kernel_rfl) (by kernel_rfl) ?_
      exact retQ_mk (by kernel_rfl) (by kernel_rfl) (by kernel_rfl)

def slices_ContainsFunc_Lintint_with_pairs_wrong_2 (a0 : (List Int)) : Option Bool :=
(slices_IndexFunc_Lintint_with_pairs_wrong_2 a0).bind fun r1 =>
some (decide (r1 ≥ (0 : Int)))
theorem slices_ContainsFunc_Lintint_with_pairs_wrong_2_ok {a0 : (List Int)} {r : Bool} (h : slices_ContainsFunc_Lintint_with_pairs_wrong_2 a0 = some r) : FnC Try.prog 92 [aD (.slice tI) a0, .one (.fn 94 [])] [] (aB r) [] := by
  refine fnC_of_W (B := bodyOf Try.f92) (n := 9) Try.func92 (by kernel_rfl) (by kernel_rfl) (by kernel_rfl) (by kernel_rfl) (by kernel_rfl) ?_
  intro K
  refine W_seq (by kernel_rfl) ?_
  refine W_run 1 [] [0, 1] [] (fr' := [(0, aD (.slice tI) a0), (1, .one (.fn 94 []))]) (L' := []) (obs := []) (by kernel_rfl) (by kernel_rfl) (by kernel_rfl) allP0 ?_
  refine seqQ_norm ?_
  refine W_seq (by kernel_rfl) ?_
  refine W_region (by kernel_rfl) ?_
  refine WO_run (j := 2) (k := 2) (orcs := []) (kF := [5, 6]) (kL := []) (fr' := [(5, aD (.slice tI) a0), (6, .one (.fn 94 []))]) (L' := []) (obs := []) rfl (by kernel_rfl) allP0 ?_
  obtain ⟨r1, h2, h⟩ := bind_of h
  refine WO_call0 (us := [none, none]) (d := 7) (p := True) (j := 3) rfl ⟨by kernel_rfl, by kernel_rfl, by kernel_rfl⟩ trivial (slices_IndexFunc_Lintint_with_pairs_wrong_2_ok h2) (by kernel_rfl) ?_
  refine WO_run (j := 5) (k := 2) (orcs := []) (kF := [4]) (kL := []) (fr' := [(4, aB (decide (r1 ≥ (0 : Int))))]) (L' := []) (obs := []) rfl (by kernel_rfl) allP0 ?_
  refine WO_fin [4] [] (fr' := [(4, aB (decide (r1 ≥ (0 : Int))))]) (L' := []) (by kernel_rfl) (by kernel_rfl) ?_
  refine seqQ_norm ?_
  obtain rfl := Option.some.inj h
  refine W_ret [4] [] (fr' := [(4, aB (decide (r1 ≥ (0 : Int))))]) (L' := []) (by kernel_rfl) (by kernel_rfl) ?_
  exact retQ_mk (by kernel_rfl) (by kernel_rfl) (by kernel_rfl)

def pairs_wrong (a0 : (List (List Int))) : Option Int :=
bif (decide ((List.length a0 : Int) < (1 : Int))) || (decide ((List.length a0 : Int) > (6 : Int))) then
(some (1 : Int))
else
((slices_ContainsFunc_LLintLint_with_pairs_wrong_1 a0 a0).bind fun r2 =>
bif r2 then
(some (3 : Int))
else
((slices_Concat_Lintint a0).bind fun r5 =>
(slices_ContainsFunc_Lintint_with_pairs_wrong_2 r5).bind fun r7 =>
bif r7 then
(some (4 : Int))
else
(some (0 : Int))))
theorem pairs_wrong_ok {a0 : (List (List Int))} {r : Int} (h : pairs_wrong a0 = some r) : FnC Try.prog 68 [aD (.slice (.slice tI)) a0] [] (aI r) [] := by
  refine fnC_of_W (B := bodyOf Try.f68) (n := 17) Try.func68 (by kernel_rfl) (by kernel_rfl) (by kernel_rfl) (by kernel_rfl) (by kernel_rfl) ?_
  intro K
  refine W_seq (by kernel_rfl) ?_
  refine W_run 2 [] [1] [1] (fr' := [(1, .one (.ptr 1 0))]) (L' := [(1, .cells [.dat (.slice (.slice tI)) a0])]) (obs := []) (by kernel_rfl) (by kernel_rfl) (by kernel_rfl) allP0 ?_
  refine seqQ_norm ?_
  refine W_seq (by kernel_rfl) ?_
  refine W_seq (by kernel_rfl) ?_
  refine W_run 8 [] [1, 10] [1] (fr' := [(1, .one (.ptr 1 0)), (10, aB ((decide ((List.length a0 : Int) < (1 : Int))) || (decide ((List.length a0 : Int) > (6 : Int)))))]) (L' := [(1, .cells [.dat (.slice (.slice tI)) a0])]) (obs := []) (by kernel_rfl) (by kernel_rfl) (by kernel_rfl) allP0 ?_
  refine seqQ_norm ?_
  refine W_cond (o := .tmp 10) (b := (decide ((List.length a0 : Int) < (1 : Int))) || (decide ((List.length a0 : Int) > (6 : Int)))) (by kernel_rfl) (by kernel_rfl) (fun h1 => ?_) (fun h1 => ?_)
  · replace h := ofT h1 h
    refine W_seq (by kernel_rfl) ?_
    refine W_run 1 [] [2] [] (fr' := [(2, aI (1 : Int))]) (L' := []) (obs := []) (by kernel_rfl) (by kernel_rfl) (by kernel_rfl) allP0 ?_
    refine seqQ_norm ?_
    obtain rfl := Option.some.inj h
    refine W_ret [2] [] (fr' := [(2, aI (1 : Int))]) (L' := []) (by kernel_rfl) (by kernel_rfl) ?_
    refine seqQ_ret ?_
    exact retQ_mk (by kernel_rfl) (by kernel_rfl) (by kernel_rfl)
  · replace h := ofF h1 h
    refine W_skip [1] [1] (fr' := [(1, .one (.ptr 1 0))]) (L' := [(1, .cells [.dat (.slice (.slice tI)) a0])]) (by kernel_rfl) (by kernel_rfl) ?_
    refine seqQ_norm ?_
    refine W_seq (by kernel_rfl) ?_
    refine W_seq (by kernel_rfl) ?_
    refine W_region (by kernel_rfl) ?_
    refine WO_run (j := 2) (k := 2) (orcs := []) (kF := [1, 11, 12]) (kL := [1]) (fr' := [(1, .one (.ptr 1 0)), (11, aD (.slice (.slice tI)) a0), (12, .one (.fn 91 [(1, 0)]))]) (L' := [(1, .cells [.dat (.slice (.slice tI)) a0])]) (obs := []) rfl (by kernel_rfl) allP0 ?_
    obtain ⟨r2, h3, h⟩ := bind_of h
    refine WO_lend [(1000, 1)] (us := [none, none]) (d := 13) (p := True) (j := 3) rfl ⟨by kernel_rfl, by kernel_rfl, by kernel_rfl⟩ trivial (slices_ContainsFunc_LLintLint_with_pairs_wrong_1_ok h3) (by kernel_rfl) (by kernel_rfl) ?_
    refine WO_fin [1, 13] [1] (fr' := [(1, .one (.ptr 1 0)), (13, aB r2)]) (L' := [(1, .cells [.dat (.slice (.slice tI)) a0])]) (by kernel_rfl) (by kernel_rfl) ?_
    refine seqQ_norm ?_
    refine W_cond (o := .tmp 13) (b := r2) (by kernel_rfl) (by kernel_rfl) (fun h4 => ?_) (fun h4 => ?_)
    · replace h := ofT h4 h
      refine W_seq (by kernel_rfl) ?_
      refine W_run 1 [] [2] [] (fr' := [(2, aI (3 : Int))]) (L' := []) (obs := []) (by kernel_rfl) (by kernel_rfl) (by kernel_rfl) allP0 ?_
      refine seqQ_norm ?_
      obtain rfl := Option.some.inj h
      refine W_ret [2] [] (fr' := [(2, aI (3 : Int))]) (L' := []) (by kernel_rfl) (by kernel_rfl) ?_
      refine seqQ_ret ?_
      exact retQ_mk (by kernel_rfl) (by kernel_rfl) (by kernel_rfl)
    · replace h := ofF h4 h
      refine W_skip [1] [1] (fr' := [(1, .one (.ptr 1 0))]) (L' := [(1, .cells [.dat (.slice (.slice tI)) a0])]) (by kernel_rfl) (by kernel_rfl) ?_
      refine seqQ_norm ?_
      refine W_seq (by kernel_rfl) ?_
      refine W_seq (by kernel_rfl) ?_
      refine W_region (by kernel_rfl) ?_
      refine WO_run (j := 1) (k := 1) (orcs := []) (kF := [14]) (kL := [1]) (fr' := [(14, aD (.slice (.slice tI)) a0)]) (L' := [(1, .cells [.dat (.slice (.slice tI)) a0])]) (obs := []) rfl (by kernel_rfl) allP0 ?_
      obtain ⟨r5, h6, h⟩ := bind_of h
      refine WO_call1 (us := [none]) (d := 15) (t := 15) (p := True) (j := 2) rfl ⟨by kernel_rfl, by kernel_rfl, by kernel_rfl⟩ trivial (slices_Concat_Lintint_ok h6) (by kernel_rfl) ?_
      obtain ⟨r7, h8, h⟩ := bind_of h
      refine WO_frz 15 (by kernel_rfl) ?_
      refine WO_call0 (us := [none, none]) (d := 16) (p := True) (j := 3) rfl ⟨by kernel_rfl, by kernel_rfl, by kernel_rfl⟩ trivial (slices_ContainsFunc_Lintint_with_pairs_wrong_2_ok h8) (by kernel_rfl) ?_
      refine WO_fin [16] [] (fr' := [(16, aB r7)]) (L' := []) (by kernel_rfl) (by kernel_rfl) ?_
      refine seqQ_norm ?_
      refine W_cond (o := .tmp 16) (b := r7) (by kernel_rfl) (by kernel_rfl) (fun h9 => ?_) (fun h9 => ?_)
      · replace h := ofT h9 h
        refine W_seq (by kernel_rfl) ?_
        refine W_run 1 [] [2] [] (fr' := [(2, aI (4 : Int))]) (L' := []) (obs := []) (by kernel_rfl) (by kernel_rfl) (by kernel_rfl) allP0 ?_
        refine seqQ_norm ?_
        obtain rfl := Option.some.inj h
        refine W_ret [2] [] (fr' := [(2, aI (4 : Int))]) (L' := []) (by kernel_rfl) (by kernel_rfl) ?_
        refine seqQ_ret ?_
        exact retQ_mk (by kernel_rfl) (by kernel_rfl) (by kernel_rfl)
      · replace h := ofF h9 h
        refine W_skip [] [] (fr' := []) (L' := []) (by kernel_rfl) (by kernel_rfl) ?_
        refine seqQ_norm ?_
        refine W_seq (by kernel_rfl) ?_
        refine W_run 1 [] [2] [] (fr' := [(2, aI (0 : Int))]) (L' := []) (obs := []) (by kernel_rfl) (by kernel_rfl) (by kernel_rfl) allP0 ?_
        refine seqQ_norm ?_
        obtain rfl := Option.some.inj h
        refine W_ret [2] [] (fr' := [(2, aI (0 : Int))]) (L' := []) (by kernel_rfl) (by kernel_rfl) ?_
        exact retQ_mk (by kernel_rfl) (by kernel_rfl) (by kernel_rfl)

def slices_Clone_Lintint (a0 : (List Int)) : Option (List Int) :=
(ck ((0 : Int) + (List.length a0 : Int) ≤ 4294967296)).bind fun _ =>
some ([] ++ a0)
theorem slices_Clone_Lintint_ok {a0 : (List Int)} {r : (List Int)} (h : slices_Clone_Lintint a0 = some r) : FnC Try.prog 69 [aD (.slice tI) a0] [] (.one (.slc 5)) [(5, .seq tI r)] := by
  refine fnC_of_W (B := bodyOf Try.f69) (n := 8) Try.func69 (by kernel_rfl) (by kernel_rfl) (by kernel_rfl) (by kernel_rfl) (by kernel_rfl) ?_
  intro K
  refine W_seq (by kernel_rfl) ?_
  refine W_run 1 [] [0] [] (fr' := [(0, aD (.slice tI) a0)]) (L' := []) (obs := []) (by kernel_rfl) (by kernel_rfl) (by kernel_rfl) allP0 ?_
  refine seqQ_norm ?_
  refine W_seq (by kernel_rfl) ?_
  refine W_seq (by kernel_rfl) ?_
  refine W_region (by kernel_rfl) ?_
  refine WO_run (j := 1) (k := 1) (orcs := []) (kF := [0, 3]) (kL := []) (fr' := [(0, aD (.slice tI) a0), (3, aD (.slice tI) a0)]) (L' := []) (obs := []) rfl (by kernel_rfl) allP0 ?_
  refine WO_nilcmp (u := tI) (xs := a0) (d := 4) (j := 2) rfl (by kernel_rfl) (by kernel_rfl) (fun h12 h10 => ?_)
  cases h12
  · refine WO_fin [0, 4] [] (fr' := [(0, aD (.slice tI) a0), (4, aB false)]) (L' := []) (by kernel_rfl) (by kernel_rfl) ?_
    refine seqQ_norm ?_
    refine W_cond (o := .tmp 4) (b := false) (by kernel_rfl) (by kernel_rfl) (fun h7 => by have := (rfl : false = false).symm.trans h7; cases this) (fun h7 => ?_)
    refine W_skip [0] [] (fr' := [(0, aD (.slice tI) a0)]) (L' := []) (by kernel_rfl) (by kernel_rfl) ?_
    refine seqQ_norm ?_
    refine W_seq (by kernel_rfl) ?_
    obtain ⟨_, h8, h⟩ := bind_of h
    replace h8 := ck_some h8
    refine W_run 4 [] [2] [5] (fr' := [(2, .one (.slc 5))]) (L' := [(5, .seq tI ([] ++ a0))]) (obs := [SmallLen (List.length ([] : (List Int)) + List.length a0)]) (by kernel_rfl) (by kernel_rfl) (by kernel_rfl) (allP1 h8) ?_
    refine seqQ_norm ?_
    obtain rfl := Option.some.inj h
    refine W_ret [2] [5] (fr' := [(2, .one (.slc 5))]) (L' := [(5, .seq tI ([] ++ a0))]) (by kernel_rfl) (by kernel_rfl) ?_
    exact retQ_mk (by kernel_rfl) (by kernel_rfl) (by kernel_rfl)
  · replace h10 := h10 rfl
    have h11 : (some [] : Option (List Int)) = ((ck ((0 : Int) + (List.length a0 : Int) ≤ 4294967296)).bind fun _ => some ([] ++ a0)) := by rw [h10]; simp [ck]
    replace h := h11.trans h
    refine WO_fin [0, 4] [] (fr' := [(0, aD (.slice tI) a0), (4, aB true)]) (L' := []) (by kernel_rfl) (by kernel_rfl) ?_
    refine seqQ_norm ?_
    refine W_cond (o := .tmp 4) (b := true) (by kernel_rfl) (by kernel_rfl) (fun h9 => ?_) (fun h9 => by have := (rfl : true = true).symm.trans h9; cases this)
    refine W_seq (by kernel_rfl) ?_
    refine W_run 1 [] [2] [] (fr' := [(2, .one (.nilS))]) (L' := []) (obs := []) (by kernel_rfl) (by kernel_rfl) (by kernel_rfl) allP0 ?_
    refine seqQ_norm ?_
    obtain rfl := Option.some.inj h
    refine W_mine 2 5 tI (by kernel_rfl) ?_
    refine W_ret [2] [5] (fr' := [(2, .one (.slc 5))]) (L' := [(5, .seq tI [])]) (by kernel_rfl) (by kernel_rfl) ?_
    refine seqQ_ret ?_
    exact retQ_mk (by kernel_rfl) (by kernel_rfl) (by kernel_rfl)

def pairs_Signed_1 (a0 : (List Int)) (c0 : Int) : Option Bool :=
(idx a0 c0).bind fun v1 =>
some (v1 != (0 : Int))
theorem pairs_Signed_1_ok {a0 : (List Int)} {c0 : Int} {r : Bool} (h : pairs_Signed_1 a0 c0 = some r) : FnC Try.prog 70 [aD (.slice tI) a0, .one (.ptr 1000 0)] [(1000, .cells [.dat tI c0])] (aB r) [(1000, .cells [.dat tI c0])] := by
  refine fnC_of_W (B := bodyOf Try.f70) (n := 9) Try.func70 (by kernel_rfl) (by kernel_rfl) (by kernel_rfl) (by kernel_rfl) (by kernel_rfl) ?_
  intro K
  refine W_seq (by kernel_rfl) ?_
  refine W_run 1 [] [0, 1] [1000] (fr' := [(0, aD (.slice tI) a0), (1, .one (.ptr 1000 0))]) (L' := [(1000, .cells [.dat tI c0])]) (obs := []) (by kernel_rfl) (by kernel_rfl) (by kernel_rfl) allP0 ?_
  refine seqQ_norm ?_
  refine W_seq (by kernel_rfl) ?_
  obtain ⟨v1, h2, h⟩ := bind_of h
  refine W_run 6 [(5, .val (.dat tI v1))] [3] [1000] (fr' := [(3, aB (v1 != (0 : Int)))]) (L' := [(1000, .cells [.dat tI c0])]) (obs := [Idx a0 c0 v1]) (by kernel_rfl) (by kernel_rfl) (by kernel_rfl) (allP1 (Idx.of h2)) ?_
  refine seqQ_norm ?_
  obtain rfl := Option.some.inj h
  refine W_ret [3] [1000] (fr' := [(3, aB (v1 != (0 : Int)))]) (L' := [(1000, .cells [.dat tI c0])]) (by kernel_rfl) (by kernel_rfl) ?_
  exact retQ_mk (by kernel_rfl) (by kernel_rfl) (by kernel_rfl)

def slices_IndexFunc_LLintLint_with_pairs_Signed_1_b1 (c0 : Int) (i15 : Int) (v18 : (List Int)) (x16 : Unit) : Option (Flow Unit (Esc Int Unit)) :=
(pairs_Signed_1 v18 c0).bind fun r21 =>
bif r21 then
(some (.done (.ret i15)))
else
(some (.next ()))
@[reducible] def slices_IndexFunc_LLintLint_with_pairs_Signed_1_s2 (a0 : (List (List Int))) (c0 : Int) (v : Int × Unit) : Fr × LL := ([(0, aD (.slice (.slice tI)) a0), (1, .one (.fn 70 [(1000, 0)])), (7, aI (List.length a0 : Int)), (8, aI v.1)], [(1000, .cells [.dat tI c0])])
@[reducible] def slices_IndexFunc_LLintLint_with_pairs_Signed_1_s3 (c0 : Int) (v : Int) : Fr × LL := ([(4, aI v)], [(1000, .cells [.dat tI c0])])
@[reducible] def slices_IndexFunc_LLintLint_with_pairs_Signed_1_s4 (c0 : Int) (v : Unit) : Fr × LL := ([], [(1000, .cells [.dat tI c0])])
def slices_IndexFunc_LLintLint_with_pairs_Signed_1 (a0 : (List (List Int))) (c0 : Int) : Option Int :=
(forL (slices_IndexFunc_LLintLint_with_pairs_Signed_1_b1 c0) (fun x16 => (.brk ())) a0 0 ()).bind fun v25 =>
match v25 with
| .ret v30 =>
(some v30)
| .brk v31 =>
(some (-1 : Int))
theorem slices_IndexFunc_LLintLint_with_pairs_Signed_1_ok {a0 : (List (List Int))} {c0 : Int} {r : Int} (h : slices_IndexFunc_LLintLint_with_pairs_Signed_1 a0 c0 = some r) : FnC Try.prog 55 [aD (.slice (.slice tI)) a0, .one (.fn 70 [(1000, 0)])] [(1000, .cells [.dat tI c0])] (aI r) [(1000, .cells [.dat tI c0])] := by
  refine fnC_of_W (B := bodyOf Try.f55) (n := 19) Try.func55 (by kernel_rfl) (by kernel_rfl) (by kernel_rfl) (by kernel_rfl) (by kernel_rfl) ?_
  intro K
  refine W_seq (by kernel_rfl) ?_
  refine W_run 1 [] [0, 1] [1000] (fr' := [(0, aD (.slice (.slice tI)) a0), (1, .one (.fn 70 [(1000, 0)]))]) (L' := [(1000, .cells [.dat tI c0])]) (obs := []) (by kernel_rfl) (by kernel_rfl) (by kernel_rfl) allP0 ?_
  refine seqQ_norm ?_
  refine W_seq (by kernel_rfl) ?_
  refine W_seq (by kernel_rfl) ?_
  refine W_run 3 [] [0, 1, 7, 8] [1000] (fr' := [(0, aD (.slice (.slice tI)) a0), (1, .one (.fn 70 [(1000, 0)])), (7, aI (List.length a0 : Int)), (8, aI (0 : Int))]) (L' := [(1000, .cells [.dat tI c0])]) (obs := []) (by kernel_rfl) (by kernel_rfl) (by kernel_rfl) allP0 ?_
  refine seqQ_norm ?_
  refine W_block (id := 0) (by kernel_rfl) ?_
  obtain ⟨v25, h26, h⟩ := bind_of h
  refine W_len (t := 0) (u := (.slice tI)) (xs := a0) (by kernel_rfl) (fun h29 => ?_)
  obtain ⟨h27, h28⟩ := forL_iter h29 h26
  refine W_weaken [0, 1, 7, 8] [1000] (fr' := ((slices_IndexFunc_LLintLint_with_pairs_Signed_1_s2 a0 c0) ((0 : Int), ())).1) (L' := ((slices_IndexFunc_LLintLint_with_pairs_Signed_1_s2 a0 c0) ((0 : Int), ())).2) (by kernel_rfl) ?_
  refine W_cutK (W_loop (S := (slices_IndexFunc_LLintLint_with_pairs_Signed_1_s2 a0 c0)) (J := (escQ (exQ .ret (slices_IndexFunc_LLintLint_with_pairs_Signed_1_s3 c0)) (exQ (.exit 0) (slices_IndexFunc_LLintLint_with_pairs_Signed_1_s4 c0)))) (by kernel_rfl) ?_ h27 _ v25 h28) ?_
  · rintro ⟨i15, x16⟩ s h
    refine W_seq (by kernel_rfl) ?_
    refine W_run 1 [] [0, 1, 7, 8, 9] [1000] (fr' := [(0, aD (.slice (.slice tI)) a0), (1, .one (.fn 70 [(1000, 0)])), (7, aI (List.length a0 : Int)), (8, aI i15), (9, aB (decide (i15 < (List.length a0 : Int))))]) (L' := [(1000, .cells [.dat tI c0])]) (obs := []) (by kernel_rfl) (by kernel_rfl) (by kernel_rfl) allP0 ?_
    refine seqQ_norm ?_
    refine W_seq (by kernel_rfl) ?_
    refine W_cond (o := .tmp 9) (b := decide (i15 < (List.length a0 : Int))) (by kernel_rfl) (by kernel_rfl) (fun h20 => ?_) (fun h20 => ?_)
    · replace h := stepL_true h20 h
      obtain ⟨v18, _, h19, h, rfl⟩ := h
      refine W_skip [0, 1, 7, 8] [1000] (fr' := [(0, aD (.slice (.slice tI)) a0), (1, .one (.fn 70 [(1000, 0)])), (7, aI (List.length a0 : Int)), (8, aI i15)]) (L' := [(1000, .cells [.dat tI c0])]) (by kernel_rfl) (by kernel_rfl) ?_
      refine seqQ_norm ?_
      refine W_seq (by kernel_rfl) ?_
      refine W_block (id := 1) (by kernel_rfl) ?_
      refine W_seq (by kernel_rfl) ?_
      refine W_run 2 [] [0, 1, 5, 7, 8] [1000] (fr' := [(0, aD (.slice (.slice tI)) a0), (1, .one (.fn 70 [(1000, 0)])), (5, aI i15), (7, aI (List.length a0 : Int)), (8, aI i15)]) (L' := [(1000, .cells [.dat tI c0])]) (obs := []) (by kernel_rfl) (by kernel_rfl) (by kernel_rfl) allP0 ?_
      refine seqQ_norm ?_
      refine W_seq (by kernel_rfl) ?_
      refine W_region (by kernel_rfl) ?_
      refine WO_run (j := 5) (k := 5) (orcs := [(7, .val (.dat (.slice tI) v18))]) (kF := [0, 1, 5, 7, 8, 11, 15]) (kL := [1000]) (fr' := [(0, aD (.slice (.slice tI)) a0), (1, .one (.fn 70 [(1000, 0)])), (5, aI i15), (7, aI (List.length a0 : Int)), (8, aI i15), (11, .one (.fn 70 [(1000, 0)])), (15, aD (.slice tI) v18)]) (L' := [(1000, .cells [.dat tI c0])]) (obs := [Idx a0 i15 v18]) rfl (by kernel_rfl) (allP1 (Idx.of h19)) ?_
      obtain ⟨r21, h22, h⟩ := bind_of h
      refine WO_lend [(1000, 1000)] (us := [none, none]) (d := 16) (p := True) (j := 6) rfl ⟨by kernel_rfl, by kernel_rfl, by kernel_rfl⟩ trivial (pairs_Signed_1_ok h22) (by kernel_rfl) (by kernel_rfl) ?_
      refine WO_fin [0, 1, 5, 7, 8, 16] [1000] (fr' := [(0, aD (.slice (.slice tI)) a0), (1, .one (.fn 70 [(1000, 0)])), (5, aI i15), (7, aI (List.length a0 : Int)), (8, aI i15), (16, aB r21)]) (L' := [(1000, .cells [.dat tI c0])]) (by kernel_rfl) (by kernel_rfl) ?_
      refine seqQ_norm ?_
      refine W_cond (o := .tmp 16) (b := r21) (by kernel_rfl) (by kernel_rfl) (fun h23 => ?_) (fun h23 => ?_)
      · replace h := ofT h23 h
        refine W_seq (by kernel_rfl) ?_
        refine W_run 2 [] [4] [1000] (fr' := [(4, aI i15)]) (L' := [(1000, .cells [.dat tI c0])]) (obs := []) (by kernel_rfl) (by kernel_rfl) (by kernel_rfl) allP0 ?_
        refine seqQ_norm ?_
        obtain rfl := Option.some.inj h
        refine W_ret [4] [1000] (fr' := [(4, aI i15)]) (L' := [(1000, .cells [.dat tI c0])]) (by kernel_rfl) (by kernel_rfl) ?_
        refine blockQ_ret ?_
        refine seqQ_ret ?_
        refine round_ret ?_
        refine escQ_ret ?_
        exact exQ_mk (by kernel_rfl) (by kernel_rfl)
      · replace h := ofF h23 h
        refine W_skip [0, 1, 7, 8] [1000] (fr' := [(0, aD (.slice (.slice tI)) a0), (1, .one (.fn 70 [(1000, 0)])), (7, aI (List.length a0 : Int)), (8, aI i15)]) (L' := [(1000, .cells [.dat tI c0])]) (by kernel_rfl) (by kernel_rfl) ?_
        refine blockQ_norm ?_
        refine seqQ_norm ?_
        obtain rfl := Option.some.inj h
        refine W_run 2 [] [0, 1, 7, 8] [1000] (fr' := [(0, aD (.slice (.slice tI)) a0), (1, .one (.fn 70 [(1000, 0)])), (7, aI (List.length a0 : Int)), (8, aI (w64 (i15 + (1 : Int))))]) (L' := [(1000, .cells [.dat tI c0])]) (obs := []) (by kernel_rfl) (by kernel_rfl) (by kernel_rfl) allP0 ?_
        exact round_next' (by kernel_rfl) (by kernel_rfl)
    · obtain rfl := stepL_false h20 h
      refine W_exit (id := 0) [] [1000] (fr' := []) (L' := [(1000, .cells [.dat tI c0])]) (by kernel_rfl) (by kernel_rfl) ?_
      refine seqQ_exit ?_
      refine round_exit ?_
      refine escQ_brk ?_
      exact exQ_mk (by kernel_rfl) (by kernel_rfl)
  · intro e fr L hJ
    rcases v25 with v30 | v31
    · obtain ⟨rfl, rfl, rfl⟩ := hJ
      obtain rfl := Option.some.inj h
      refine LT_keep [4] [1000] (fr' := [(4, aI v30)]) (L' := [(1000, .cells [.dat tI c0])]) (by kernel_rfl) ?_
      refine blockQ_ret ?_
      refine seqQ_ret ?_
      exact retQ_mk (by kernel_rfl) (by kernel_rfl) (by kernel_rfl)
    · obtain ⟨rfl, rfl, rfl⟩ := hJ
      refine LT_keep [] [1000] (fr' := []) (L' := [(1000, .cells [.dat tI c0])]) (by kernel_rfl) ?_
      refine blockQ_hit ?_
      refine seqQ_norm ?_
      refine W_seq (by kernel_rfl) ?_
      refine W_run 1 [] [4] [1000] (fr' := [(4, aI (-1 : Int))]) (L' := [(1000, .cells [.dat tI c0])]) (obs := []) (by kernel_rfl) (by kernel_rfl) (by kernel_rfl) allP0 ?_
      refine seqQ_norm ?_
      obtain rfl := Option.some.inj h
      refine W_ret [4] [1000] (fr' := [(4, aI (-1 : Int))]) (L' := [(1000, .cells [.dat tI c0])]) (by kernel_rfl) (by kernel_rfl) ?_
      exact retQ_mk (by kernel_rfl) (by kernel_rfl) (by kernel_rfl)

def pairs_Signed_b1 (i17 : Int) (v20 : (List Int)) (x18 : (List (List Int))) : Option (Flow (List (List Int)) (List (List Int))) :=
(slices_Clone_Lintint v20).bind fun r23 =>
(ck ((List.length x18 : Int) + 1 ≤ 4294967296)).bind fun _ =>
some (.next (List.set ((x18 : (List (List Int))) ++ [([] : List Int)]) (Int.toNat (List.length x18 : Int)) r23))
@[reducible] def pairs_Signed_s2 (a0 : (List (List Int))) (v : Int × (List (List Int))) : Fr × LL := ([(5, .one (.slc 29)), (19, aD (.slice (.slice tI)) a0), (20, aI (List.length a0 : Int)), (21, aI v.1)], [(29, .rows 0 (.slice tI) v.2 [])])
@[reducible] def pairs_Signed_s3 (v : (List (List Int))) : Fr × LL := ([(5, .one (.slc 29))], [(29, .rows 0 (.slice tI) v [])])
def pairs_Signed_g74 (i1618 : Int) (x1619 : (Int × Int × (List (List Int)))) (r2032 : Int) : Option (Int × (List (List Int))) :=
bif decide (r2032 > (0 : Int)) then
((idx x1619.2.2 (w64 (i1618 + r2032))).bind fun v2046 =>
(idx x1619.2.2 i1618).bind fun v2048 =>
some (w64 (0 - x1619.1), List.set (List.set x1619.2.2 (Int.toNat i1618) v2046) (Int.toNat (w64 (i1618 + r2032))) v2048))
else
(some (x1619.1, x1619.2.2))
def pairs_Signed_b81 (i1618 : Int) (x1619 : (Int × Int × (List (List Int)))) (x2177 : (Int × (List (List Int)))) (x2343 : (Int × (List (List Int)))) : Option (Flow (Int × (List (List Int))) (List (List Int))) :=
bif decide (x2343.1 < (List.length x2343.2 : Int)) then
((idx x2343.2 x2177.1).bind fun v2386 =>
(idx x2343.2 i1618).bind fun v2392 =>
(ck (x2177.1 ≠ i1618)).bind fun _ =>
(idx v2386 x2343.1).bind fun v2413 =>
(idx v2392 i1618).bind fun v2415 =>
(idx v2386 i1618).bind fun v2417 =>
(idx v2392 x2343.1).bind fun v2419 =>
(ck (x1619.2.1 ≠ 0)).bind fun _ =>
some (.next (w64 (x2343.1 + (1 : Int)), List.set x2343.2 (Int.toNat x2177.1) (List.set v2386 (Int.toNat x2343.1) (w64 (Int.tdiv (w64 ((w64 (v2413 * v2415)) - (w64 (v2417 * v2419)))) x1619.2.1))))))
else
(some (.done x2343.2))
@[reducible] def pairs_Signed_s82 (v27 : (List (List Int))) (i1618 : Int) (x1619 : (Int × Int × (List (List Int)))) (v2050 : (Int × (List (List Int)))) (x2177 : (Int × (List (List Int)))) (v : (Int × (List (List Int)))) : Fr × LL := ([(5, .one (.slc 29)), (8, aI v2050.1), (9, aI x1619.2.1), (10, .one (.ptr 10 0)), (12, aI x2177.1), (13, aI v.1), (32, aI (List.length v27 : Int)), (33, aI i1618)], [(10, .cells [.dat tI i1618]), (29, .rows 0 (.slice tI) v.2 [])])
@[reducible] def pairs_Signed_s83 (v27 : (List (List Int))) (i1618 : Int) (x1619 : (Int × Int × (List (List Int)))) (v2050 : (Int × (List (List Int)))) (x2177 : (Int × (List (List Int)))) (v : (List (List Int))) : Fr × LL := ([(5, .one (.slc 29)), (8, aI v2050.1), (9, aI x1619.2.1), (10, .one (.ptr 10 0)), (12, aI x2177.1), (32, aI (List.length v27 : Int)), (33, aI i1618)], [(10, .cells [.dat tI i1618]), (29, .rows 0 (.slice tI) v [])])
def pairs_Signed_b84 (fuel : Nat) (i1618 : Int) (x1619 : (Int × Int × (List (List Int)))) (x2177 : (Int × (List (List Int)))) : Option (Flow (Int × (List (List Int))) (List (List Int))) :=
bif decide (x2177.1 < (List.length x2177.2 : Int)) then
((iter (pairs_Signed_b81 i1618 x1619 x2177) fuel (w64 (i1618 + (1 : Int)), x2177.2)).bind fun v2422 =>
some (.next (w64 (x2177.1 + (1 : Int)), v2422)))
else
(some (.done x2177.2))
@[reducible] def pairs_Signed_s85 (v27 : (List (List Int))) (i1618 : Int) (x1619 : (Int × Int × (List (List Int)))) (v2050 : (Int × (List (List Int)))) (v : (Int × (List (List Int)))) : Fr × LL := ([(5, .one (.slc 29)), (8, aI v2050.1), (9, aI x1619.2.1), (10, .one (.ptr 10 0)), (12, aI v.1), (32, aI (List.length v27 : Int)), (33, aI i1618)], [(10, .cells [.dat tI i1618]), (29, .rows 0 (.slice tI) v.2 [])])
@[reducible] def pairs_Signed_s86 (v27 : (List (List Int))) (i1618 : Int) (v2050 : (Int × (List (List Int)))) (v : (List (List Int))) : Fr × LL := ([(5, .one (.slc 29)), (8, aI v2050.1), (10, .one (.ptr 10 0)), (32, aI (List.length v27 : Int)), (33, aI i1618)], [(10, .cells [.dat tI i1618]), (29, .rows 0 (.slice tI) v [])])
@[reducible] def pairs_Signed_s87 (v27 : (List (List Int))) (i1618 : Int) (x1619 : (Int × Int × (List (List Int)))) (v : (Int × (List (List Int)))) : Fr × LL := ([(5, .one (.slc 29)), (8, aI v.1), (9, aI x1619.2.1), (10, .one (.ptr 10 0)), (32, aI (List.length v27 : Int)), (33, aI i1618)], [(10, .cells [.dat tI i1618]), (29, .rows 0 (.slice tI) v.2 [])])
def pairs_Signed_b88 (fuel : Nat) (i1618 : Int) (x1619 : (Int × Int × (List (List Int)))) : Option (Flow (Int × Int × (List (List Int))) (Esc (Int × Int) (Int × Int))) :=
(ck (0 ≤ i1618 ∧ i1618 ≤ (List.length x1619.2.2 : Int) ∧ (List.length x1619.2.2 : Int) ≤ (List.length x1619.2.2 : Int))).bind fun _ =>
(slices_IndexFunc_LLintLint_with_pairs_Signed_1 (sub x1619.2.2 i1618 (List.length x1619.2.2 : Int)) i1618).bind fun r2032 =>
bif decide (r2032 < (0 : Int)) then
(some (.done (.ret ((0 : Int), (0 : Int)))))
else
((pairs_Signed_g74 i1618 x1619 r2032).bind fun v2050 =>
(iter (pairs_Signed_b84 fuel i1618 x1619) fuel (w64 (i1618 + (1 : Int)), v2050.2)).bind fun v2426 =>
(idx v2426 i1618).bind fun v2432 =>
(idx v2432 i1618).bind fun v2438 =>
some (.next (v2050.1, v2438, v2426)))
@[reducible] def pairs_Signed_s89 (v27 : (List (List Int))) (v : Int × (Int × Int × (List (List Int)))) : Fr × LL := ([(5, .one (.slc 29)), (8, aI v.2.1), (9, aI v.2.2.1), (32, aI (List.length v27 : Int)), (33, aI v.1)], [(29, .rows 0 (.slice tI) v.2.2.2 [])])
@[reducible] def pairs_Signed_s90 (v : (Int × Int)) : Fr × LL := ([(2, aI v.1), (3, aI v.2)], [])
@[reducible] def pairs_Signed_s91 (v : (Int × Int)) : Fr × LL := ([(8, aI v.1), (9, aI v.2)], [])
def pairs_Signed (fuel : Nat) (a0 : (List (List Int))) : Option (Int × Int) :=
(pairs_wrong a0).bind fun r1 =>
bif r1 != (0 : Int) then
(some ((0 : Int), r1))
else
((forL pairs_Signed_b1 (fun x18 => x18) a0 0 []).bind fun v27 =>
(forI (0 : Int) (List.length v27 : Int) (pairs_Signed_b88 fuel) (fun x1619 => (.brk (x1619.1, x1619.2.1))) ((1 : Int), (1 : Int), v27)).bind fun v2441 =>
match v2441 with
| .ret v2445 =>
(some (v2445.1, v2445.2))
| .brk v2446 =>
(some (w64 (v2446.1 * v2446.2), (0 : Int))))
theorem pairs_Signed_ok {fuel : Nat} {a0 : (List (List Int))} {r : (Int × Int)} (h : pairs_Signed fuel a0 = some r) : FnC Try.prog 33 [aD (.slice (.slice tI)) a0] [] (.tup [.dat tI r.1, .dat tI r.2]) [] := by
  refine fnC_of_W (B := bodyOf Try.f33) (n := 131) Try.func33 (by kernel_rfl) (by kernel_rfl) (by kernel_rfl) (by kernel_rfl) (by kernel_rfl) ?_
  intro K
  refine W_seq (by kernel_rfl) ?_
  refine W_run 2 [] [0] [] (fr' := [(0, aD (.slice (.slice tI)) a0)]) (L' := []) (obs := []) (by kernel_rfl) (by kernel_rfl) (by kernel_rfl) allP0 ?_
  refine seqQ_norm ?_
  refine W_seq (by kernel_rfl) ?_
  refine W_seq (by kernel_rfl) ?_
  refine W_region (by kernel_rfl) ?_
  refine WO_run (j := 1) (k := 1) (orcs := []) (kF := [0, 14]) (kL := []) (fr' := [(0, aD (.slice (.slice tI)) a0), (14, aD (.slice (.slice tI)) a0)]) (L' := []) (obs := []) rfl (by kernel_rfl) allP0 ?_
  obtain ⟨r1, h2, h⟩ := bind_of h
  refine WO_call0 (us := [none]) (d := 15) (p := True) (j := 2) rfl ⟨by kernel_rfl, by kernel_rfl, by kernel_rfl⟩ trivial (pairs_wrong_ok h2) (by kernel_rfl) ?_
  refine WO_run (j := 3) (k := 1) (orcs := []) (kF := [0, 4]) (kL := []) (fr' := [(0, aD (.slice (.slice tI)) a0), (4, aI r1)]) (L' := []) (obs := []) rfl (by kernel_rfl) allP0 ?_
  refine WO_fin [0, 4] [] (fr' := [(0, aD (.slice (.slice tI)) a0), (4, aI r1)]) (L' := []) (by kernel_rfl) (by kernel_rfl) ?_
  refine seqQ_norm ?_
  refine W_seq (by kernel_rfl) ?_
  refine W_run 2 [] [0, 4, 17] [] (fr' := [(0, aD (.slice (.slice tI)) a0), (4, aI r1), (17, aB (r1 != (0 : Int)))]) (L' := []) (obs := []) (by kernel_rfl) (by kernel_rfl) (by kernel_rfl) allP0 ?_
  refine seqQ_norm ?_
  refine W_cond (o := .tmp 17) (b := r1 != (0 : Int)) (by kernel_rfl) (by kernel_rfl) (fun h3 => ?_) (fun h3 => ?_)
  · replace h := ofT h3 h
    refine W_seq (by kernel_rfl) ?_
    refine W_run 3 [] [2, 3] [] (fr' := [(2, aI (0 : Int)), (3, aI r1)]) (L' := []) (obs := []) (by kernel_rfl) (by kernel_rfl) (by kernel_rfl) allP0 ?_
    refine seqQ_norm ?_
    obtain rfl := Option.some.inj h
    refine W_ret [2, 3] [] (fr' := [(2, aI (0 : Int)), (3, aI r1)]) (L' := []) (by kernel_rfl) (by kernel_rfl) ?_
    refine seqQ_ret ?_
    exact retQ_mk (by kernel_rfl) (by kernel_rfl) (by kernel_rfl)
  · replace h := ofF h3 h
    refine W_skip [0] [] (fr' := [(0, aD (.slice (.slice tI)) a0)]) (L' := []) (by kernel_rfl) (by kernel_rfl) ?_
    refine seqQ_norm ?_
    refine W_seq (by kernel_rfl) ?_
    refine W_run 1 [] [0, 5] [] (fr' := [(0, aD (.slice (.slice tI)) a0), (5, .one (.nilS))]) (L' := []) (obs := []) (by kernel_rfl) (by kernel_rfl) (by kernel_rfl) allP0 ?_
    refine seqQ_norm ?_
    refine W_seq (by kernel_rfl) ?_
    refine W_seq (by kernel_rfl) ?_
    refine W_run 3 [] [5, 19, 20, 21] [] (fr' := [(5, .one (.nilS)), (19, aD (.slice (.slice tI)) a0), (20, aI (List.length a0 : Int)), (21, aI (0 : Int))]) (L' := []) (obs := []) (by kernel_rfl) (by kernel_rfl) (by kernel_rfl) allP0 ?_
    refine seqQ_norm ?_
    refine W_block (id := 0) (by kernel_rfl) ?_
    obtain ⟨v27, h28, h⟩ := bind_of h
    refine W_len (t := 19) (u := (.slice tI)) (xs := a0) (by kernel_rfl) (fun h31 => ?_)
    obtain ⟨h29, h30⟩ := forL_iter h31 h28
    refine W_mineR 5 29 0 (.slice tI) (by kernel_rfl) ?_
    refine W_weaken [5, 19, 20, 21] [29] (fr' := ((pairs_Signed_s2 a0) ((0 : Int), [])).1) (L' := ((pairs_Signed_s2 a0) ((0 : Int), [])).2) (by kernel_rfl) ?_
    refine W_cutK (W_loop (S := (pairs_Signed_s2 a0)) (J := (exQ (.exit 0) pairs_Signed_s3)) (by kernel_rfl) ?_ h29 _ v27 h30) ?_
    · rintro ⟨i17, x18⟩ s h
      refine W_seq (by kernel_rfl) ?_
      refine W_run 1 [] [5, 19, 20, 21, 22] [29] (fr' := [(5, .one (.slc 29)), (19, aD (.slice (.slice tI)) a0), (20, aI (List.length a0 : Int)), (21, aI i17), (22, aB (decide (i17 < (List.length a0 : Int))))]) (L' := [(29, .rows 0 (.slice tI) x18 [])]) (obs := []) (by kernel_rfl) (by kernel_rfl) (by kernel_rfl) allP0 ?_
      refine seqQ_norm ?_
      refine W_seq (by kernel_rfl) ?_
      refine W_cond (o := .tmp 22) (b := decide (i17 < (List.length a0 : Int))) (by kernel_rfl) (by kernel_rfl) (fun h22 => ?_) (fun h22 => ?_)
      · replace h := stepL_true h22 h
        obtain ⟨v20, _, h21, h, rfl⟩ := h
        refine W_skip [5, 19, 20, 21] [29] (fr' := [(5, .one (.slc 29)), (19, aD (.slice (.slice tI)) a0), (20, aI (List.length a0 : Int)), (21, aI i17)]) (L' := [(29, .rows 0 (.slice tI) x18 [])]) (by kernel_rfl) (by kernel_rfl) ?_
        refine seqQ_norm ?_
        refine W_seq (by kernel_rfl) ?_
        refine W_block (id := 1) (by kernel_rfl) ?_
        refine W_seq (by kernel_rfl) ?_
        refine W_run 3 [(1, .val (.dat (.slice tI) v20))] [5, 7, 19, 20, 21] [29] (fr' := [(5, .one (.slc 29)), (7, aD (.slice tI) v20), (19, aD (.slice (.slice tI)) a0), (20, aI (List.length a0 : Int)), (21, aI i17)]) (L' := [(29, .rows 0 (.slice tI) x18 [])]) (obs := [Idx a0 i17 v20]) (by kernel_rfl) (by kernel_rfl) (by kernel_rfl) (allP1 (Idx.of h21)) ?_
        refine seqQ_norm ?_
        refine W_region (by kernel_rfl) ?_
        refine WO_run (j := 2) (k := 2) (orcs := []) (kF := [5, 19, 20, 21, 25, 26]) (kL := [29]) (fr' := [(5, .one (.slc 29)), (19, aD (.slice (.slice tI)) a0), (20, aI (List.length a0 : Int)), (21, aI i17), (25, .one (.slc 29)), (26, aD (.slice tI) v20)]) (L' := [(29, .rows 0 (.slice tI) x18 [])]) (obs := []) rfl (by kernel_rfl) allP0 ?_
        obtain ⟨r23, h24, h⟩ := bind_of h
        refine WO_call1 (us := [none]) (d := 27) (t := 27) (p := True) (j := 3) rfl ⟨by kernel_rfl, by kernel_rfl, by kernel_rfl⟩ trivial (slices_Clone_Lintint_ok h24) (by kernel_rfl) ?_
        obtain ⟨_, h25, h⟩ := bind_of h
        replace h25 := ck_some h25
        refine WO_run (j := 6) (k := 3) (orcs := []) (kF := [5, 19, 20, 21]) (kL := [27, 29]) (fr' := [(5, .one (.slc 29)), (19, aD (.slice (.slice tI)) a0), (20, aI (List.length a0 : Int)), (21, aI i17)]) (L' := [(27, .seq tI r23), (29, .rows 0 (.slice tI) ((x18 : (List (List Int))) ++ [([] : List Int)]) [((List.length x18 : Int), true, .slc 27)])]) (obs := [SmallLen (List.length x18 + 1)]) rfl (by kernel_rfl) (allP1 h25) ?_
        refine WO_give 29 (List.length x18 : Int) [true] (p := InR (List.length x18 : Int) (List.length ((x18 : (List (List Int))) ++ [([] : List Int)])) ∧ (List.length x18 : Int) = (List.length x18 : Int)) (by kernel_rfl) ⟨(InR.last x18 [([] : List Int)] (Nat.succ_pos _)), rfl⟩ ?_
        refine WO_fin [5, 19, 20, 21] [29] (fr' := [(5, .one (.slc 29)), (19, aD (.slice (.slice tI)) a0), (20, aI (List.length a0 : Int)), (21, aI i17)]) (L' := [(29, .rows 0 (.slice tI) (List.set ((x18 : (List (List Int))) ++ [([] : List Int)]) (Int.toNat (List.length x18 : Int)) r23) [])]) (by kernel_rfl) (by kernel_rfl) ?_
        refine blockQ_norm ?_
        refine seqQ_norm ?_
        obtain rfl := Option.some.inj h
        refine W_run 2 [] [5, 19, 20, 21] [29] (fr' := [(5, .one (.slc 29)), (19, aD (.slice (.slice tI)) a0), (20, aI (List.length a0 : Int)), (21, aI (w64 (i17 + (1 : Int))))]) (L' := [(29, .rows 0 (.slice tI) (List.set ((x18 : (List (List Int))) ++ [([] : List Int)]) (Int.toNat (List.length x18 : Int)) r23) [])]) (obs := []) (by kernel_rfl) (by kernel_rfl) (by kernel_rfl) allP0 ?_
        exact round_next' (by kernel_rfl) (by kernel_rfl)
      · obtain rfl := stepL_false h22 h
        refine W_exit (id := 0) [5] [29] (fr' := [(5, .one (.slc 29))]) (L' := [(29, .rows 0 (.slice tI) x18 [])]) (by kernel_rfl) (by kernel_rfl) ?_
        refine seqQ_exit ?_
        refine round_exit ?_
        exact exQ_mk (by kernel_rfl) (by kernel_rfl)
    · intro e fr L hJ
      obtain ⟨rfl, rfl, rfl⟩ := hJ
      refine LT_keep [5] [29] (fr' := [(5, .one (.slc 29))]) (L' := [(29, .rows 0 (.slice tI) v27 [])]) (by kernel_rfl) ?_
      refine blockQ_hit ?_
      refine seqQ_norm ?_
      refine W_seq (by kernel_rfl) ?_
      refine W_run 2 [] [5, 8, 9] [29] (fr' := [(5, .one (.slc 29)), (8, aI (1 : Int)), (9, aI (1 : Int))]) (L' := [(29, .rows 0 (.slice tI) v27 [])]) (obs := []) (by kernel_rfl) (by kernel_rfl) (by kernel_rfl) allP0 ?_
      refine seqQ_norm ?_
      refine W_seq (by kernel_rfl) ?_
      refine W_seq (by kernel_rfl) ?_
      refine W_run 3 [] [5, 8, 9, 32, 33] [29] (fr' := [(5, .one (.slc 29)), (8, aI (1 : Int)), (9, aI (1 : Int)), (32, aI (List.length v27 : Int)), (33, aI (0 : Int))]) (L' := [(29, .rows 0 (.slice tI) v27 [])]) (obs := []) (by kernel_rfl) (by kernel_rfl) (by kernel_rfl) allP0 ?_
      refine seqQ_norm ?_
      refine W_block (id := 2) (by kernel_rfl) ?_
      obtain ⟨v2441, h2442, h⟩ := bind_of h
      obtain ⟨h2443, h2444⟩ := forI_iter h2442
      refine W_weaken [5, 8, 9, 32, 33] [29] (fr' := ((pairs_Signed_s89 v27) ((0 : Int), ((1 : Int), (1 : Int), v27))).1) (L' := ((pairs_Signed_s89 v27) ((0 : Int), ((1 : Int), (1 : Int), v27))).2) (by kernel_rfl) ?_
      refine W_cutK (W_loop (S := (pairs_Signed_s89 v27)) (J := (escQ (exQ .ret pairs_Signed_s90) (exQ (.exit 2) pairs_Signed_s91))) (by kernel_rfl) ?_ h2443 _ v2441 h2444) ?_
      · rintro ⟨i1618, x1619⟩ s h
        refine W_seq (by kernel_rfl) ?_
        refine W_run 1 [] [5, 8, 9, 32, 33, 34] [29] (fr' := [(5, .one (.slc 29)), (8, aI x1619.1), (9, aI x1619.2.1), (32, aI (List.length v27 : Int)), (33, aI i1618), (34, aB (decide (i1618 < (List.length v27 : Int))))]) (L' := [(29, .rows 0 (.slice tI) x1619.2.2 [])]) (obs := []) (by kernel_rfl) (by kernel_rfl) (by kernel_rfl) allP0 ?_
        refine seqQ_norm ?_
        refine W_seq (by kernel_rfl) ?_
        refine W_cond (o := .tmp 34) (b := decide (i1618 < (List.length v27 : Int))) (by kernel_rfl) (by kernel_rfl) (fun h1621 => ?_) (fun h1621 => ?_)
        · replace h := stepI_true h1621 h
          obtain ⟨_, h, rfl⟩ := h
          refine W_skip [5, 8, 9, 32, 33] [29] (fr' := [(5, .one (.slc 29)), (8, aI x1619.1), (9, aI x1619.2.1), (32, aI (List.length v27 : Int)), (33, aI i1618)]) (L' := [(29, .rows 0 (.slice tI) x1619.2.2 [])]) (by kernel_rfl) (by kernel_rfl) ?_
          refine seqQ_norm ?_
          refine W_seq (by kernel_rfl) ?_
          refine W_block (id := 3) (by kernel_rfl) ?_
          refine W_seq (by kernel_rfl) ?_
          refine W_run 3 [] [5, 8, 9, 10, 32, 33] [29, 10] (fr' := [(5, .one (.slc 29)), (8, aI x1619.1), (9, aI x1619.2.1), (10, .one (.ptr 10 0)), (32, aI (List.length v27 : Int)), (33, aI i1618)]) (L' := [(29, .rows 0 (.slice tI) x1619.2.2 []), (10, .cells [.dat tI i1618])]) (obs := [True]) (by kernel_rfl) (by kernel_rfl) (by kernel_rfl) (allP1 trivial) ?_
          refine seqQ_norm ?_
          refine W_seq (by kernel_rfl) ?_
          obtain ⟨_, h2031, h⟩ := bind_of h
          replace h2031 := ck_some h2031
          refine W_region (by kernel_rfl) ?_
          refine WO_run (j := 4) (k := 4) (orcs := []) (kF := [5, 8, 9, 10, 32, 33, 38, 39]) (kL := [10, 29]) (fr' := [(5, .one (.slc 29)), (8, aI x1619.1), (9, aI x1619.2.1), (10, .one (.ptr 10 0)), (32, aI (List.length v27 : Int)), (33, aI i1618), (38, .one (.sub 29 1 i1618 (List.length x1619.2.2 : Int))), (39, .one (.fn 70 [(10, 0)]))]) (L' := [(10, .cells [.dat tI i1618]), (29, .rows 0 (.slice tI) x1619.2.2 [])]) (obs := [Cuts i1618 (List.length x1619.2.2 : Int) (List.length x1619.2.2)]) rfl (by kernel_rfl) (allP1 h2031) ?_
          obtain ⟨r2032, h2033, h⟩ := bind_of h
          refine WO_lendB [29] [(1000, 10)] [] (us := [none, none]) (d := 40) (p := True) (j := 5) rfl ⟨by kernel_rfl, by kernel_rfl, by kernel_rfl⟩ trivial (slices_IndexFunc_LLintLint_with_pairs_Signed_1_ok h2033) (by kernel_rfl) (by kernel_rfl) ?_
          refine WO_run (j := 6) (k := 1) (orcs := []) (kF := [5, 8, 9, 10, 11, 32, 33]) (kL := [10, 29]) (fr' := [(5, .one (.slc 29)), (8, aI x1619.1), (9, aI x1619.2.1), (10, .one (.ptr 10 0)), (11, aI r2032), (32, aI (List.length v27 : Int)), (33, aI i1618)]) (L' := [(10, .cells [.dat tI i1618]), (29, .rows 0 (.slice tI) x1619.2.2 [])]) (obs := []) rfl (by kernel_rfl) allP0 ?_
          refine WO_fin [5, 8, 9, 10, 11, 32, 33] [29, 10] (fr' := [(5, .one (.slc 29)), (8, aI x1619.1), (9, aI x1619.2.1), (10, .one (.ptr 10 0)), (11, aI r2032), (32, aI (List.length v27 : Int)), (33, aI i1618)]) (L' := [(29, .rows 0 (.slice tI) x1619.2.2 []), (10, .cells [.dat tI i1618])]) (by kernel_rfl) (by kernel_rfl) ?_
          refine seqQ_norm ?_
          refine W_seq (by kernel_rfl) ?_
          refine W_seq (by kernel_rfl) ?_
          refine W_run 2 [] [5, 8, 9, 10, 11, 32, 33, 42] [29, 10] (fr' := [(5, .one (.slc 29)), (8, aI x1619.1), (9, aI x1619.2.1), (10, .one (.ptr 10 0)), (11, aI r2032), (32, aI (List.length v27 : Int)), (33, aI i1618), (42, aB (decide (r2032 < (0 : Int))))]) (L' := [(29, .rows 0 (.slice tI) x1619.2.2 []), (10, .cells [.dat tI i1618])]) (obs := []) (by kernel_rfl) (by kernel_rfl) (by kernel_rfl) allP0 ?_
          refine seqQ_norm ?_
          refine W_cond (o := .tmp 42) (b := decide (r2032 < (0 : Int))) (by kernel_rfl) (by kernel_rfl) (fun h2034 => ?_) (fun h2034 => ?_)
          · replace h := ofT h2034 h
            refine W_seq (by kernel_rfl) ?_
            refine W_run 2 [] [2, 3] [] (fr' := [(2, aI (0 : Int)), (3, aI (0 : Int))]) (L' := []) (obs := []) (by kernel_rfl) (by kernel_rfl) (by kernel_rfl) allP0 ?_
            refine seqQ_norm ?_
            obtain rfl := Option.some.inj h
            refine W_ret [2, 3] [] (fr' := [(2, aI (0 : Int)), (3, aI (0 : Int))]) (L' := []) (by kernel_rfl) (by kernel_rfl) ?_
            refine seqQ_ret ?_
            refine blockQ_ret ?_
            refine seqQ_ret ?_
            refine round_ret ?_
            refine escQ_ret ?_
            exact exQ_mk (by kernel_rfl) (by kernel_rfl)
          · replace h := ofF h2034 h
            refine W_skip [5, 8, 9, 10, 11, 32, 33] [29, 10] (fr' := [(5, .one (.slc 29)), (8, aI x1619.1), (9, aI x1619.2.1), (10, .one (.ptr 10 0)), (11, aI r2032), (32, aI (List.length v27 : Int)), (33, aI i1618)]) (L' := [(29, .rows 0 (.slice tI) x1619.2.2 []), (10, .cells [.dat tI i1618])]) (by kernel_rfl) (by kernel_rfl) ?_
            refine seqQ_norm ?_
            refine W_seq (by kernel_rfl) ?_
            obtain ⟨v2050, h2051, h⟩ := bind_of h
            refine W_cutK (Q' := (exQ .normal (pairs_Signed_s87 v27 i1618 x1619)) v2050) ?_ ?_
            · replace h := h2051
              refine W_seq (by kernel_rfl) ?_
              refine W_run 2 [] [5, 8, 9, 10, 11, 32, 33, 44] [29, 10] (fr' := [(5, .one (.slc 29)), (8, aI x1619.1), (9, aI x1619.2.1), (10, .one (.ptr 10 0)), (11, aI r2032), (32, aI (List.length v27 : Int)), (33, aI i1618), (44, aB (decide (r2032 > (0 : Int))))]) (L' := [(29, .rows 0 (.slice tI) x1619.2.2 []), (10, .cells [.dat tI i1618])]) (obs := []) (by kernel_rfl) (by kernel_rfl) (by kernel_rfl) allP0 ?_
              refine seqQ_norm ?_
              refine W_cond (o := .tmp 44) (b := decide (r2032 > (0 : Int))) (by kernel_rfl) (by kernel_rfl) (fun h2045 => ?_) (fun h2045 => ?_)
              · replace h := ofT h2045 h
                refine W_seq (by kernel_rfl) ?_
                obtain ⟨v2046, h2047, h⟩ := bind_of h
                obtain ⟨v2048, h2049, h⟩ := bind_of h
                refine W_drawS5 20 [(17, [], [(29, .rows 0 (.slice tI) x1619.2.2 [(i1618, false, .rhd 29 (w64 (i1618 + r2032)))])]), (19, [], [(29, .rows 0 (.slice tI) x1619.2.2 [(w64 (i1618 + r2032), false, .rhd 29 i1618), (i1618, false, .rhd 29 (w64 (i1618 + r2032)))])])] [(17, .one (.any)), (19, .one (.any))] [(23, .val .any), (31, .val .any)] [] [5, 8, 9, 10, 32, 33] [10, 29] (out := [(45, .one (.slc 29)), (46, aI i1618), (47, .one (.slc 29)), (48, aI i1618), (49, aI r2032), (50, aI (w64 (i1618 + r2032))), (51, .one (.slc 29)), (52, aI i1618), (53, aI r2032), (54, aI (w64 (i1618 + r2032))), (55, .one (.eptr 29 1 (w64 (i1618 + r2032)) 0)), (56, .one (.rhd 29 (w64 (i1618 + r2032)))), (57, .one (.slc 29)), (58, aI i1618), (59, .one (.eptr 29 1 i1618 0)), (60, .one (.rhd 29 i1618)), (61, .one (.eptr 29 1 i1618 0)), (1000017, .one (.any)), (62, .one (.eptr 29 1 (w64 (i1618 + r2032)) 0)), (1000019, .one (.any))]) (obs := [InR (w64 (i1618 + r2032)) (List.length x1619.2.2), InR (w64 (i1618 + r2032)) (List.length x1619.2.2), InR i1618 (List.length x1619.2.2), ((.one (.eptr 29 1 i1618 0) : AV) = .one (.eptr 29 1 i1618 0)), InR i1618 (List.length x1619.2.2), InR i1618 (List.length x1619.2.2), InR i1618 (List.length x1619.2.2), InR (w64 (i1618 + r2032)) (List.length x1619.2.2)]) (calls := []) (fr' := [(5, .one (.slc 29)), (8, aI x1619.1), (9, aI x1619.2.1), (10, .one (.ptr 10 0)), (32, aI (List.length v27 : Int)), (33, aI i1618)]) (L' := [(10, .cells [.dat tI i1618]), (29, .rows 0 (.slice tI) x1619.2.2 [(w64 (i1618 + r2032), false, .rhd 29 i1618), (i1618, false, .rhd 29 (w64 (i1618 + r2032)))])]) (by kernel_rfl) (by kernel_rfl) (by kernel_rfl) (by kernel_rfl) (by kernel_rfl) (allP2 (InR.of h2047) (allP2 (InR.of h2047) (allP2 (InR.of h2049) (allP2 rfl (allP2 (InR.of h2049) (allP2 (InR.of h2049) (allP2 (InR.of h2049) (allP1 (InR.of h2047))))))))) allD0 (stDo (none) (s := 29) (o' := .rows 0 (.slice tI) x1619.2.2 [(i1618, false, .rhd 29 (w64 (i1618 + r2032)))]) (p := InR i1618 (List.length x1619.2.2)) (by kernel_rfl) (InR.of h2049) (stDo (none) (s := 29) (o' := .rows 0 (.slice tI) x1619.2.2 [(w64 (i1618 + r2032), false, .rhd 29 i1618), (i1618, false, .rhd 29 (w64 (i1618 + r2032)))]) (p := InR (w64 (i1618 + r2032)) (List.length x1619.2.2)) (by kernel_rfl) (InR.of h2047) stNil)) (by kernel_rfl) ?_
                refine WO_swap 29 i1618 (w64 (i1618 + r2032)) (.dat (.slice tI) v2048) (.dat (.slice tI) v2046) (p := ((w64 (i1618 + r2032)) = (w64 (i1618 + r2032)) ∧ i1618 = i1618 ∧ i1618 = i1618 ∧ (w64 (i1618 + r2032)) = (w64 (i1618 + r2032))) ∧ Idx x1619.2.2 i1618 v2048 ∧ Idx x1619.2.2 (w64 (i1618 + r2032)) v2046) (by kernel_rfl) ⟨⟨rfl, rfl, rfl, rfl⟩, Idx.of h2049, Idx.of h2047⟩ ?_
                refine WO_fin [5, 8, 9, 10, 32, 33] [29, 10] (fr' := [(5, .one (.slc 29)), (8, aI x1619.1), (9, aI x1619.2.1), (10, .one (.ptr 10 0)), (32, aI (List.length v27 : Int)), (33, aI i1618)]) (L' := [(29, .rows 0 (.slice tI) (List.set (List.set x1619.2.2 (Int.toNat i1618) v2046) (Int.toNat (w64 (i1618 + r2032))) v2048) []), (10, .cells [.dat tI i1618])]) (by kernel_rfl) (by kernel_rfl) ?_
                refine ⟨rfl, ?_⟩
                refine seqQ_norm ?_
                obtain rfl := Option.some.inj h
                refine W_run 3 [] [5, 8, 9, 10, 32, 33] [10, 29] (fr' := [(5, .one (.slc 29)), (8, aI (w64 (0 - x1619.1))), (9, aI x1619.2.1), (10, .one (.ptr 10 0)), (32, aI (List.length v27 : Int)), (33, aI i1618)]) (L' := [(10, .cells [.dat tI i1618]), (29, .rows 0 (.slice tI) (List.set (List.set x1619.2.2 (Int.toNat i1618) v2046) (Int.toNat (w64 (i1618 + r2032))) v2048) [])]) (obs := []) (by kernel_rfl) (by kernel_rfl) (by kernel_rfl) allP0 ?_
                exact exQ_mk (by kernel_rfl) (by kernel_rfl)
              · replace h := ofF h2045 h
                obtain rfl := Option.some.inj h
                refine W_skip [5, 8, 9, 10, 32, 33] [10, 29] (fr' := [(5, .one (.slc 29)), (8, aI x1619.1), (9, aI x1619.2.1), (10, .one (.ptr 10 0)), (32, aI (List.length v27 : Int)), (33, aI i1618)]) (L' := [(10, .cells [.dat tI i1618]), (29, .rows 0 (.slice tI) x1619.2.2 [])]) (by kernel_rfl) (by kernel_rfl) ?_
                exact exQ_mk (by kernel_rfl) (by kernel_rfl)
            · intro e fr L hJ
              obtain ⟨rfl, rfl, rfl⟩ := hJ
              refine LT_keep [5, 8, 9, 10, 32, 33] [29, 10] (fr' := [(5, .one (.slc 29)), (8, aI v2050.1), (9, aI x1619.2.1), (10, .one (.ptr 10 0)), (32, aI (List.length v27 : Int)), (33, aI i1618)]) (L' := [(29, .rows 0 (.slice tI) v2050.2 []), (10, .cells [.dat tI i1618])]) (by kernel_rfl) ?_
              refine seqQ_norm ?_
              refine W_seq (by kernel_rfl) ?_
              refine W_seq (by kernel_rfl) ?_
              refine W_run 3 [] [5, 8, 9, 10, 12, 32, 33] [29, 10] (fr' := [(5, .one (.slc 29)), (8, aI v2050.1), (9, aI x1619.2.1), (10, .one (.ptr 10 0)), (12, aI (w64 (i1618 + (1 : Int)))), (32, aI (List.length v27 : Int)), (33, aI i1618)]) (L' := [(29, .rows 0 (.slice tI) v2050.2 []), (10, .cells [.dat tI i1618])]) (obs := []) (by kernel_rfl) (by kernel_rfl) (by kernel_rfl) allP0 ?_
              refine seqQ_norm ?_
              refine W_block (id := 4) (by kernel_rfl) ?_
              obtain ⟨v2426, h2427, h⟩ := bind_of h
              refine W_weaken [5, 8, 9, 10, 12, 32, 33] [10, 29] (fr' := ((pairs_Signed_s85 v27 i1618 x1619 v2050) (w64 (i1618 + (1 : Int)), v2050.2)).1) (L' := ((pairs_Signed_s85 v27 i1618 x1619 v2050) (w64 (i1618 + (1 : Int)), v2050.2)).2) (by kernel_rfl) ?_
              refine W_cutK (W_loop (S := (pairs_Signed_s85 v27 i1618 x1619 v2050)) (J := (exQ (.exit 4) (pairs_Signed_s86 v27 i1618 v2050))) (by kernel_rfl) ?_ fuel _ v2426 h2427) ?_
              · rintro x2177 s h
                refine W_seq (by kernel_rfl) ?_
                refine W_seq (by kernel_rfl) ?_
                refine W_run 4 [] [5, 8, 9, 10, 12, 32, 33, 70] [29, 10] (fr' := [(5, .one (.slc 29)), (8, aI v2050.1), (9, aI x1619.2.1), (10, .one (.ptr 10 0)), (12, aI x2177.1), (32, aI (List.length v27 : Int)), (33, aI i1618), (70, aB (decide (x2177.1 < (List.length x2177.2 : Int))))]) (L' := [(29, .rows 0 (.slice tI) x2177.2 []), (10, .cells [.dat tI i1618])]) (obs := []) (by kernel_rfl) (by kernel_rfl) (by kernel_rfl) allP0 ?_
                refine seqQ_norm ?_
                refine W_cond (o := .tmp 70) (b := decide (x2177.1 < (List.length x2177.2 : Int))) (by kernel_rfl) (by kernel_rfl) (fun h2302 => ?_) (fun h2302 => ?_)
                · replace h := ofT h2302 h
                  refine W_skip [5, 8, 9, 10, 12, 32, 33] [29, 10] (fr' := [(5, .one (.slc 29)), (8, aI v2050.1), (9, aI x1619.2.1), (10, .one (.ptr 10 0)), (12, aI x2177.1), (32, aI (List.length v27 : Int)), (33, aI i1618)]) (L' := [(29, .rows 0 (.slice tI) x2177.2 []), (10, .cells [.dat tI i1618])]) (by kernel_rfl) (by kernel_rfl) ?_
                  refine seqQ_norm ?_
                  refine W_seq (by kernel_rfl) ?_
                  refine W_block (id := 5) (by kernel_rfl) ?_
                  refine W_seq (by kernel_rfl) ?_
                  refine W_run 3 [] [5, 8, 9, 10, 12, 13, 32, 33] [29, 10] (fr' := [(5, .one (.slc 29)), (8, aI v2050.1), (9, aI x1619.2.1), (10, .one (.ptr 10 0)), (12, aI x2177.1), (13, aI (w64 (i1618 + (1 : Int)))), (32, aI (List.length v27 : Int)), (33, aI i1618)]) (L' := [(29, .rows 0 (.slice tI) x2177.2 []), (10, .cells [.dat tI i1618])]) (obs := []) (by kernel_rfl) (by kernel_rfl) (by kernel_rfl) allP0 ?_
                  refine seqQ_norm ?_
                  refine W_block (id := 6) (by kernel_rfl) ?_
                  obtain ⟨v2422, h2423, h⟩ := bind_of h
                  refine W_weaken [5, 8, 9, 10, 12, 13, 32, 33] [10, 29] (fr' := ((pairs_Signed_s82 v27 i1618 x1619 v2050 x2177) (w64 (i1618 + (1 : Int)), x2177.2)).1) (L' := ((pairs_Signed_s82 v27 i1618 x1619 v2050 x2177) (w64 (i1618 + (1 : Int)), x2177.2)).2) (by kernel_rfl) ?_
                  refine W_cutK (W_loop (S := (pairs_Signed_s82 v27 i1618 x1619 v2050 x2177)) (J := (exQ (.exit 6) (pairs_Signed_s83 v27 i1618 x1619 v2050 x2177))) (by kernel_rfl) ?_ fuel _ v2422 h2423) ?_
                  · rintro x2343 s h
                    refine W_seq (by kernel_rfl) ?_
                    refine W_seq (by kernel_rfl) ?_
                    refine W_run 4 [] [5, 8, 9, 10, 12, 13, 32, 33, 78] [29, 10] (fr' := [(5, .one (.slc 29)), (8, aI v2050.1), (9, aI x1619.2.1), (10, .one (.ptr 10 0)), (12, aI x2177.1), (13, aI x2343.1), (32, aI (List.length v27 : Int)), (33, aI i1618), (78, aB (decide (x2343.1 < (List.length x2343.2 : Int))))]) (L' := [(29, .rows 0 (.slice tI) x2343.2 []), (10, .cells [.dat tI i1618])]) (obs := []) (by kernel_rfl) (by kernel_rfl) (by kernel_rfl) allP0 ?_
                    refine seqQ_norm ?_
                    refine W_cond (o := .tmp 78) (b := decide (x2343.1 < (List.length x2343.2 : Int))) (by kernel_rfl) (by kernel_rfl) (fun h2383 => ?_) (fun h2383 => ?_)
                    · replace h := ofT h2383 h
                      refine W_skip [5, 8, 9, 10, 12, 13, 32, 33] [29, 10] (fr' := [(5, .one (.slc 29)), (8, aI v2050.1), (9, aI x1619.2.1), (10, .one (.ptr 10 0)), (12, aI x2177.1), (13, aI x2343.1), (32, aI (List.length v27 : Int)), (33, aI i1618)]) (L' := [(29, .rows 0 (.slice tI) x2343.2 []), (10, .cells [.dat tI i1618])]) (by kernel_rfl) (by kernel_rfl) ?_
                      refine seqQ_norm ?_
                      refine W_seq (by kernel_rfl) ?_
                      refine W_block (id := 7) (by kernel_rfl) ?_
                      obtain ⟨v2386, h2387, h⟩ := bind_of h
                      refine W_take 29 900 x2177.1 (.dat (.slice tI) v2386) (p := Idx x2343.2 x2177.1 v2386 ∧ True) (by kernel_rfl) ⟨Idx.of h2387, trivial⟩ ?_
                      obtain ⟨v2392, h2393, h⟩ := bind_of h
                      obtain ⟨_, h2394, h⟩ := bind_of h
                      replace h2394 := ck_some h2394
                      refine W_take 29 901 i1618 (.dat (.slice tI) v2392) (p := Idx x2343.2 i1618 v2392 ∧ x2177.1 ≠ i1618) (by kernel_rfl) ⟨Idx.of h2393, h2394⟩ ?_
                      obtain ⟨v2413, h2414, h⟩ := bind_of h
                      obtain ⟨v2415, h2416, h⟩ := bind_of h
                      obtain ⟨v2417, h2418, h⟩ := bind_of h
                      obtain ⟨v2419, h2420, h⟩ := bind_of h
                      obtain ⟨_, h2421, h⟩ := bind_of h
                      replace h2421 := ck_some h2421
                      refine W_drawT5 38 [] [(7, .val (.slc 900)), (17, .val (.slc 900)), (23, .val (.dat tI v2413)), (31, .val (.slc 901)), (37, .val (.dat tI v2415)), (47, .val (.slc 900)), (53, .val (.dat tI v2417)), (61, .val (.slc 901)), (67, .val (.dat tI v2419))] [] [5, 8, 9, 10, 12, 13, 32, 33, 84, 85, 118] [10, 29, 900, 901] (out := [(81, .one (.slc 29)), (82, aI x2177.1), (83, .one (.eptr 29 1 x2177.1 0)), (84, .one (.slc 900)), (85, aI x2343.1), (86, .one (.slc 29)), (87, aI x2177.1), (88, .one (.eptr 29 1 x2177.1 0)), (89, .one (.slc 900)), (90, aI x2343.1), (91, .one (.eptr 900 1 x2343.1 0)), (92, aI v2413), (93, .one (.slc 29)), (94, aI i1618), (95, .one (.eptr 29 1 i1618 0)), (96, .one (.slc 901)), (97, aI i1618), (98, .one (.eptr 901 1 i1618 0)), (99, aI v2415), (100, aI (w64 (v2413 * v2415))), (101, .one (.slc 29)), (102, aI x2177.1), (103, .one (.eptr 29 1 x2177.1 0)), (104, .one (.slc 900)), (105, aI i1618), (106, .one (.eptr 900 1 i1618 0)), (107, aI v2417), (108, .one (.slc 29)), (109, aI i1618), (110, .one (.eptr 29 1 i1618 0)), (111, .one (.slc 901)), (112, aI x2343.1), (113, .one (.eptr 901 1 x2343.1 0)), (114, aI v2419), (115, aI (w64 (v2417 * v2419))), (116, aI (w64 ((w64 (v2413 * v2415)) - (w64 (v2417 * v2419))))), (117, aI x1619.2.1), (118, aI (w64 (Int.tdiv (w64 ((w64 (v2413 * v2415)) - (w64 (v2417 * v2419)))) x1619.2.1)))]) (obs := [InR x2177.1 (List.length x2343.2), (x2177.1 ≠ i1618 ∧ x2177.1 = x2177.1) ∧ InR x2177.1 (List.length x2343.2), InR x2177.1 (List.length x2343.2), (x2177.1 ≠ i1618 ∧ x2177.1 = x2177.1) ∧ InR x2177.1 (List.length x2343.2), InR x2343.1 (List.length v2386), Idx v2386 x2343.1 v2413, InR i1618 (List.length x2343.2), (i1618 = i1618) ∧ InR i1618 (List.length x2343.2), InR i1618 (List.length v2392), Idx v2392 i1618 v2415, InR x2177.1 (List.length x2343.2), (x2177.1 ≠ i1618 ∧ x2177.1 = x2177.1) ∧ InR x2177.1 (List.length x2343.2), InR i1618 (List.length v2386), Idx v2386 i1618 v2417, InR i1618 (List.length x2343.2), (i1618 = i1618) ∧ InR i1618 (List.length x2343.2), InR x2343.1 (List.length v2392), Idx v2392 x2343.1 v2419, (x1619.2.1 ≠ 0)]) (calls := []) (fr' := [(5, .one (.slc 29)), (8, aI v2050.1), (9, aI x1619.2.1), (10, .one (.ptr 10 0)), (12, aI x2177.1), (13, aI x2343.1), (32, aI (List.length v27 : Int)), (33, aI i1618), (84, .one (.slc 900)), (85, aI x2343.1), (118, aI (w64 (Int.tdiv (w64 ((w64 (v2413 * v2415)) - (w64 (v2417 * v2419)))) x1619.2.1)))]) (L' := [(10, .cells [.dat tI i1618]), (29, .rows 0 (.slice tI) x2343.2 [(i1618, true, .slc 901), (x2177.1, true, .slc 900)]), (900, .seq tI v2386), (901, .seq tI v2392)]) (by kernel_rfl) (by kernel_rfl) (by kernel_rfl) (by kernel_rfl) (allP2 (InR.of h2387) (allP2 ⟨⟨h2394, rfl⟩, (InR.of h2387)⟩ (allP2 (InR.of h2387) (allP2 ⟨⟨h2394, rfl⟩, (InR.of h2387)⟩ (allP2 (InR.of h2414) (allP2 (Idx.of h2414) (allP2 (InR.of h2393) (allP2 ⟨rfl, (InR.of h2393)⟩ (allP2 (InR.of h2416) (allP2 (Idx.of h2416) (allP2 (InR.of h2387) (allP2 ⟨⟨h2394, rfl⟩, (InR.of h2387)⟩ (allP2 (InR.of h2418) (allP2 (Idx.of h2418) (allP2 (InR.of h2393) (allP2 ⟨rfl, (InR.of h2393)⟩ (allP2 (InR.of h2420) (allP2 (Idx.of h2420) (allP1 h2421))))))))))))))))))) allD0 (by kernel_rfl) ?_
                      refine WO_run (j := 40) (k := 2) (orcs := []) (kF := [5, 8, 9, 10, 12, 13, 32, 33]) (kL := [10, 29, 900, 901]) (fr' := [(5, .one (.slc 29)), (8, aI v2050.1), (9, aI x1619.2.1), (10, .one (.ptr 10 0)), (12, aI x2177.1), (13, aI x2343.1), (32, aI (List.length v27 : Int)), (33, aI i1618)]) (L' := [(10, .cells [.dat tI i1618]), (29, .rows 0 (.slice tI) x2343.2 [(i1618, true, .slc 901), (x2177.1, true, .slc 900)]), (900, .seq tI (List.set v2386 (Int.toNat x2343.1) (w64 (Int.tdiv (w64 ((w64 (v2413 * v2415)) - (w64 (v2417 * v2419)))) x1619.2.1)))), (901, .seq tI v2392)]) (obs := [InR x2343.1 (List.length v2386), InR x2343.1 (List.length v2386)]) rfl (by kernel_rfl) (allP2 (InR.of h2414) (allP1 (InR.of h2414))) ?_
                      refine WO_giveS 29 i1618 [true, false] (.dat (.slice tI) v2392) (p := (v2392 = v2392 ∧ Idx x2343.2 i1618 v2392) ∧ i1618 = i1618 ∧ x2177.1 ≠ i1618) (by kernel_rfl) ⟨⟨rfl, Idx.of h2393⟩, ⟨rfl, h2394⟩⟩ ?_
                      refine WO_give 29 x2177.1 [true] (p := InR x2177.1 (List.length x2343.2) ∧ x2177.1 = x2177.1) (by kernel_rfl) ⟨(InR.of h2387), rfl⟩ ?_
                      refine WO_fin [5, 8, 9, 10, 12, 13, 32, 33] [29, 10] (fr' := [(5, .one (.slc 29)), (8, aI v2050.1), (9, aI x1619.2.1), (10, .one (.ptr 10 0)), (12, aI x2177.1), (13, aI x2343.1), (32, aI (List.length v27 : Int)), (33, aI i1618)]) (L' := [(29, .rows 0 (.slice tI) (List.set x2343.2 (Int.toNat x2177.1) (List.set v2386 (Int.toNat x2343.1) (w64 (Int.tdiv (w64 ((w64 (v2413 * v2415)) - (w64 (v2417 * v2419)))) x1619.2.1)))) []), (10, .cells [.dat tI i1618])]) (by kernel_rfl) (by kernel_rfl) ?_
                      refine ⟨rfl, ?_⟩
                      refine blockQ_norm ?_
                      refine seqQ_norm ?_
                      obtain rfl := Option.some.inj h
                      refine W_run 3 [] [5, 8, 9, 10, 12, 13, 32, 33] [10, 29] (fr' := [(5, .one (.slc 29)), (8, aI v2050.1), (9, aI x1619.2.1), (10, .one (.ptr 10 0)), (12, aI x2177.1), (13, aI (w64 (x2343.1 + (1 : Int)))), (32, aI (List.length v27 : Int)), (33, aI i1618)]) (L' := [(10, .cells [.dat tI i1618]), (29, .rows 0 (.slice tI) (List.set x2343.2 (Int.toNat x2177.1) (List.set v2386 (Int.toNat x2343.1) (w64 (Int.tdiv (w64 ((w64 (v2413 * v2415)) - (w64 (v2417 * v2419)))) x1619.2.1)))) [])]) (obs := []) (by kernel_rfl) (by kernel_rfl) (by kernel_rfl) allP0 ?_
                      exact round_next' (by kernel_rfl) (by kernel_rfl)
                    · replace h := ofF h2383 h
                      obtain rfl := Option.some.inj h
                      refine W_exit (id := 6) [5, 8, 9, 10, 12, 32, 33] [10, 29] (fr' := [(5, .one (.slc 29)), (8, aI v2050.1), (9, aI x1619.2.1), (10, .one (.ptr 10 0)), (12, aI x2177.1), (32, aI (List.length v27 : Int)), (33, aI i1618)]) (L' := [(10, .cells [.dat tI i1618]), (29, .rows 0 (.slice tI) x2343.2 [])]) (by kernel_rfl) (by kernel_rfl) ?_
                      refine seqQ_exit ?_
                      refine round_exit ?_
                      exact exQ_mk (by kernel_rfl) (by kernel_rfl)
                  · intro e fr L hJ
                    obtain ⟨rfl, rfl, rfl⟩ := hJ
                    refine LT_keep [5, 8, 9, 10, 12, 32, 33] [29, 10] (fr' := [(5, .one (.slc 29)), (8, aI v2050.1), (9, aI x1619.2.1), (10, .one (.ptr 10 0)), (12, aI x2177.1), (32, aI (List.length v27 : Int)), (33, aI i1618)]) (L' := [(29, .rows 0 (.slice tI) v2422 []), (10, .cells [.dat tI i1618])]) (by kernel_rfl) ?_
                    refine blockQ_hit ?_
                    refine blockQ_norm ?_
                    refine seqQ_norm ?_
                    obtain rfl := Option.some.inj h
                    refine W_run 3 [] [5, 8, 9, 10, 12, 32, 33] [10, 29] (fr' := [(5, .one (.slc 29)), (8, aI v2050.1), (9, aI x1619.2.1), (10, .one (.ptr 10 0)), (12, aI (w64 (x2177.1 + (1 : Int)))), (32, aI (List.length v27 : Int)), (33, aI i1618)]) (L' := [(10, .cells [.dat tI i1618]), (29, .rows 0 (.slice tI) v2422 [])]) (obs := []) (by kernel_rfl) (by kernel_rfl) (by kernel_rfl) allP0 ?_
                    exact round_next' (by kernel_rfl) (by kernel_rfl)
                · replace h := ofF h2302 h
                  obtain rfl := Option.some.inj h
                  refine W_exit (id := 4) [5, 8, 10, 32, 33] [10, 29] (fr' := [(5, .one (.slc 29)), (8, aI v2050.1), (10, .one (.ptr 10 0)), (32, aI (List.length v27 : Int)), (33, aI i1618)]) (L' := [(10, .cells [.dat tI i1618]), (29, .rows 0 (.slice tI) x2177.2 [])]) (by kernel_rfl) (by kernel_rfl) ?_
                  refine seqQ_exit ?_
                  refine round_exit ?_
                  exact exQ_mk (by kernel_rfl) (by kernel_rfl)
              · intro e fr L hJ
                obtain ⟨rfl, rfl, rfl⟩ := hJ
                refine LT_keep [5, 8, 10, 32, 33] [29, 10] (fr' := [(5, .one (.slc 29)), (8, aI v2050.1), (10, .one (.ptr 10 0)), (32, aI (List.length v27 : Int)), (33, aI i1618)]) (L' := [(29, .rows 0 (.slice tI) v2426 []), (10, .cells [.dat tI i1618])]) (by kernel_rfl) ?_
                refine blockQ_hit ?_
                refine seqQ_norm ?_
                obtain ⟨v2432, h2433, h⟩ := bind_of h
                refine W_take 29 900 i1618 (.dat (.slice tI) v2432) (p := Idx v2426 i1618 v2432 ∧ True) (by kernel_rfl) ⟨Idx.of h2433, trivial⟩ ?_
                refine W_drawT5 5 [] [(7, .val (.slc 900))] [] [5, 8, 32, 33, 123, 124] [10, 29, 900] (out := [(120, .one (.slc 29)), (121, aI i1618), (122, .one (.eptr 29 1 i1618 0)), (123, .one (.slc 900)), (124, aI i1618)]) (obs := [InR i1618 (List.length v2426), (i1618 = i1618) ∧ InR i1618 (List.length v2426)]) (calls := []) (fr' := [(5, .one (.slc 29)), (8, aI v2050.1), (32, aI (List.length v27 : Int)), (33, aI i1618), (123, .one (.slc 900)), (124, aI i1618)]) (L' := [(10, .cells [.dat tI i1618]), (29, .rows 0 (.slice tI) v2426 [(i1618, true, .slc 900)]), (900, .seq tI v2432)]) (by kernel_rfl) (by kernel_rfl) (by kernel_rfl) (by kernel_rfl) (allP2 (InR.of h2433) (allP1 ⟨rfl, (InR.of h2433)⟩)) allD0 (by kernel_rfl) ?_
                obtain ⟨v2438, h2439, h⟩ := bind_of h
                refine WO_run (j := 8) (k := 3) (orcs := [(13, .val (.dat tI v2438))]) (kF := [5, 8, 9, 32, 33]) (kL := [10, 29, 900]) (fr' := [(5, .one (.slc 29)), (8, aI v2050.1), (9, aI v2438), (32, aI (List.length v27 : Int)), (33, aI i1618)]) (L' := [(10, .cells [.dat tI i1618]), (29, .rows 0 (.slice tI) v2426 [(i1618, true, .slc 900)]), (900, .seq tI v2432)]) (obs := [InR i1618 (List.length v2432), Idx v2432 i1618 v2438]) rfl (by kernel_rfl) (allP2 (InR.of h2439) (allP1 (Idx.of h2439))) ?_
                refine WO_giveS 29 i1618 [true] (.dat (.slice tI) v2432) (p := (v2432 = v2432 ∧ Idx v2426 i1618 v2432) ∧ i1618 = i1618) (by kernel_rfl) ⟨⟨rfl, Idx.of h2433⟩, rfl⟩ ?_
                refine WO_fin [5, 8, 9, 32, 33] [29] (fr' := [(5, .one (.slc 29)), (8, aI v2050.1), (9, aI v2438), (32, aI (List.length v27 : Int)), (33, aI i1618)]) (L' := [(29, .rows 0 (.slice tI) v2426 [])]) (by kernel_rfl) (by kernel_rfl) ?_
                refine ⟨rfl, ?_⟩
                refine blockQ_norm ?_
                refine seqQ_norm ?_
                obtain rfl := Option.some.inj h
                refine W_run 2 [] [5, 8, 9, 32, 33] [29] (fr' := [(5, .one (.slc 29)), (8, aI v2050.1), (9, aI v2438), (32, aI (List.length v27 : Int)), (33, aI (w64 (i1618 + (1 : Int))))]) (L' := [(29, .rows 0 (.slice tI) v2426 [])]) (obs := []) (by kernel_rfl) (by kernel_rfl) (by kernel_rfl) allP0 ?_
                exact round_next' (by kernel_rfl) (by kernel_rfl)
        · obtain rfl := stepI_false h1621 h
          refine W_exit (id := 2) [8, 9] [] (fr' := [(8, aI x1619.1), (9, aI x1619.2.1)]) (L' := []) (by kernel_rfl) (by kernel_rfl) ?_
          refine seqQ_exit ?_
          refine round_exit ?_
          refine escQ_brk ?_
          exact exQ_mk (by kernel_rfl) (by kernel_rfl)
      · intro e fr L hJ
        rcases v2441 with v2445 | v2446
        · obtain ⟨rfl, rfl, rfl⟩ := hJ
          obtain rfl := Option.some.inj h
          refine LT_keep [2, 3] [] (fr' := [(2, aI v2445.1), (3, aI v2445.2)]) (L' := []) (by kernel_rfl) ?_
          refine blockQ_ret ?_
          refine seqQ_ret ?_
          exact retQ_mk (by kernel_rfl) (by kernel_rfl) (by kernel_rfl)
        · obtain ⟨rfl, rfl, rfl⟩ := hJ
          refine LT_keep [8, 9] [] (fr' := [(8, aI v2446.1), (9, aI v2446.2)]) (L' := []) (by kernel_rfl) ?_
          refine blockQ_hit ?_
          refine seqQ_norm ?_
          refine W_seq (by kernel_rfl) ?_
          refine W_run 5 [] [2, 3] [] (fr' := [(2, aI (w64 (v2446.1 * v2446.2))), (3, aI (0 : Int))]) (L' := []) (obs := []) (by kernel_rfl) (by kernel_rfl) (by kernel_rfl) allP0 ?_
          refine seqQ_norm ?_
          obtain rfl := Option.some.inj h
          refine W_ret [2, 3] [] (fr' := [(2, aI (w64 (v2446.1 * v2446.2))), (3, aI (0 : Int))]) (L' := []) (by kernel_rfl) (by kernel_rfl) ?_
          exact retQ_mk (by kernel_rfl) (by kernel_rfl) (by kernel_rfl)

def pairs_Parity (fuel : Nat) (a0 : (List (List Int))) : Option (Bool × Int) :=
(pairs_Signed fuel a0).bind fun r1 =>
some ((bAnd .i64 r1.1 (1 : Int)) == (1 : Int), r1.2)
theorem pairs_Parity_ok {fuel : Nat} {a0 : (List (List Int))} {r : (Bool × Int)} (h : pairs_Parity fuel a0 = some r) : FnC Try.prog 36 [aD (.slice (.slice tI)) a0] [] (.tup [.dat .bool r.1, .dat tI r.2]) [] := by
  refine fnC_of_W (B := bodyOf Try.f36) (n := 15) Try.func36 (by kernel_rfl) (by kernel_rfl) (by kernel_rfl) (by kernel_rfl) (by kernel_rfl) ?_
  intro K
  refine W_seq (by kernel_rfl) ?_
  refine W_run 2 [] [0] [] (fr' := [(0, aD (.slice (.slice tI)) a0)]) (L' := []) (obs := []) (by kernel_rfl) (by kernel_rfl) (by kernel_rfl) allP0 ?_
  refine seqQ_norm ?_
  refine W_seq (by kernel_rfl) ?_
  refine W_region (by kernel_rfl) ?_
  refine WO_run (j := 1) (k := 1) (orcs := []) (kF := [7]) (kL := []) (fr' := [(7, aD (.slice (.slice tI)) a0)]) (L' := []) (obs := []) rfl (by kernel_rfl) allP0 ?_
  obtain ⟨r1, h2, h⟩ := bind_of h
  refine WO_call0 (us := [none]) (d := 8) (p := True) (j := 2) rfl ⟨by kernel_rfl, by kernel_rfl, by kernel_rfl⟩ trivial (pairs_Signed_ok h2) (by kernel_rfl) ?_
  refine WO_run (j := 7) (k := 5) (orcs := []) (kF := [4, 5]) (kL := []) (fr' := [(4, aI r1.1), (5, aI r1.2)]) (L' := []) (obs := []) rfl (by kernel_rfl) allP0 ?_
  refine WO_fin [4, 5] [] (fr' := [(4, aI r1.1), (5, aI r1.2)]) (L' := []) (by kernel_rfl) (by kernel_rfl) ?_
  refine seqQ_norm ?_
  refine W_seq (by kernel_rfl) ?_
  refine W_run 6 [] [2, 3] [] (fr' := [(2, aB ((bAnd .i64 r1.1 (1 : Int)) == (1 : Int))), (3, aI r1.2)]) (L' := []) (obs := []) (by kernel_rfl) (by kernel_rfl) (by kernel_rfl) allP0 ?_
  refine seqQ_norm ?_
  obtain rfl := Option.some.inj h
  refine W_ret [2, 3] [] (fr' := [(2, aB ((bAnd .i64 r1.1 (1 : Int)) == (1 : Int))), (3, aI r1.2)]) (L' := []) (by kernel_rfl) (by kernel_rfl) ?_
  exact retQ_mk (by kernel_rfl) (by kernel_rfl) (by kernel_rfl)

def ref_Within (a0 : Int) (a1 : Int) (a2 : Int) : Option Bool :=
some ((decide (a0 ≤ a1)) && (decide (a1 ≤ a2)))
theorem ref_Within_ok {a0 : Int} {a1 : Int} {a2 : Int} {r : Bool} (h : ref_Within a0 a1 a2 = some r) : FnC Try.prog 16 [aI a0, aI a1, aI a2] [] (aB r) [] := by
  refine fnC_of_W (B := bodyOf Try.f16) (n := 15) Try.func16 (by kernel_rfl) (by kernel_rfl) (by kernel_rfl) (by kernel_rfl) (by kernel_rfl) ?_
  intro K
  refine W_seq (by kernel_rfl) ?_
  refine W_run 1 [] [0, 1, 2] [] (fr' := [(0, aI a0), (1, aI a1), (2, aI a2)]) (L' := []) (obs := []) (by kernel_rfl) (by kernel_rfl) (by kernel_rfl) allP0 ?_
  refine seqQ_norm ?_
  refine W_seq (by kernel_rfl) ?_
  refine W_run 9 [] [6] [] (fr' := [(6, aB ((decide (a0 ≤ a1)) && (decide (a1 ≤ a2))))]) (L' := []) (obs := []) (by kernel_rfl) (by kernel_rfl) (by kernel_rfl) allP0 ?_
  refine seqQ_norm ?_
  obtain rfl := Option.some.inj h
  refine W_ret [6] [] (fr' := [(6, aB ((decide (a0 ≤ a1)) && (decide (a1 ≤ a2))))]) (L' := []) (by kernel_rfl) (by kernel_rfl) ?_
  exact retQ_mk (by kernel_rfl) (by kernel_rfl) (by kernel_rfl)

def ref_SquareCheck_b1 (a0 : (List (List Int))) (i14 : Int) (v17 : (List Int)) (x15 : Unit) : Option (Flow Unit (Esc Int Unit)) :=
bif (List.length v17 : Int) != (List.length a0 : Int) then
(some (.done (.ret (3 : Int))))
else
(some (.next ()))
@[reducible] def ref_SquareCheck_s2 (a0 : (List (List Int))) (v : Int × Unit) : Fr × LL := ([(0, aD (.slice (.slice tI)) a0), (13, aD (.slice (.slice tI)) a0), (14, aI (List.length a0 : Int)), (15, aI v.1)], [])
@[reducible] def ref_SquareCheck_s3 (v : Int) : Fr × LL := ([(2, aI v)], [])
@[reducible] def ref_SquareCheck_s4 (a0 : (List (List Int))) (v : Unit) : Fr × LL := ([(0, aD (.slice (.slice tI)) a0)], [])
def ref_SquareCheck_b11 (i119 : Int) (v122 : Int) (x120 : Unit) : Option (Flow Unit (Esc Int Unit)) :=
(ref_Within (-20 : Int) v122 (20 : Int)).bind fun r125 =>
bif !r125 then
(some (.done (.ret (4 : Int))))
else
(some (.next ()))
@[reducible] def ref_SquareCheck_s12 (a0 : (List (List Int))) (i99 : Int) (v102 : (List Int)) (v : Int × Unit) : Fr × LL := ([(25, aD (.slice (.slice tI)) a0), (26, aI (List.length a0 : Int)), (27, aI i99), (31, aD (.slice tI) v102), (32, aI (List.length v102 : Int)), (33, aI v.1)], [])
@[reducible] def ref_SquareCheck_s13 (v : Int) : Fr × LL := ([(2, aI v)], [])
@[reducible] def ref_SquareCheck_s14 (a0 : (List (List Int))) (i99 : Int) (v : Unit) : Fr × LL := ([(25, aD (.slice (.slice tI)) a0), (26, aI (List.length a0 : Int)), (27, aI i99)], [])
def ref_SquareCheck_b15 (i99 : Int) (v102 : (List Int)) (x100 : Unit) : Option (Flow Unit (Esc Int Unit)) :=
(forL ref_SquareCheck_b11 (fun x120 => (.brk ())) v102 0 ()).bind fun v129 =>
match v129 with
| .ret v134 =>
(some (.done (.ret v134)))
| .brk v135 =>
(some (.next ()))
@[reducible] def ref_SquareCheck_s16 (a0 : (List (List Int))) (v : Int × Unit) : Fr × LL := ([(25, aD (.slice (.slice tI)) a0), (26, aI (List.length a0 : Int)), (27, aI v.1)], [])
@[reducible] def ref_SquareCheck_s17 (v : Int) : Fr × LL := ([(2, aI v)], [])
@[reducible] def ref_SquareCheck_s18 (v : Unit) : Fr × LL := ([], [])
def ref_SquareCheck (a0 : (List (List Int))) : Option Int :=
(ref_Within (1 : Int) (List.length a0 : Int) (6 : Int)).bind fun r1 =>
bif !r1 then
(some (1 : Int))
else
((forL (ref_SquareCheck_b1 a0) (fun x15 => (.brk ())) a0 0 ()).bind fun v22 =>
match v22 with
| .ret v27 =>
(some v27)
| .brk v28 =>
((forL ref_SquareCheck_b15 (fun x100 => (.brk ())) a0 0 ()).bind fun v137 =>
match v137 with
| .ret v142 =>
(some v142)
| .brk v143 =>
(some (0 : Int))))
theorem ref_SquareCheck_ok {a0 : (List (List Int))} {r : Int} (h : ref_SquareCheck a0 = some r) : FnC Try.prog 34 [aD (.slice (.slice tI)) a0] [] (aI r) [] := by
  refine fnC_of_W (B := bodyOf Try.f34) (n := 42) Try.func34 (by kernel_rfl) (by kernel_rfl) (by kernel_rfl) (by kernel_rfl) (by kernel_rfl) ?_
  intro K
  refine W_seq (by kernel_rfl) ?_
  refine W_run 1 [] [0] [] (fr' := [(0, aD (.slice (.slice tI)) a0)]) (L' := []) (obs := []) (by kernel_rfl) (by kernel_rfl) (by kernel_rfl) allP0 ?_
  refine seqQ_norm ?_
  refine W_seq (by kernel_rfl) ?_
  refine W_seq (by kernel_rfl) ?_
  refine W_region (by kernel_rfl) ?_
  refine WO_run (j := 2) (k := 2) (orcs := []) (kF := [0, 10]) (kL := []) (fr' := [(0, aD (.slice (.slice tI)) a0), (10, aI (List.length a0 : Int))]) (L' := []) (obs := []) rfl (by kernel_rfl) allP0 ?_
  obtain ⟨r1, h2, h⟩ := bind_of h
  refine WO_call0 (us := [none, none, none]) (d := 11) (p := True) (j := 3) rfl ⟨by kernel_rfl, by kernel_rfl, by kernel_rfl⟩ trivial (ref_Within_ok h2) (by kernel_rfl) ?_
  refine WO_run (j := 4) (k := 1) (orcs := []) (kF := [0, 12]) (kL := []) (fr' := [(0, aD (.slice (.slice tI)) a0), (12, aB (!r1))]) (L' := []) (obs := []) rfl (by kernel_rfl) allP0 ?_
  refine WO_fin [0, 12] [] (fr' := [(0, aD (.slice (.slice tI)) a0), (12, aB (!r1))]) (L' := []) (by kernel_rfl) (by kernel_rfl) ?_
  refine seqQ_norm ?_
  refine W_cond (o := .tmp 12) (b := !r1) (by kernel_rfl) (by kernel_rfl) (fun h3 => ?_) (fun h3 => ?_)
  · replace h := ofT h3 h
    refine W_seq (by kernel_rfl) ?_
    refine W_run 1 [] [2] [] (fr' := [(2, aI (1 : Int))]) (L' := []) (obs := []) (by kernel_rfl) (by kernel_rfl) (by kernel_rfl) allP0 ?_
    refine seqQ_norm ?_
    obtain rfl := Option.some.inj h
    refine W_ret [2] [] (fr' := [(2, aI (1 : Int))]) (L' := []) (by kernel_rfl) (by kernel_rfl) ?_
    refine seqQ_ret ?_
    exact retQ_mk (by kernel_rfl) (by kernel_rfl) (by kernel_rfl)
  · replace h := ofF h3 h
    refine W_skip [0] [] (fr' := [(0, aD (.slice (.slice tI)) a0)]) (L' := []) (by kernel_rfl) (by kernel_rfl) ?_
    refine seqQ_norm ?_
    refine W_seq (by kernel_rfl) ?_
    refine W_seq (by kernel_rfl) ?_
    refine W_run 3 [] [0, 13, 14, 15] [] (fr' := [(0, aD (.slice (.slice tI)) a0), (13, aD (.slice (.slice tI)) a0), (14, aI (List.length a0 : Int)), (15, aI (0 : Int))]) (L' := []) (obs := []) (by kernel_rfl) (by kernel_rfl) (by kernel_rfl) allP0 ?_
    refine seqQ_norm ?_
    refine W_block (id := 0) (by kernel_rfl) ?_
    obtain ⟨v22, h23, h⟩ := bind_of h
    refine W_len (t := 13) (u := (.slice tI)) (xs := a0) (by kernel_rfl) (fun h26 => ?_)
    obtain ⟨h24, h25⟩ := forL_iter h26 h23
    refine W_weaken [0, 13, 14, 15] [] (fr' := ((ref_SquareCheck_s2 a0) ((0 : Int), ())).1) (L' := ((ref_SquareCheck_s2 a0) ((0 : Int), ())).2) (by kernel_rfl) ?_
    refine W_cutK (W_loop (S := (ref_SquareCheck_s2 a0)) (J := (escQ (exQ .ret ref_SquareCheck_s3) (exQ (.exit 0) (ref_SquareCheck_s4 a0)))) (by kernel_rfl) ?_ h24 _ v22 h25) ?_
    · rintro ⟨i14, x15⟩ s h
      refine W_seq (by kernel_rfl) ?_
      refine W_run 1 [] [0, 13, 14, 15, 16] [] (fr' := [(0, aD (.slice (.slice tI)) a0), (13, aD (.slice (.slice tI)) a0), (14, aI (List.length a0 : Int)), (15, aI i14), (16, aB (decide (i14 < (List.length a0 : Int))))]) (L' := []) (obs := []) (by kernel_rfl) (by kernel_rfl) (by kernel_rfl) allP0 ?_
      refine seqQ_norm ?_
      refine W_seq (by kernel_rfl) ?_
      refine W_cond (o := .tmp 16) (b := decide (i14 < (List.length a0 : Int))) (by kernel_rfl) (by kernel_rfl) (fun h19 => ?_) (fun h19 => ?_)
      · replace h := stepL_true h19 h
        obtain ⟨v17, _, h18, h, rfl⟩ := h
        refine W_skip [0, 13, 14, 15] [] (fr' := [(0, aD (.slice (.slice tI)) a0), (13, aD (.slice (.slice tI)) a0), (14, aI (List.length a0 : Int)), (15, aI i14)]) (L' := []) (by kernel_rfl) (by kernel_rfl) ?_
        refine seqQ_norm ?_
        refine W_seq (by kernel_rfl) ?_
        refine W_block (id := 1) (by kernel_rfl) ?_
        refine W_seq (by kernel_rfl) ?_
        refine W_run 3 [(1, .val (.dat (.slice tI) v17))] [0, 4, 13, 14, 15] [] (fr' := [(0, aD (.slice (.slice tI)) a0), (4, aD (.slice tI) v17), (13, aD (.slice (.slice tI)) a0), (14, aI (List.length a0 : Int)), (15, aI i14)]) (L' := []) (obs := [Idx a0 i14 v17]) (by kernel_rfl) (by kernel_rfl) (by kernel_rfl) (allP1 (Idx.of h18)) ?_
        refine seqQ_norm ?_
        refine W_seq (by kernel_rfl) ?_
        refine W_run 5 [] [0, 13, 14, 15, 23] [] (fr' := [(0, aD (.slice (.slice tI)) a0), (13, aD (.slice (.slice tI)) a0), (14, aI (List.length a0 : Int)), (15, aI i14), (23, aB ((List.length v17 : Int) != (List.length a0 : Int)))]) (L' := []) (obs := []) (by kernel_rfl) (by kernel_rfl) (by kernel_rfl) allP0 ?_
        refine seqQ_norm ?_
        refine W_cond (o := .tmp 23) (b := (List.length v17 : Int) != (List.length a0 : Int)) (by kernel_rfl) (by kernel_rfl) (fun h20 => ?_) (fun h20 => ?_)
        · replace h := ofT h20 h
          refine W_seq (by kernel_rfl) ?_
          refine W_run 1 [] [2] [] (fr' := [(2, aI (3 : Int))]) (L' := []) (obs := []) (by kernel_rfl) (by kernel_rfl) (by kernel_rfl) allP0 ?_
          refine seqQ_norm ?_
          obtain rfl := Option.some.inj h
          refine W_ret [2] [] (fr' := [(2, aI (3 : Int))]) (L' := []) (by kernel_rfl) (by kernel_rfl) ?_
          refine blockQ_ret ?_
          refine seqQ_ret ?_
          refine round_ret ?_
          refine escQ_ret ?_
          exact exQ_mk (by kernel_rfl) (by kernel_rfl)
        · replace h := ofF h20 h
          refine W_skip [0, 13, 14, 15] [] (fr' := [(0, aD (.slice (.slice tI)) a0), (13, aD (.slice (.slice tI)) a0), (14, aI (List.length a0 : Int)), (15, aI i14)]) (L' := []) (by kernel_rfl) (by kernel_rfl) ?_
          refine blockQ_norm ?_
          refine seqQ_norm ?_
          obtain rfl := Option.some.inj h
          refine W_run 2 [] [0, 13, 14, 15] [] (fr' := [(0, aD (.slice (.slice tI)) a0), (13, aD (.slice (.slice tI)) a0), (14, aI (List.length a0 : Int)), (15, aI (w64 (i14 + (1 : Int))))]) (L' := []) (obs := []) (by kernel_rfl) (by kernel_rfl) (by kernel_rfl) allP0 ?_
          exact round_next' (by kernel_rfl) (by kernel_rfl)
      · obtain rfl := stepL_false h19 h
        refine W_exit (id := 0) [0] [] (fr' := [(0, aD (.slice (.slice tI)) a0)]) (L' := []) (by kernel_rfl) (by kernel_rfl) ?_
        refine seqQ_exit ?_
        refine round_exit ?_
        refine escQ_brk ?_
        exact exQ_mk (by kernel_rfl) (by kernel_rfl)
    · intro e fr L hJ
      rcases v22 with v27 | v28
      · obtain ⟨rfl, rfl, rfl⟩ := hJ
        obtain rfl := Option.some.inj h
        refine LT_keep [2] [] (fr' := [(2, aI v27)]) (L' := []) (by kernel_rfl) ?_
        refine blockQ_ret ?_
        refine seqQ_ret ?_
        exact retQ_mk (by kernel_rfl) (by kernel_rfl) (by kernel_rfl)
      · obtain ⟨rfl, rfl, rfl⟩ := hJ
        refine LT_keep [0] [] (fr' := [(0, aD (.slice (.slice tI)) a0)]) (L' := []) (by kernel_rfl) ?_
        refine blockQ_hit ?_
        refine seqQ_norm ?_
        refine W_seq (by kernel_rfl) ?_
        refine W_seq (by kernel_rfl) ?_
        refine W_run 3 [] [25, 26, 27] [] (fr' := [(25, aD (.slice (.slice tI)) a0), (26, aI (List.length a0 : Int)), (27, aI (0 : Int))]) (L' := []) (obs := []) (by kernel_rfl) (by kernel_rfl) (by kernel_rfl) allP0 ?_
        refine seqQ_norm ?_
        refine W_block (id := 2) (by kernel_rfl) ?_
        obtain ⟨v137, h138, h⟩ := bind_of h
        refine W_len (t := 25) (u := (.slice tI)) (xs := a0) (by kernel_rfl) (fun h141 => ?_)
        obtain ⟨h139, h140⟩ := forL_iter h141 h138
        refine W_weaken [25, 26, 27] [] (fr' := ((ref_SquareCheck_s16 a0) ((0 : Int), ())).1) (L' := ((ref_SquareCheck_s16 a0) ((0 : Int), ())).2) (by kernel_rfl) ?_
        refine W_cutK (W_loop (S := (ref_SquareCheck_s16 a0)) (J := (escQ (exQ .ret ref_SquareCheck_s17) (exQ (.exit 2) ref_SquareCheck_s18))) (by kernel_rfl) ?_ h139 _ v137 h140) ?_
        · rintro ⟨i99, x100⟩ s h
          refine W_seq (by kernel_rfl) ?_
          refine W_run 1 [] [25, 26, 27, 28] [] (fr' := [(25, aD (.slice (.slice tI)) a0), (26, aI (List.length a0 : Int)), (27, aI i99), (28, aB (decide (i99 < (List.length a0 : Int))))]) (L' := []) (obs := []) (by kernel_rfl) (by kernel_rfl) (by kernel_rfl) allP0 ?_
          refine seqQ_norm ?_
          refine W_seq (by kernel_rfl) ?_
          refine W_cond (o := .tmp 28) (b := decide (i99 < (List.length a0 : Int))) (by kernel_rfl) (by kernel_rfl) (fun h104 => ?_) (fun h104 => ?_)
          · replace h := stepL_true h104 h
            obtain ⟨v102, _, h103, h, rfl⟩ := h
            refine W_skip [25, 26, 27] [] (fr' := [(25, aD (.slice (.slice tI)) a0), (26, aI (List.length a0 : Int)), (27, aI i99)]) (L' := []) (by kernel_rfl) (by kernel_rfl) ?_
            refine seqQ_norm ?_
            refine W_seq (by kernel_rfl) ?_
            refine W_block (id := 3) (by kernel_rfl) ?_
            refine W_seq (by kernel_rfl) ?_
            refine W_run 3 [(1, .val (.dat (.slice tI) v102))] [6, 25, 26, 27] [] (fr' := [(6, aD (.slice tI) v102), (25, aD (.slice (.slice tI)) a0), (26, aI (List.length a0 : Int)), (27, aI i99)]) (L' := []) (obs := [Idx a0 i99 v102]) (by kernel_rfl) (by kernel_rfl) (by kernel_rfl) (allP1 (Idx.of h103)) ?_
            refine seqQ_norm ?_
            refine W_seq (by kernel_rfl) ?_
            refine W_run 3 [] [25, 26, 27, 31, 32, 33] [] (fr' := [(25, aD (.slice (.slice tI)) a0), (26, aI (List.length a0 : Int)), (27, aI i99), (31, aD (.slice tI) v102), (32, aI (List.length v102 : Int)), (33, aI (0 : Int))]) (L' := []) (obs := []) (by kernel_rfl) (by kernel_rfl) (by kernel_rfl) allP0 ?_
            refine seqQ_norm ?_
            refine W_block (id := 4) (by kernel_rfl) ?_
            obtain ⟨v129, h130, h⟩ := bind_of h
            refine W_len (t := 31) (u := tI) (xs := v102) (by kernel_rfl) (fun h133 => ?_)
            obtain ⟨h131, h132⟩ := forL_iter h133 h130
            refine W_weaken [25, 26, 27, 31, 32, 33] [] (fr' := ((ref_SquareCheck_s12 a0 i99 v102) ((0 : Int), ())).1) (L' := ((ref_SquareCheck_s12 a0 i99 v102) ((0 : Int), ())).2) (by kernel_rfl) ?_
            refine W_cutK (W_loop (S := (ref_SquareCheck_s12 a0 i99 v102)) (J := (escQ (exQ .ret ref_SquareCheck_s13) (exQ (.exit 4) (ref_SquareCheck_s14 a0 i99)))) (by kernel_rfl) ?_ h131 _ v129 h132) ?_
            · rintro ⟨i119, x120⟩ s h
              refine W_seq (by kernel_rfl) ?_
              refine W_run 1 [] [25, 26, 27, 31, 32, 33, 34] [] (fr' := [(25, aD (.slice (.slice tI)) a0), (26, aI (List.length a0 : Int)), (27, aI i99), (31, aD (.slice tI) v102), (32, aI (List.length v102 : Int)), (33, aI i119), (34, aB (decide (i119 < (List.length v102 : Int))))]) (L' := []) (obs := []) (by kernel_rfl) (by kernel_rfl) (by kernel_rfl) allP0 ?_
              refine seqQ_norm ?_
              refine W_seq (by kernel_rfl) ?_
              refine W_cond (o := .tmp 34) (b := decide (i119 < (List.length v102 : Int))) (by kernel_rfl) (by kernel_rfl) (fun h124 => ?_) (fun h124 => ?_)
              · replace h := stepL_true h124 h
                obtain ⟨v122, _, h123, h, rfl⟩ := h
                refine W_skip [25, 26, 27, 31, 32, 33] [] (fr' := [(25, aD (.slice (.slice tI)) a0), (26, aI (List.length a0 : Int)), (27, aI i99), (31, aD (.slice tI) v102), (32, aI (List.length v102 : Int)), (33, aI i119)]) (L' := []) (by kernel_rfl) (by kernel_rfl) ?_
                refine seqQ_norm ?_
                refine W_seq (by kernel_rfl) ?_
                refine W_block (id := 5) (by kernel_rfl) ?_
                refine W_seq (by kernel_rfl) ?_
                refine W_run 3 [(1, .val (.dat tI v122))] [8, 25, 26, 27, 31, 32, 33] [] (fr' := [(8, aI v122), (25, aD (.slice (.slice tI)) a0), (26, aI (List.length a0 : Int)), (27, aI i99), (31, aD (.slice tI) v102), (32, aI (List.length v102 : Int)), (33, aI i119)]) (L' := []) (obs := [Idx v102 i119 v122]) (by kernel_rfl) (by kernel_rfl) (by kernel_rfl) (allP1 (Idx.of h123)) ?_
                refine seqQ_norm ?_
                refine W_seq (by kernel_rfl) ?_
                refine W_region (by kernel_rfl) ?_
                refine WO_run (j := 1) (k := 1) (orcs := []) (kF := [25, 26, 27, 31, 32, 33, 37]) (kL := []) (fr' := [(25, aD (.slice (.slice tI)) a0), (26, aI (List.length a0 : Int)), (27, aI i99), (31, aD (.slice tI) v102), (32, aI (List.length v102 : Int)), (33, aI i119), (37, aI v122)]) (L' := []) (obs := []) rfl (by kernel_rfl) allP0 ?_
                obtain ⟨r125, h126, h⟩ := bind_of h
                refine WO_call0 (us := [none, none, none]) (d := 38) (p := True) (j := 2) rfl ⟨by kernel_rfl, by kernel_rfl, by kernel_rfl⟩ trivial (ref_Within_ok h126) (by kernel_rfl) ?_
                refine WO_run (j := 3) (k := 1) (orcs := []) (kF := [25, 26, 27, 31, 32, 33, 39]) (kL := []) (fr' := [(25, aD (.slice (.slice tI)) a0), (26, aI (List.length a0 : Int)), (27, aI i99), (31, aD (.slice tI) v102), (32, aI (List.length v102 : Int)), (33, aI i119), (39, aB (!r125))]) (L' := []) (obs := []) rfl (by kernel_rfl) allP0 ?_
                refine WO_fin [25, 26, 27, 31, 32, 33, 39] [] (fr' := [(25, aD (.slice (.slice tI)) a0), (26, aI (List.length a0 : Int)), (27, aI i99), (31, aD (.slice tI) v102), (32, aI (List.length v102 : Int)), (33, aI i119), (39, aB (!r125))]) (L' := []) (by kernel_rfl) (by kernel_rfl) ?_
                refine seqQ_norm ?_
                refine W_cond (o := .tmp 39) (b := !r125) (by kernel_rfl) (by kernel_rfl) (fun h127 => ?_) (fun h127 => ?_)
                · replace h := ofT h127 h
                  refine W_seq (by kernel_rfl) ?_
                  refine W_run 1 [] [2] [] (fr' := [(2, aI (4 : Int))]) (L' := []) (obs := []) (by kernel_rfl) (by kernel_rfl) (by kernel_rfl) allP0 ?_
                  refine seqQ_norm ?_
                  obtain rfl := Option.some.inj h
                  refine W_ret [2] [] (fr' := [(2, aI (4 : Int))]) (L' := []) (by kernel_rfl) (by kernel_rfl) ?_
                  refine blockQ_ret ?_
                  refine seqQ_ret ?_
                  refine round_ret ?_
                  refine escQ_ret ?_
                  exact exQ_mk (by kernel_rfl) (by kernel_rfl)
                · replace h := ofF h127 h
                  refine W_skip [25, 26, 27, 31, 32, 33] [] (fr' := [(25, aD (.slice (.slice tI)) a0), (26, aI (List.length a0 : Int)), (27, aI i99), (31, aD (.slice tI) v102), (32, aI (List.length v102 : Int)), (33, aI i119)]) (L' := []) (by kernel_rfl) (by kernel_rfl) ?_
                  refine blockQ_norm ?_
                  refine seqQ_norm ?_
                  obtain rfl := Option.some.inj h
                  refine W_run 2 [] [25, 26, 27, 31, 32, 33] [] (fr' := [(25, aD (.slice (.slice tI)) a0), (26, aI (List.length a0 : Int)), (27, aI i99), (31, aD (.slice tI) v102), (32, aI (List.length v102 : Int)), (33, aI (w64 (i119 + (1 : Int))))]) (L' := []) (obs := []) (by kernel_rfl) (by kernel_rfl) (by kernel_rfl) allP0 ?_
                  exact round_next' (by kernel_rfl) (by kernel_rfl)
              · obtain rfl := stepL_false h124 h
                refine W_exit (id := 4) [25, 26, 27] [] (fr' := [(25, aD (.slice (.slice tI)) a0), (26, aI (List.length a0 : Int)), (27, aI i99)]) (L' := []) (by kernel_rfl) (by kernel_rfl) ?_
                refine seqQ_exit ?_
                refine round_exit ?_
                refine escQ_brk ?_
                exact exQ_mk (by kernel_rfl) (by kernel_rfl)
            · intro e fr L hJ
              rcases v129 with v134 | v135
              · obtain ⟨rfl, rfl, rfl⟩ := hJ
                obtain rfl := Option.some.inj h
                refine LT_keep [2] [] (fr' := [(2, aI v134)]) (L' := []) (by kernel_rfl) ?_
                refine blockQ_ret ?_
                refine blockQ_ret ?_
                refine seqQ_ret ?_
                refine round_ret ?_
                refine escQ_ret ?_
                exact exQ_mk (by kernel_rfl) (by kernel_rfl)
              · obtain ⟨rfl, rfl, rfl⟩ := hJ
                refine LT_keep [25, 26, 27] [] (fr' := [(25, aD (.slice (.slice tI)) a0), (26, aI (List.length a0 : Int)), (27, aI i99)]) (L' := []) (by kernel_rfl) ?_
                refine blockQ_hit ?_
                refine blockQ_norm ?_
                refine seqQ_norm ?_
                obtain rfl := Option.some.inj h
                refine W_run 2 [] [25, 26, 27] [] (fr' := [(25, aD (.slice (.slice tI)) a0), (26, aI (List.length a0 : Int)), (27, aI (w64 (i99 + (1 : Int))))]) (L' := []) (obs := []) (by kernel_rfl) (by kernel_rfl) (by kernel_rfl) allP0 ?_
                exact round_next' (by kernel_rfl) (by kernel_rfl)
          · obtain rfl := stepL_false h104 h
            refine W_exit (id := 2) [] [] (fr' := []) (L' := []) (by kernel_rfl) (by kernel_rfl) ?_
            refine seqQ_exit ?_
            refine round_exit ?_
            refine escQ_brk ?_
            exact exQ_mk (by kernel_rfl) (by kernel_rfl)
        · intro e fr L hJ
          rcases v137 with v142 | v143
          · obtain ⟨rfl, rfl, rfl⟩ := hJ
            obtain rfl := Option.some.inj h
            refine LT_keep [2] [] (fr' := [(2, aI v142)]) (L' := []) (by kernel_rfl) ?_
            refine blockQ_ret ?_
            refine seqQ_ret ?_
            exact retQ_mk (by kernel_rfl) (by kernel_rfl) (by kernel_rfl)
          · obtain ⟨rfl, rfl, rfl⟩ := hJ
            refine LT_keep [] [] (fr' := []) (L' := []) (by kernel_rfl) ?_
            refine blockQ_hit ?_
            refine seqQ_norm ?_
            refine W_seq (by kernel_rfl) ?_
            refine W_run 1 [] [2] [] (fr' := [(2, aI (0 : Int))]) (L' := []) (obs := []) (by kernel_rfl) (by kernel_rfl) (by kernel_rfl) allP0 ?_
            refine seqQ_norm ?_
            obtain rfl := Option.some.inj h
            refine W_ret [2] [] (fr' := [(2, aI (0 : Int))]) (L' := []) (by kernel_rfl) (by kernel_rfl) ?_
            exact retQ_mk (by kernel_rfl) (by kernel_rfl) (by kernel_rfl)

def ref_without_b1 (a1 : Int) (i23 : Int) (v26 : (List Int)) (x24 : (List (List Int))) : Option (Flow (List (List Int)) (List (List Int))) :=
(ck (0 ≤ (0 : Int) ∧ (0 : Int) ≤ a1 ∧ a1 ≤ (List.length v26 : Int))).bind fun _ =>
(ck ((0 : Int) + (List.length (sub v26 (0 : Int) a1) : Int) ≤ 4294967296)).bind fun _ =>
(ck (0 ≤ w64 (a1 + (1 : Int)) ∧ w64 (a1 + (1 : Int)) ≤ (List.length v26 : Int) ∧ (List.length v26 : Int) ≤ (List.length v26 : Int))).bind fun _ =>
(ck ((List.length ([] ++ (sub v26 (0 : Int) a1)) : Int) + (List.length (sub v26 (w64 (a1 + (1 : Int))) (List.length v26 : Int)) : Int) ≤ 4294967296)).bind fun _ =>
(ck ((List.length x24 : Int) + 1 ≤ 4294967296)).bind fun _ =>
some (.next (x24 ++ [([] ++ (sub v26 (0 : Int) a1)) ++ (sub v26 (w64 (a1 + (1 : Int))) (List.length v26 : Int))]))
@[reducible] def ref_without_s2 (a0 : (List (List Int))) (a1 : Int) (v : Int × (List (List Int))) : Fr × LL := ([(1, aI a1), (5, .one (.slc 27)), (9, aD (.slice (.slice tI)) (sub a0 (1 : Int) (List.length a0 : Int))), (10, aI (List.length (sub a0 (1 : Int) (List.length a0 : Int)) : Int)), (11, aI v.1)], [(27, .seq (.slice tI) v.2)])
@[reducible] def ref_without_s3 (v : (List (List Int))) : Fr × LL := ([(5, .one (.slc 27))], [(27, .seq (.slice tI) v)])
def ref_without (a0 : (List (List Int))) (a1 : Int) : Option (List (List Int)) :=
(ck (0 ≤ (1 : Int) ∧ (1 : Int) ≤ (List.length a0 : Int) ∧ (List.length a0 : Int) ≤ (List.length a0 : Int))).bind fun _ =>
(forL (ref_without_b1 a1) (fun x24 => x24) (sub a0 (1 : Int) (List.length a0 : Int)) 0 []).bind fun v37 =>
some v37
theorem ref_without_ok {a0 : (List (List Int))} {a1 : Int} {r : (List (List Int))} (h : ref_without a0 a1 = some r) : FnC Try.prog 71 [aD (.slice (.slice tI)) a0, aI a1] [] (aD (.slice (.slice tI)) r) [] := by
  refine fnC_of_W (B := bodyOf Try.f71) (n := 30) Try.func71 (by kernel_rfl) (by kernel_rfl) (by kernel_rfl) (by kernel_rfl) (by kernel_rfl) ?_
  intro K
  refine W_seq (by kernel_rfl) ?_
  refine W_run 1 [] [0, 1] [] (fr' := [(0, aD (.slice (.slice tI)) a0), (1, aI a1)]) (L' := []) (obs := []) (by kernel_rfl) (by kernel_rfl) (by kernel_rfl) allP0 ?_
  refine seqQ_norm ?_
  refine W_seq (by kernel_rfl) ?_
  refine W_run 1 [] [0, 1, 5] [] (fr' := [(0, aD (.slice (.slice tI)) a0), (1, aI a1), (5, .one (.nilS))]) (L' := []) (obs := []) (by kernel_rfl) (by kernel_rfl) (by kernel_rfl) allP0 ?_
  refine seqQ_norm ?_
  refine W_seq (by kernel_rfl) ?_
  refine W_seq (by kernel_rfl) ?_
  obtain ⟨_, h1, h⟩ := bind_of h
  replace h1 := ck_some h1
  refine W_run 4 [] [1, 5, 9, 10, 11] [] (fr' := [(1, aI a1), (5, .one (.nilS)), (9, aD (.slice (.slice tI)) (sub a0 (1 : Int) (List.length a0 : Int))), (10, aI (List.length (sub a0 (1 : Int) (List.length a0 : Int)) : Int)), (11, aI (0 : Int))]) (L' := []) (obs := [Cuts (1 : Int) (List.length a0 : Int) (List.length a0)]) (by kernel_rfl) (by kernel_rfl) (by kernel_rfl) (allP1 h1) ?_
  refine seqQ_norm ?_
  refine W_block (id := 0) (by kernel_rfl) ?_
  obtain ⟨v37, h38, h⟩ := bind_of h
  refine W_len (t := 9) (u := (.slice tI)) (xs := sub a0 (1 : Int) (List.length a0 : Int)) (by kernel_rfl) (fun h41 => ?_)
  obtain ⟨h39, h40⟩ := forL_iter h41 h38
  refine W_mine 5 27 (.slice tI) (by kernel_rfl) ?_
  refine W_weaken [1, 5, 9, 10, 11] [27] (fr' := ((ref_without_s2 a0 a1) ((0 : Int), [])).1) (L' := ((ref_without_s2 a0 a1) ((0 : Int), [])).2) (by kernel_rfl) ?_
  refine W_cutK (W_loop (S := (ref_without_s2 a0 a1)) (J := (exQ (.exit 0) ref_without_s3)) (by kernel_rfl) ?_ h39 _ v37 h40) ?_
  · rintro ⟨i23, x24⟩ s h
    refine W_seq (by kernel_rfl) ?_
    refine W_run 1 [] [1, 5, 9, 10, 11, 12] [27] (fr' := [(1, aI a1), (5, .one (.slc 27)), (9, aD (.slice (.slice tI)) (sub a0 (1 : Int) (List.length a0 : Int))), (10, aI (List.length (sub a0 (1 : Int) (List.length a0 : Int)) : Int)), (11, aI i23), (12, aB (decide (i23 < (List.length (sub a0 (1 : Int) (List.length a0 : Int)) : Int))))]) (L' := [(27, .seq (.slice tI) x24)]) (obs := []) (by kernel_rfl) (by kernel_rfl) (by kernel_rfl) allP0 ?_
    refine seqQ_norm ?_
    refine W_seq (by kernel_rfl) ?_
    refine W_cond (o := .tmp 12) (b := decide (i23 < (List.length (sub a0 (1 : Int) (List.length a0 : Int)) : Int))) (by kernel_rfl) (by kernel_rfl) (fun h28 => ?_) (fun h28 => ?_)
    · replace h := stepL_true h28 h
      obtain ⟨v26, _, h27, h, rfl⟩ := h
      refine W_skip [1, 5, 9, 10, 11] [27] (fr' := [(1, aI a1), (5, .one (.slc 27)), (9, aD (.slice (.slice tI)) (sub a0 (1 : Int) (List.length a0 : Int))), (10, aI (List.length (sub a0 (1 : Int) (List.length a0 : Int)) : Int)), (11, aI i23)]) (L' := [(27, .seq (.slice tI) x24)]) (by kernel_rfl) (by kernel_rfl) ?_
      refine seqQ_norm ?_
      refine W_seq (by kernel_rfl) ?_
      refine W_block (id := 1) (by kernel_rfl) ?_
      refine W_seq (by kernel_rfl) ?_
      refine W_run 3 [(1, .val (.dat (.slice tI) v26))] [1, 5, 7, 9, 10, 11] [27] (fr' := [(1, aI a1), (5, .one (.slc 27)), (7, aD (.slice tI) v26), (9, aD (.slice (.slice tI)) (sub a0 (1 : Int) (List.length a0 : Int))), (10, aI (List.length (sub a0 (1 : Int) (List.length a0 : Int)) : Int)), (11, aI i23)]) (L' := [(27, .seq (.slice tI) x24)]) (obs := [Idx (sub a0 (1 : Int) (List.length a0 : Int)) i23 v26]) (by kernel_rfl) (by kernel_rfl) (by kernel_rfl) (allP1 (Idx.of h27)) ?_
      refine seqQ_norm ?_
      obtain ⟨_, h31, h⟩ := bind_of h
      replace h31 := ck_some h31
      obtain ⟨_, h32, h⟩ := bind_of h
      replace h32 := ck_some h32
      obtain ⟨_, h33, h⟩ := bind_of h
      replace h33 := ck_some h33
      obtain ⟨_, h34, h⟩ := bind_of h
      replace h34 := ck_some h34
      refine W_drawC5 12 [(1, [16], [(16, .seq tI [])]), (5, [16], [(16, .seq tI ([] ++ (sub v26 (0 : Int) a1)))]), (10, [16], [])] [] [(1, .one (.slc 16)), (5, .one (.slc 16)), (10, aD (.slice tI) (([] ++ (sub v26 (0 : Int) a1)) ++ (sub v26 (w64 (a1 + (1 : Int))) (List.length v26 : Int))))] [] [] [1, 5, 9, 10, 11, 15, 26] [27] (out := [(15, .one (.slc 27)), (16, .one (.slc 16)), (17, aD (.slice tI) v26), (18, aI a1), (19, aD (.slice tI) (sub v26 (0 : Int) a1)), (20, .one (.slc 16)), (21, aD (.slice tI) v26), (22, aI a1), (23, aI (w64 (a1 + (1 : Int)))), (24, aD (.slice tI) (sub v26 (w64 (a1 + (1 : Int))) (List.length v26 : Int))), (25, aD (.slice tI) (([] ++ (sub v26 (0 : Int) a1)) ++ (sub v26 (w64 (a1 + (1 : Int))) (List.length v26 : Int)))), (26, aD (.slice (.slice tI)) [([] ++ (sub v26 (0 : Int) a1)) ++ (sub v26 (w64 (a1 + (1 : Int))) (List.length v26 : Int))])]) (obs := [Cuts (0 : Int) a1 (List.length v26), Cuts (w64 (a1 + (1 : Int))) (List.length v26 : Int) (List.length v26), True]) (calls := []) (fr' := [(1, aI a1), (5, .one (.slc 27)), (9, aD (.slice (.slice tI)) (sub a0 (1 : Int) (List.length a0 : Int))), (10, aI (List.length (sub a0 (1 : Int) (List.length a0 : Int)) : Int)), (11, aI i23), (15, .one (.slc 27)), (26, aD (.slice (.slice tI)) [([] ++ (sub v26 (0 : Int) a1)) ++ (sub v26 (w64 (a1 + (1 : Int))) (List.length v26 : Int))])]) (L' := [(27, .seq (.slice tI) x24)]) (by kernel_rfl) (by kernel_rfl) (by kernel_rfl) (by kernel_rfl) (by kernel_rfl) (allP2 h31 (allP2 h33 (allP1 trivial))) allD0 (chDo (ty := false) (d := 16) (nm := 16) (ob := .seq tI []) (av := .one (.slc 16)) (p := True) (by kernel_rfl) trivial (by kernel_rfl) (chDo (ty := false) (d := 20) (nm := 16) (ob := .seq tI ([] ++ (sub v26 (0 : Int) a1))) (av := .one (.slc 16)) (p := SmallLen (List.length ([] : (List Int)) + List.length (sub v26 (0 : Int) a1))) (by kernel_rfl) h32 (by kernel_rfl) (chFz (ty := false) (d := 25) (u := tI) (xs := ([] ++ (sub v26 (0 : Int) a1)) ++ (sub v26 (w64 (a1 + (1 : Int))) (List.length v26 : Int))) (p := SmallLen (List.length ([] ++ (sub v26 (0 : Int) a1) : (List Int)) + List.length (sub v26 (w64 (a1 + (1 : Int))) (List.length v26 : Int)))) (by kernel_rfl) h34 (by kernel_rfl) (by kernel_rfl) chNil))) mkNil (by kernel_rfl) ?_
      obtain ⟨_, h35, h⟩ := bind_of h
      replace h35 := ck_some h35
      refine WO_run (j := 14) (k := 2) (orcs := []) (kF := [1, 5, 9, 10, 11]) (kL := [27]) (fr' := [(1, aI a1), (5, .one (.slc 27)), (9, aD (.slice (.slice tI)) (sub a0 (1 : Int) (List.length a0 : Int))), (10, aI (List.length (sub a0 (1 : Int) (List.length a0 : Int)) : Int)), (11, aI i23)]) (L' := [(27, .seq (.slice tI) (x24 ++ [([] ++ (sub v26 (0 : Int) a1)) ++ (sub v26 (w64 (a1 + (1 : Int))) (List.length v26 : Int))]))]) (obs := [SmallLen (List.length x24 + List.length ([([] ++ (sub v26 (0 : Int) a1)) ++ (sub v26 (w64 (a1 + (1 : Int))) (List.length v26 : Int))] : (List (List Int))))]) rfl (by kernel_rfl) (allP1 h35) ?_
      refine WO_fin [1, 5, 9, 10, 11] [27] (fr' := [(1, aI a1), (5, .one (.slc 27)), (9, aD (.slice (.slice tI)) (sub a0 (1 : Int) (List.length a0 : Int))), (10, aI (List.length (sub a0 (1 : Int) (List.length a0 : Int)) : Int)), (11, aI i23)]) (L' := [(27, .seq (.slice tI) (x24 ++ [([] ++ (sub v26 (0 : Int) a1)) ++ (sub v26 (w64 (a1 + (1 : Int))) (List.length v26 : Int))]))]) (by kernel_rfl) (by kernel_rfl) ?_
      refine ⟨rfl, ?_⟩
      refine blockQ_norm ?_
      refine seqQ_norm ?_
      obtain rfl := Option.some.inj h
      refine W_run 2 [] [1, 5, 9, 10, 11] [27] (fr' := [(1, aI a1), (5, .one (.slc 27)), (9, aD (.slice (.slice tI)) (sub a0 (1 : Int) (List.length a0 : Int))), (10, aI (List.length (sub a0 (1 : Int) (List.length a0 : Int)) : Int)), (11, aI (w64 (i23 + (1 : Int))))]) (L' := [(27, .seq (.slice tI) (x24 ++ [([] ++ (sub v26 (0 : Int) a1)) ++ (sub v26 (w64 (a1 + (1 : Int))) (List.length v26 : Int))]))]) (obs := []) (by kernel_rfl) (by kernel_rfl) (by kernel_rfl) allP0 ?_
      exact round_next' (by kernel_rfl) (by kernel_rfl)
    · obtain rfl := stepL_false h28 h
      refine W_exit (id := 0) [5] [27] (fr' := [(5, .one (.slc 27))]) (L' := [(27, .seq (.slice tI) x24)]) (by kernel_rfl) (by kernel_rfl) ?_
      refine seqQ_exit ?_
      refine round_exit ?_
      exact exQ_mk (by kernel_rfl) (by kernel_rfl)
  · intro e fr L hJ
    obtain ⟨rfl, rfl, rfl⟩ := hJ
    refine LT_keep [5] [27] (fr' := [(5, .one (.slc 27))]) (L' := [(27, .seq (.slice tI) v37)]) (by kernel_rfl) ?_
    refine blockQ_hit ?_
    refine seqQ_norm ?_
    refine W_seq (by kernel_rfl) ?_
    refine W_run 2 [] [4] [27] (fr' := [(4, .one (.slc 27))]) (L' := [(27, .seq (.slice tI) v37)]) (obs := []) (by kernel_rfl) (by kernel_rfl) (by kernel_rfl) allP0 ?_
    refine seqQ_norm ?_
    obtain rfl := Option.some.inj h
    refine W_frz 27 (by kernel_rfl) ?_
    refine W_ret [4] [] (fr' := [(4, aD (.slice (.slice tI)) v37)]) (L' := []) (by kernel_rfl) (by kernel_rfl) ?_
    exact retQ_mk (by kernel_rfl) (by kernel_rfl) (by kernel_rfl)

def ref_Ways_b1 (a0 : (List (List Int))) (rf_ref_Ways : (List (List Int)) → Option Int) (i22 : Int) (v25 : (List Int)) (x23 : Int) : Option (Flow Int Int) :=
(idx a0 (0 : Int)).bind fun v28 =>
(idx v28 i22).bind fun v30 =>
(ref_without a0 i22).bind fun r32 =>
(rf_ref_Ways r32).bind fun r34 =>
some (.next (w64 (x23 + (w64 (v30 * r34)))))
@[reducible] def ref_Ways_s2 (a0 : (List (List Int))) (v : Int × Int) : Fr × LL := ([(0, aD (.slice (.slice tI)) a0), (3, aI v.2), (4, aI v.1)], [])
@[reducible] def ref_Ways_s3 (v : Int) : Fr × LL := ([(3, aI v)], [])
def ref_Ways_step (rf_ref_Ways : (List (List Int)) → Option Int) (fuel : Nat) (a0 : (List (List Int))) : Option Int :=
bif (List.length a0 : Int) == (0 : Int) then
(some (1 : Int))
else
((forL (ref_Ways_b1 a0 rf_ref_Ways) (fun x23 => x23) a0 0 (0 : Int)).bind fun v37 =>
some v37)
def ref_Ways : Nat → (List (List Int)) → Option Int
  | 0 => fun _ => none
  | fuel + 1 => fun a0 => ref_Ways_step (ref_Ways fuel) fuel a0
theorem ref_Ways_step_ok {rf_ref_Ways : (List (List Int)) → Option Int} (ih_ref_Ways : ∀ {a0 : (List (List Int))} {r : Int}, rf_ref_Ways a0 = some r → FnC Try.prog 37 [aD (.slice (.slice tI)) a0] [] (aI r) []) {fuel : Nat} {a0 : (List (List Int))} {r : Int} (h : ref_Ways_step rf_ref_Ways fuel a0 = some r) : FnC Try.prog 37 [aD (.slice (.slice tI)) a0] [] (aI r) [] := by
  refine fnC_of_W (B := bodyOf Try.f37) (n := 28) Try.func37 (by kernel_rfl) (by kernel_rfl) (by kernel_rfl) (by kernel_rfl) (by kernel_rfl) ?_
  intro K
  refine W_seq (by kernel_rfl) ?_
  refine W_run 1 [] [0] [] (fr' := [(0, aD (.slice (.slice tI)) a0)]) (L' := []) (obs := []) (by kernel_rfl) (by kernel_rfl) (by kernel_rfl) allP0 ?_
  refine seqQ_norm ?_
  refine W_seq (by kernel_rfl) ?_
  refine W_seq (by kernel_rfl) ?_
  refine W_run 3 [] [0, 7] [] (fr' := [(0, aD (.slice (.slice tI)) a0), (7, aB ((List.length a0 : Int) == (0 : Int)))]) (L' := []) (obs := []) (by kernel_rfl) (by kernel_rfl) (by kernel_rfl) allP0 ?_
  refine seqQ_norm ?_
  refine W_cond (o := .tmp 7) (b := (List.length a0 : Int) == (0 : Int)) (by kernel_rfl) (by kernel_rfl) (fun h1 => ?_) (fun h1 => ?_)
  · replace h := ofT h1 h
    refine W_seq (by kernel_rfl) ?_
    refine W_run 1 [] [2] [] (fr' := [(2, aI (1 : Int))]) (L' := []) (obs := []) (by kernel_rfl) (by kernel_rfl) (by kernel_rfl) allP0 ?_
    refine seqQ_norm ?_
    obtain rfl := Option.some.inj h
    refine W_ret [2] [] (fr' := [(2, aI (1 : Int))]) (L' := []) (by kernel_rfl) (by kernel_rfl) ?_
    refine seqQ_ret ?_
    exact retQ_mk (by kernel_rfl) (by kernel_rfl) (by kernel_rfl)
  · replace h := ofF h1 h
    refine W_skip [0] [] (fr' := [(0, aD (.slice (.slice tI)) a0)]) (L' := []) (by kernel_rfl) (by kernel_rfl) ?_
    refine seqQ_norm ?_
    refine W_seq (by kernel_rfl) ?_
    refine W_run 1 [] [0, 3] [] (fr' := [(0, aD (.slice (.slice tI)) a0), (3, aI (0 : Int))]) (L' := []) (obs := []) (by kernel_rfl) (by kernel_rfl) (by kernel_rfl) allP0 ?_
    refine seqQ_norm ?_
    refine W_seq (by kernel_rfl) ?_
    refine W_seq (by kernel_rfl) ?_
    refine W_run 1 [] [0, 3, 4] [] (fr' := [(0, aD (.slice (.slice tI)) a0), (3, aI (0 : Int)), (4, aI (0 : Int))]) (L' := []) (obs := []) (by kernel_rfl) (by kernel_rfl) (by kernel_rfl) allP0 ?_
    refine seqQ_norm ?_
    refine W_block (id := 0) (by kernel_rfl) ?_
    obtain ⟨v37, h38, h⟩ := bind_of h
    refine W_len (t := 0) (u := (.slice tI)) (xs := a0) (by kernel_rfl) (fun h41 => ?_)
    obtain ⟨h39, h40⟩ := forL_iter h41 h38
    refine W_weaken [0, 3, 4] [] (fr' := ((ref_Ways_s2 a0) ((0 : Int), (0 : Int))).1) (L' := ((ref_Ways_s2 a0) ((0 : Int), (0 : Int))).2) (by kernel_rfl) ?_
    refine W_cutK (W_loop (S := (ref_Ways_s2 a0)) (J := (exQ (.exit 0) ref_Ways_s3)) (by kernel_rfl) ?_ h39 _ v37 h40) ?_
    · rintro ⟨i22, x23⟩ s h
      refine W_seq (by kernel_rfl) ?_
      refine W_seq (by kernel_rfl) ?_
      refine W_run 4 [] [0, 3, 4, 11] [] (fr' := [(0, aD (.slice (.slice tI)) a0), (3, aI x23), (4, aI i22), (11, aB (decide (i22 < (List.length a0 : Int))))]) (L' := []) (obs := []) (by kernel_rfl) (by kernel_rfl) (by kernel_rfl) allP0 ?_
      refine seqQ_norm ?_
      refine W_cond (o := .tmp 11) (b := decide (i22 < (List.length a0 : Int))) (by kernel_rfl) (by kernel_rfl) (fun h27 => ?_) (fun h27 => ?_)
      · replace h := stepL_true h27 h
        obtain ⟨v25, _, h26, h, rfl⟩ := h
        refine W_skip [0, 3, 4] [] (fr' := [(0, aD (.slice (.slice tI)) a0), (3, aI x23), (4, aI i22)]) (L' := []) (by kernel_rfl) (by kernel_rfl) ?_
        refine seqQ_norm ?_
        refine W_seq (by kernel_rfl) ?_
        refine W_block (id := 1) (by kernel_rfl) ?_
        obtain ⟨v28, h29, h⟩ := bind_of h
        obtain ⟨v30, h31, h⟩ := bind_of h
        obtain ⟨r32, h33, h⟩ := bind_of h
        obtain ⟨r34, h35, h⟩ := bind_of h
        refine W_draw2 13 [(5, .val (.dat (.slice tI) v28)), (11, .val (.dat tI v30))] [(9, [none, none], aD (.slice (.slice tI)) r32), (10, [none], aI r34)] [0, 3, 4] [] (fr' := [(0, aD (.slice (.slice tI)) a0), (3, aI (w64 (x23 + (w64 (v30 * r34))))), (4, aI i22)]) (L' := []) (out := [(14, aI x23), (15, aD (.slice (.slice tI)) a0), (16, .one (.dptr (.slice tI) v28)), (17, aD (.slice tI) v28), (18, aI i22), (19, .one (.dptr tI v30)), (20, aI v30), (21, aD (.slice (.slice tI)) a0), (22, aI i22), (23, aD (.slice (.slice tI)) r32), (24, aI r34), (25, aI (w64 (v30 * r34))), (26, aI (w64 (x23 + (w64 (v30 * r34)))))]) (obs := [Idx a0 (0 : Int) v28, Idx v28 i22 v30, True, True]) (obs2 := []) (calls := [(71, [aD (.slice (.slice tI)) a0, aI i22], aD (.slice (.slice tI)) r32), (37, [aD (.slice (.slice tI)) r32], aI r34)]) (by kernel_rfl) (by kernel_rfl) (by kernel_rfl) (by kernel_rfl) (allP2 (Idx.of h29) (allP2 (Idx.of h31) (allP2 trivial (allP1 trivial)))) (allC1 (by kernel_rfl) (ref_without_ok h33) (by kernel_rfl) (allC1 (by kernel_rfl) (ih_ref_Ways h35) (by kernel_rfl) allC0)) (by kernel_rfl) allP0 ?_
        refine blockQ_norm ?_
        refine seqQ_norm ?_
        obtain rfl := Option.some.inj h
        refine W_run 3 [] [0, 3, 4] [] (fr' := [(0, aD (.slice (.slice tI)) a0), (3, aI (w64 (x23 + (w64 (v30 * r34))))), (4, aI (w64 (i22 + (1 : Int))))]) (L' := []) (obs := []) (by kernel_rfl) (by kernel_rfl) (by kernel_rfl) allP0 ?_
        exact round_next' (by kernel_rfl) (by kernel_rfl)
      · obtain rfl := stepL_false h27 h
        refine W_exit (id := 0) [3] [] (fr' := [(3, aI x23)]) (L' := []) (by kernel_rfl) (by kernel_rfl) ?_
        refine seqQ_exit ?_
        refine round_exit ?_
        exact exQ_mk (by kernel_rfl) (by kernel_rfl)
    · intro e fr L hJ
      obtain ⟨rfl, rfl, rfl⟩ := hJ
      refine LT_keep [3] [] (fr' := [(3, aI v37)]) (L' := []) (by kernel_rfl) ?_
      refine blockQ_hit ?_
      refine seqQ_norm ?_
      refine W_seq (by kernel_rfl) ?_
      refine W_run 2 [] [2] [] (fr' := [(2, aI v37)]) (L' := []) (obs := []) (by kernel_rfl) (by kernel_rfl) (by kernel_rfl) allP0 ?_
      refine seqQ_norm ?_
      obtain rfl := Option.some.inj h
      refine W_ret [2] [] (fr' := [(2, aI v37)]) (L' := []) (by kernel_rfl) (by kernel_rfl) ?_
      exact retQ_mk (by kernel_rfl) (by kernel_rfl) (by kernel_rfl)
theorem ref_Ways_ok : ∀ {fuel : Nat} {a0 : (List (List Int))} {r : Int}, ref_Ways fuel a0 = some r → FnC Try.prog 37 [aD (.slice (.slice tI)) a0] [] (aI r) [] := by
  intro fuel
  induction fuel with
  | zero => intros a0 r h; cases h
  | succ fuel ih => intros a0 r h; exact ref_Ways_step_ok (fun h => ih h) (show ref_Ways_step (ref_Ways fuel) fuel a0 = some r from h)

def law_PairsParities (fuel : Nat) (a0 : (List (List Int))) : Option Bool :=
(pairs_Parity fuel a0).bind fun r1 =>
(ref_SquareCheck a0).bind fun r3 =>
bif r3 != (0 : Int) then
(some ((r1.2 == r3) && (!r1.1)))
else
((ref_Ways fuel a0).bind fun r6 =>
some ((r1.2 == (0 : Int)) && (r1.1 == (((Int.tmod r6 (2 : Int)) == (1 : Int)) || ((Int.tmod r6 (2 : Int)) == (-1 : Int))))))
theorem law_PairsParities_ok {fuel : Nat} {a0 : (List (List Int))} {r : Bool} (h : law_PairsParities fuel a0 = some r) : FnC Try.prog 8 [aD (.slice (.slice tI)) a0] [] (aB r) [] := by
  refine fnC_of_W (B := bodyOf Try.f8) (n := 38) Try.func8 (by kernel_rfl) (by kernel_rfl) (by kernel_rfl) (by kernel_rfl) (by kernel_rfl) ?_
  intro K
  refine W_seq (by kernel_rfl) ?_
  refine W_run 1 [] [0] [] (fr' := [(0, aD (.slice (.slice tI)) a0)]) (L' := []) (obs := []) (by kernel_rfl) (by kernel_rfl) (by kernel_rfl) allP0 ?_
  refine seqQ_norm ?_
  refine W_seq (by kernel_rfl) ?_
  refine W_region (by kernel_rfl) ?_
  refine WO_run (j := 1) (k := 1) (orcs := []) (kF := [0, 8]) (kL := []) (fr' := [(0, aD (.slice (.slice tI)) a0), (8, aD (.slice (.slice tI)) a0)]) (L' := []) (obs := []) rfl (by kernel_rfl) allP0 ?_
  obtain ⟨r1, h2, h⟩ := bind_of h
  refine WO_call0 (us := [none]) (d := 9) (p := True) (j := 2) rfl ⟨by kernel_rfl, by kernel_rfl, by kernel_rfl⟩ trivial (pairs_Parity_ok h2) (by kernel_rfl) ?_
  refine WO_run (j := 7) (k := 5) (orcs := []) (kF := [0, 3, 4]) (kL := []) (fr' := [(0, aD (.slice (.slice tI)) a0), (3, aB r1.1), (4, aI r1.2)]) (L' := []) (obs := []) rfl (by kernel_rfl) allP0 ?_
  refine WO_fin [0, 3, 4] [] (fr' := [(0, aD (.slice (.slice tI)) a0), (3, aB r1.1), (4, aI r1.2)]) (L' := []) (by kernel_rfl) (by kernel_rfl) ?_
  refine seqQ_norm ?_
  refine W_seq (by kernel_rfl) ?_
  refine W_region (by kernel_rfl) ?_
  refine WO_run (j := 1) (k := 1) (orcs := []) (kF := [0, 3, 4, 12]) (kL := []) (fr' := [(0, aD (.slice (.slice tI)) a0), (3, aB r1.1), (4, aI r1.2), (12, aD (.slice (.slice tI)) a0)]) (L' := []) (obs := []) rfl (by kernel_rfl) allP0 ?_
  obtain ⟨r3, h4, h⟩ := bind_of h
  refine WO_call0 (us := [none]) (d := 13) (p := True) (j := 2) rfl ⟨by kernel_rfl, by kernel_rfl, by kernel_rfl⟩ trivial (ref_SquareCheck_ok h4) (by kernel_rfl) ?_
  refine WO_run (j := 3) (k := 1) (orcs := []) (kF := [0, 3, 4, 5]) (kL := []) (fr' := [(0, aD (.slice (.slice tI)) a0), (3, aB r1.1), (4, aI r1.2), (5, aI r3)]) (L' := []) (obs := []) rfl (by kernel_rfl) allP0 ?_
  refine WO_fin [0, 3, 4, 5] [] (fr' := [(0, aD (.slice (.slice tI)) a0), (3, aB r1.1), (4, aI r1.2), (5, aI r3)]) (L' := []) (by kernel_rfl) (by kernel_rfl) ?_
  refine seqQ_norm ?_
  refine W_seq (by kernel_rfl) ?_
  refine W_seq (by kernel_rfl) ?_
  refine W_run 2 [] [0, 3, 4, 5, 15] [] (fr' := [(0, aD (.slice (.slice tI)) a0), (3, aB r1.1), (4, aI r1.2), (5, aI r3), (15, aB (r3 != (0 : Int)))]) (L' := []) (obs := []) (by kernel_rfl) (by kernel_rfl) (by kernel_rfl) allP0 ?_
  refine seqQ_norm ?_
  refine W_cond (o := .tmp 15) (b := r3 != (0 : Int)) (by kernel_rfl) (by kernel_rfl) (fun h5 => ?_) (fun h5 => ?_)
  · replace h := ofT h5 h
    refine W_seq (by kernel_rfl) ?_
    refine W_run 8 [] [2] [] (fr' := [(2, aB ((r1.2 == r3) && (!r1.1)))]) (L' := []) (obs := []) (by kernel_rfl) (by kernel_rfl) (by kernel_rfl) allP0 ?_
    refine seqQ_norm ?_
    obtain rfl := Option.some.inj h
    refine W_ret [2] [] (fr' := [(2, aB ((r1.2 == r3) && (!r1.1)))]) (L' := []) (by kernel_rfl) (by kernel_rfl) ?_
    refine seqQ_ret ?_
    exact retQ_mk (by kernel_rfl) (by kernel_rfl) (by kernel_rfl)
  · replace h := ofF h5 h
    refine W_skip [0, 3, 4] [] (fr' := [(0, aD (.slice (.slice tI)) a0), (3, aB r1.1), (4, aI r1.2)]) (L' := []) (by kernel_rfl) (by kernel_rfl) ?_
    refine seqQ_norm ?_
    refine W_seq (by kernel_rfl) ?_
    refine W_region (by kernel_rfl) ?_
    refine WO_run (j := 1) (k := 1) (orcs := []) (kF := [3, 4, 23]) (kL := []) (fr' := [(3, aB r1.1), (4, aI r1.2), (23, aD (.slice (.slice tI)) a0)]) (L' := []) (obs := []) rfl (by kernel_rfl) allP0 ?_
    obtain ⟨r6, h7, h⟩ := bind_of h
    refine WO_call0 (us := [none]) (d := 24) (p := True) (j := 2) rfl ⟨by kernel_rfl, by kernel_rfl, by kernel_rfl⟩ trivial (ref_Ways_ok h7) (by kernel_rfl) ?_
    refine WO_run (j := 4) (k := 2) (orcs := []) (kF := [3, 4, 6]) (kL := []) (fr' := [(3, aB r1.1), (4, aI r1.2), (6, aI (Int.tmod r6 (2 : Int)))]) (L' := []) (obs := [((2 : Int) ≠ 0)]) rfl (by kernel_rfl) (allP1 (by decide)) ?_
    refine WO_fin [3, 4, 6] [] (fr' := [(3, aB r1.1), (4, aI r1.2), (6, aI (Int.tmod r6 (2 : Int)))]) (L' := []) (by kernel_rfl) (by kernel_rfl) ?_
    refine seqQ_norm ?_
    refine W_seq (by kernel_rfl) ?_
    refine W_run 13 [] [2] [] (fr' := [(2, aB ((r1.2 == (0 : Int)) && (r1.1 == (((Int.tmod r6 (2 : Int)) == (1 : Int)) || ((Int.tmod r6 (2 : Int)) == (-1 : Int))))))]) (L' := []) (obs := []) (by kernel_rfl) (by kernel_rfl) (by kernel_rfl) allP0 ?_
    refine seqQ_norm ?_
    obtain rfl := Option.some.inj h
    refine W_ret [2] [] (fr' := [(2, aB ((r1.2 == (0 : Int)) && (r1.1 == (((Int.tmod r6 (2 : Int)) == (1 : Int)) || ((Int.tmod r6 (2 : Int)) == (-1 : Int))))))]) (L' := []) (by kernel_rfl) (by kernel_rfl) ?_
    exact retQ_mk (by kernel_rfl) (by kernel_rfl) (by kernel_rfl)
end Go.Proofs.Ytnblafiefaalgaa.pairsParities
