/- What the functions that PairsWays calls compute, as models, and that they compute it: written by a program of mine. -/
import Derived.Test.YtjghcbdfpcpahaaProg
import Derived.Test.YtjghcbdfpcpahaaSl5
set_option linter.all false
set_option maxRecDepth 100000
namespace Go.Proofs.Ytjghcbdfpcpahaa.pairsWays
open Go Go.Sl
def pairs_wrong_1 (a0 : (List Int)) (c0 : (List (List Int))) : Option Bool :=
some ((List.length a0 : Int) != (List.length c0 : Int))
theorem pairs_wrong_1_ok {a0 : (List Int)} {c0 : (List (List Int))} {r : Bool} (h : pairs_wrong_1 a0 c0 = some r) : FnC Try.prog 63 [aD (.slice tI) a0, .one (.ptr 1000 0)] [(1000, .cells [.dat (.slice (.slice tI)) c0])] (aB r) [(1000, .cells [.dat (.slice (.slice tI)) c0])] := by
  refine fnC_of_W (B := bodyOf Try.f63) (n := 9) Try.func63 (by kernel_rfl) (by kernel_rfl) (by kernel_rfl) (by kernel_rfl) (by kernel_rfl) ?_
  intro K
  refine W_seq (by kernel_rfl) ?_
  refine W_run 1 [] [0, 1] [1000] (fr' := [(0, aD (.slice tI) a0), (1, .one (.ptr 1000 0))]) (L' := [(1000, .cells [.dat (.slice (.slice tI)) c0])]) (obs := []) (by kernel_rfl) (by kernel_rfl) (by kernel_rfl) allP0 ?_
  refine seqQ_norm ?_
  refine W_seq (by kernel_rfl) ?_
  refine W_run 6 [] [3] [1000] (fr' := [(3, aB ((List.length a0 : Int) != (List.length c0 : Int)))]) (L' := [(1000, .cells [.dat (.slice (.slice tI)) c0])]) (obs := []) (by kernel_rfl) (by kernel_rfl) (by kernel_rfl) allP0 ?_
  refine seqQ_norm ?_
  obtain rfl := Option.some.inj h
  refine W_ret [3] [1000] (fr' := [(3, aB ((List.length a0 : Int) != (List.length c0 : Int)))]) (L' := [(1000, .cells [.dat (.slice (.slice tI)) c0])]) (by kernel_rfl) (by kernel_rfl) ?_
  exact retQ_mk (by kernel_rfl) (by kernel_rfl) (by kernel_rfl)

def slices_IndexFunc_LLintLint_with_pairs_wrong_1_b1 (c0 : (List (List Int))) (i15 : Int) (v18 : (List Int)) (x16 : Unit) : Option (Flow Unit (Esc Int Unit)) :=
(pairs_wrong_1 v18 c0).bind fun r21 =>
bif r21 then
(some (.done (.ret i15)))
else
(some (.next ()))
@[reducible] def slices_IndexFunc_LLintLint_with_pairs_wrong_1_s2 (a0 : (List (List Int))) (c0 : (List (List Int))) (v : Int × Unit) : Fr × LL := ([(0, aD (.slice (.slice tI)) a0), (1, .one (.fn 63 [(1000, 0)])), (7, aI (List.length a0 : Int)), (8, aI v.1)], [(1000, .cells [.dat (.slice (.slice tI)) c0])])
@[reducible] def slices_IndexFunc_LLintLint_with_pairs_wrong_1_s3 (c0 : (List (List Int))) (v : Int) : Fr × LL := ([(4, aI v)], [(1000, .cells [.dat (.slice (.slice tI)) c0])])
@[reducible] def slices_IndexFunc_LLintLint_with_pairs_wrong_1_s4 (c0 : (List (List Int))) (v : Unit) : Fr × LL := ([], [(1000, .cells [.dat (.slice (.slice tI)) c0])])
def slices_IndexFunc_LLintLint_with_pairs_wrong_1 (a0 : (List (List Int))) (c0 : (List (List Int))) : Option Int :=
(forL (slices_IndexFunc_LLintLint_with_pairs_wrong_1_b1 c0) (fun x16 => (.brk ())) a0 0 ()).bind fun v25 =>
match v25 with
| .ret v30 =>
(some v30)
| .brk v31 =>
(some (-1 : Int))
theorem slices_IndexFunc_LLintLint_with_pairs_wrong_1_ok {a0 : (List (List Int))} {c0 : (List (List Int))} {r : Int} (h : slices_IndexFunc_LLintLint_with_pairs_wrong_1 a0 c0 = some r) : FnC Try.prog 41 [aD (.slice (.slice tI)) a0, .one (.fn 63 [(1000, 0)])] [(1000, .cells [.dat (.slice (.slice tI)) c0])] (aI r) [(1000, .cells [.dat (.slice (.slice tI)) c0])] := by
  refine fnC_of_W (B := bodyOf Try.f41) (n := 19) Try.func41 (by kernel_rfl) (by kernel_rfl) (by kernel_rfl) (by kernel_rfl) (by kernel_rfl) ?_
  intro K
  refine W_seq (by kernel_rfl) ?_
  refine W_run 1 [] [0, 1] [1000] (fr' := [(0, aD (.slice (.slice tI)) a0), (1, .one (.fn 63 [(1000, 0)]))]) (L' := [(1000, .cells [.dat (.slice (.slice tI)) c0])]) (obs := []) (by kernel_rfl) (by kernel_rfl) (by kernel_rfl) allP0 ?_
  refine seqQ_norm ?_
  refine W_seq (by kernel_rfl) ?_
  refine W_seq (by kernel_rfl) ?_
  refine W_run 3 [] [0, 1, 7, 8] [1000] (fr' := [(0, aD (.slice (.slice tI)) a0), (1, .one (.fn 63 [(1000, 0)])), (7, aI (List.length a0 : Int)), (8, aI (0 : Int))]) (L' := [(1000, .cells [.dat (.slice (.slice tI)) c0])]) (obs := []) (by kernel_rfl) (by kernel_rfl) (by kernel_rfl) allP0 ?_
  refine seqQ_norm ?_
  refine W_block (id := 0) (by kernel_rfl) ?_
  obtain ⟨v25, h26, h⟩ := bind_of h
  refine W_len (t := 0) (u := (.slice tI)) (xs := a0) (by kernel_rfl) (fun h29 => ?_)
  obtain ⟨h27, h28⟩ := forL_iter h29 h26
  refine W_weaken [0, 1, 7, 8] [1000] (fr' := ((slices_IndexFunc_LLintLint_with_pairs_wrong_1_s2 a0 c0) ((0 : Int), ())).1) (L' := ((slices_IndexFunc_LLintLint_with_pairs_wrong_1_s2 a0 c0) ((0 : Int), ())).2) (by kernel_rfl) ?_
  refine W_cutK (W_loop (S := (slices_IndexFunc_LLintLint_with_pairs_wrong_1_s2 a0 c0)) (J := (escQ (exQ .ret (slices_IndexFunc_LLintLint_with_pairs_wrong_1_s3 c0)) (exQ (.exit 0) (slices_IndexFunc_LLintLint_with_pairs_wrong_1_s4 c0)))) (by kernel_rfl) ?_ h27 _ v25 h28) ?_
  · rintro ⟨i15, x16⟩ s h
    refine W_seq (by kernel_rfl) ?_
    refine W_run 1 [] [0, 1, 7, 8, 9] [1000] (fr' := [(0, aD (.slice (.slice tI)) a0), (1, .one (.fn 63 [(1000, 0)])), (7, aI (List.length a0 : Int)), (8, aI i15), (9, aB (decide (i15 < (List.length a0 : Int))))]) (L' := [(1000, .cells [.dat (.slice (.slice tI)) c0])]) (obs := []) (by kernel_rfl) (by kernel_rfl) (by kernel_rfl) allP0 ?_
    refine seqQ_norm ?_
    refine W_seq (by kernel_rfl) ?_
    refine W_cond (o := .tmp 9) (b := decide (i15 < (List.length a0 : Int))) (by kernel_rfl) (by kernel_rfl) (fun h20 => ?_) (fun h20 => ?_)
    · replace h := stepL_true h20 h
      obtain ⟨v18, _, h19, h, rfl⟩ := h
      refine W_skip [0, 1, 7, 8] [1000] (fr' := [(0, aD (.slice (.slice tI)) a0), (1, .one (.fn 63 [(1000, 0)])), (7, aI (List.length a0 : Int)), (8, aI i15)]) (L' := [(1000, .cells [.dat (.slice (.slice tI)) c0])]) (by kernel_rfl) (by kernel_rfl) ?_
      refine seqQ_norm ?_
      refine W_seq (by kernel_rfl) ?_
      refine W_block (id := 1) (by kernel_rfl) ?_
      refine W_seq (by kernel_rfl) ?_
      refine W_run 2 [] [0, 1, 5, 7, 8] [1000] (fr' := [(0, aD (.slice (.slice tI)) a0), (1, .one (.fn 63 [(1000, 0)])), (5, aI i15), (7, aI (List.length a0 : Int)), (8, aI i15)]) (L' := [(1000, .cells [.dat (.slice (.slice tI)) c0])]) (obs := []) (by kernel_rfl) (by kernel_rfl) (by kernel_rfl) allP0 ?_
      refine seqQ_norm ?_
      refine W_seq (by kernel_rfl) ?_
      refine W_region (by kernel_rfl) ?_
      refine WO_run (j := 5) (k := 5) (orcs := [(7, .val (.dat (.slice tI) v18))]) (kF := [0, 1, 5, 7, 8, 11, 15]) (kL := [1000]) (fr' := [(0, aD (.slice (.slice tI)) a0), (1, .one (.fn 63 [(1000, 0)])), (5, aI i15), (7, aI (List.length a0 : Int)), (8, aI i15), (11, .one (.fn 63 [(1000, 0)])), (15, aD (.slice tI) v18)]) (L' := [(1000, .cells [.dat (.slice (.slice tI)) c0])]) (obs := [Idx a0 i15 v18]) rfl (by kernel_rfl) (allP1 (Idx.of h19)) ?_
      obtain ⟨r21, h22, h⟩ := bind_of h
      refine WO_lend [(1000, 1000)] (us := [none, none]) (d := 16) (p := True) (j := 6) rfl ⟨by kernel_rfl, by kernel_rfl, by kernel_rfl⟩ trivial (pairs_wrong_1_ok h22) (by kernel_rfl) (by kernel_rfl) ?_
      refine WO_fin [0, 1, 5, 7, 8, 16] [1000] (fr' := [(0, aD (.slice (.slice tI)) a0), (1, .one (.fn 63 [(1000, 0)])), (5, aI i15), (7, aI (List.length a0 : Int)), (8, aI i15), (16, aB r21)]) (L' := [(1000, .cells [.dat (.slice (.slice tI)) c0])]) (by kernel_rfl) (by kernel_rfl) ?_
      refine seqQ_norm ?_
      refine W_cond (o := .tmp 16) (b := r21) (by kernel_rfl) (by kernel_rfl) (fun h23 => ?_) (fun h23 => ?_)
      · replace h := ofT h23 h
        refine W_seq (by kernel_rfl) ?_
        refine W_run 2 [] [4] [1000] (fr' := [(4, aI i15)]) (L' := [(1000, .cells [.dat (.slice (.slice tI)) c0])]) (obs := []) (by kernel_rfl) (by kernel_rfl) (by kernel_rfl) allP0 ?_
        refine seqQ_norm ?_
        obtain rfl := Option.some.inj h
        refine W_ret [4] [1000] (fr' := [(4, aI i15)]) (L' := [(1000, .cells [.dat (.slice (.slice tI)) c0])]) (by kernel_rfl) (by kernel_rfl) ?_
        refine blockQ_ret ?_
        refine seqQ_ret ?_
        refine round_ret ?_
        refine escQ_ret ?_
        exact exQ_mk (by kernel_rfl) (by kernel_rfl)
      · replace h := ofF h23 h
        refine W_skip [0, 1, 7, 8] [1000] (fr' := [(0, aD (.slice (.slice tI)) a0), (1, .one (.fn 63 [(1000, 0)])), (7, aI (List.length a0 : Int)), (8, aI i15)]) (L' := [(1000, .cells [.dat (.slice (.slice tI)) c0])]) (by kernel_rfl) (by kernel_rfl) ?_
        refine blockQ_norm ?_
        refine seqQ_norm ?_
        obtain rfl := Option.some.inj h
        refine W_run 2 [] [0, 1, 7, 8] [1000] (fr' := [(0, aD (.slice (.slice tI)) a0), (1, .one (.fn 63 [(1000, 0)])), (7, aI (List.length a0 : Int)), (8, aI (w64 (i15 + (1 : Int))))]) (L' := [(1000, .cells [.dat (.slice (.slice tI)) c0])]) (obs := []) (by kernel_rfl) (by kernel_rfl) (by kernel_rfl) allP0 ?_
        exact round_next' (by kernel_rfl) (by kernel_rfl)
    · obtain rfl := stepL_false h20 h
      refine W_exit (id := 0) [] [1000] (fr' := []) (L' := [(1000, .cells [.dat (.slice (.slice tI)) c0])]) (by kernel_rfl) (by kernel_rfl) ?_
      refine seqQ_exit ?_
      refine round_exit ?_
      refine escQ_brk ?_
      exact exQ_mk (by kernel_rfl) (by kernel_rfl)
  · intro e fr L hJ
    rcases v25 with v30 | v31
    · obtain ⟨rfl, rfl, rfl⟩ := hJ
      obtain rfl := Option.some.inj h
      refine LT_keep [4] [1000] (fr' := [(4, aI v30)]) (L' := [(1000, .cells [.dat (.slice (.slice tI)) c0])]) (by kernel_rfl) ?_
      refine blockQ_ret ?_
      refine seqQ_ret ?_
      exact retQ_mk (by kernel_rfl) (by kernel_rfl) (by kernel_rfl)
    · obtain ⟨rfl, rfl, rfl⟩ := hJ
      refine LT_keep [] [1000] (fr' := []) (L' := [(1000, .cells [.dat (.slice (.slice tI)) c0])]) (by kernel_rfl) ?_
      refine blockQ_hit ?_
      refine seqQ_norm ?_
      refine W_seq (by kernel_rfl) ?_
      refine W_run 1 [] [4] [1000] (fr' := [(4, aI (-1 : Int))]) (L' := [(1000, .cells [.dat (.slice (.slice tI)) c0])]) (obs := []) (by kernel_rfl) (by kernel_rfl) (by kernel_rfl) allP0 ?_
      refine seqQ_norm ?_
      obtain rfl := Option.some.inj h
      refine W_ret [4] [1000] (fr' := [(4, aI (-1 : Int))]) (L' := [(1000, .cells [.dat (.slice (.slice tI)) c0])]) (by kernel_rfl) (by kernel_rfl) ?_
      exact retQ_mk (by kernel_rfl) (by kernel_rfl) (by kernel_rfl)

def slices_ContainsFunc_LLintLint_with_pairs_wrong_1 (a0 : (List (List Int))) (c0 : (List (List Int))) : Option Bool :=
(slices_IndexFunc_LLintLint_with_pairs_wrong_1 a0 c0).bind fun r1 =>
some (decide (r1 ≥ (0 : Int)))
theorem slices_ContainsFunc_LLintLint_with_pairs_wrong_1_ok {a0 : (List (List Int))} {c0 : (List (List Int))} {r : Bool} (h : slices_ContainsFunc_LLintLint_with_pairs_wrong_1 a0 c0 = some r) : FnC Try.prog 62 [aD (.slice (.slice tI)) a0, .one (.fn 63 [(1000, 0)])] [(1000, .cells [.dat (.slice (.slice tI)) c0])] (aB r) [(1000, .cells [.dat (.slice (.slice tI)) c0])] := by
  refine fnC_of_W (B := bodyOf Try.f62) (n := 9) Try.func62 (by kernel_rfl) (by kernel_rfl) (by kernel_rfl) (by kernel_rfl) (by kernel_rfl) ?_
  intro K
  refine W_seq (by kernel_rfl) ?_
  refine W_run 1 [] [0, 1] [1000] (fr' := [(0, aD (.slice (.slice tI)) a0), (1, .one (.fn 63 [(1000, 0)]))]) (L' := [(1000, .cells [.dat (.slice (.slice tI)) c0])]) (obs := []) (by kernel_rfl) (by kernel_rfl) (by kernel_rfl) allP0 ?_
  refine seqQ_norm ?_
  refine W_seq (by kernel_rfl) ?_
  refine W_region (by kernel_rfl) ?_
  refine WO_run (j := 2) (k := 2) (orcs := []) (kF := [5, 6]) (kL := [1000]) (fr' := [(5, aD (.slice (.slice tI)) a0), (6, .one (.fn 63 [(1000, 0)]))]) (L' := [(1000, .cells [.dat (.slice (.slice tI)) c0])]) (obs := []) rfl (by kernel_rfl) allP0 ?_
  obtain ⟨r1, h2, h⟩ := bind_of h
  refine WO_lend [(1000, 1000)] (us := [none, none]) (d := 7) (p := True) (j := 3) rfl ⟨by kernel_rfl, by kernel_rfl, by kernel_rfl⟩ trivial (slices_IndexFunc_LLintLint_with_pairs_wrong_1_ok h2) (by kernel_rfl) (by kernel_rfl) ?_
  refine WO_run (j := 5) (k := 2) (orcs := []) (kF := [4]) (kL := [1000]) (fr' := [(4, aB (decide (r1 ≥ (0 : Int))))]) (L' := [(1000, .cells [.dat (.slice (.slice tI)) c0])]) (obs := []) rfl (by kernel_rfl) allP0 ?_
  refine WO_fin [4] [1000] (fr' := [(4, aB (decide (r1 ≥ (0 : Int))))]) (L' := [(1000, .cells [.dat (.slice (.slice tI)) c0])]) (by kernel_rfl) (by kernel_rfl) ?_
  refine seqQ_norm ?_
  obtain rfl := Option.some.inj h
  refine W_ret [4] [1000] (fr' := [(4, aB (decide (r1 ≥ (0 : Int))))]) (L' := [(1000, .cells [.dat (.slice (.slice tI)) c0])]) (by kernel_rfl) (by kernel_rfl) ?_
  exact retQ_mk (by kernel_rfl) (by kernel_rfl) (by kernel_rfl)

@[reducible] def slices_Grow_Lintint_s2 (v : (List Int)) : Fr × LL := ([(0, .one (.slc 22))], [(22, .seq tI v)])
def slices_Grow_Lintint (a1 : Int) : Option (List Int) :=
bif decide (a1 < (0 : Int)) then
(none)
else
((bif decide ((w64 (a1 - (0 : Int))) > (0 : Int)) then
((ck (0 ≤ w64 (a1 - (0 : Int)) ∧ w64 (a1 - (0 : Int)) ≤ 4294967296)).bind fun _ =>
some [])
else
(some [])).bind fun v19 =>
some v19)
theorem slices_Grow_Lintint_ok {a1 : Int} {r : (List Int)} (h : slices_Grow_Lintint a1 = some r) : FnC Try.prog 69 [.one (.nilS), aI a1] [] (.one (.slc 22)) [(22, .seq tI r)] := by
  refine fnC_of_W (B := bodyOf Try.f69) (n := 27) Try.func69 (by kernel_rfl) (by kernel_rfl) (by kernel_rfl) (by kernel_rfl) (by kernel_rfl) ?_
  intro K
  refine W_seq (by kernel_rfl) ?_
  refine W_run 1 [] [0, 1] [] (fr' := [(0, .one (.nilS)), (1, aI a1)]) (L' := []) (obs := []) (by kernel_rfl) (by kernel_rfl) (by kernel_rfl) allP0 ?_
  refine seqQ_norm ?_
  refine W_seq (by kernel_rfl) ?_
  refine W_seq (by kernel_rfl) ?_
  refine W_run 2 [] [0, 1, 6] [] (fr' := [(0, .one (.nilS)), (1, aI a1), (6, aB (decide (a1 < (0 : Int))))]) (L' := []) (obs := []) (by kernel_rfl) (by kernel_rfl) (by kernel_rfl) allP0 ?_
  refine seqQ_norm ?_
  refine W_cond (o := .tmp 6) (b := decide (a1 < (0 : Int))) (by kernel_rfl) (by kernel_rfl) (fun h12 => ?_) (fun h12 => ?_)
  · replace h := ofT h12 h
    cases h
  · replace h := ofF h12 h
    refine W_skip [0, 1] [] (fr' := [(0, .one (.nilS)), (1, aI a1)]) (L' := []) (by kernel_rfl) (by kernel_rfl) ?_
    refine seqQ_norm ?_
    refine W_seq (by kernel_rfl) ?_
    obtain ⟨v19, h20, h⟩ := bind_of h
    refine W_cutK (Q' := (exQ .normal slices_Grow_Lintint_s2) v19) ?_ ?_
    · replace h := h20
      refine W_seq (by kernel_rfl) ?_
      refine W_region (by kernel_rfl) ?_
      refine WO_run (j := 2) (k := 2) (orcs := []) (kF := [0, 1, 8, 9]) (kL := []) (fr' := [(0, .one (.nilS)), (1, aI a1), (8, aI a1), (9, .one (.nilS))]) (L' := []) (obs := []) rfl (by kernel_rfl) allP0 ?_
      refine WO_g [0, 1, 8, 9, 10] [] (fr' := [(0, .one (.nilS)), (1, aI a1), (8, aI a1), (9, .one (.nilS)), (10, aI (0 : Int))]) (L' := []) (p := True) (j := 3) rfl (by kernel_rfl) trivial ?_
      refine WO_run (j := 8) (k := 5) (orcs := []) (kF := [0, 1]) (kL := []) (fr' := [(0, .one (.nilS)), (1, aI (w64 (a1 - (0 : Int))))]) (L' := []) (obs := []) rfl (by kernel_rfl) allP0 ?_
      refine WO_fin [0, 1] [] (fr' := [(0, .one (.nilS)), (1, aI (w64 (a1 - (0 : Int))))]) (L' := []) (by kernel_rfl) (by kernel_rfl) ?_
      refine seqQ_norm ?_
      refine W_seq (by kernel_rfl) ?_
      refine W_run 2 [] [0, 1, 16] [] (fr' := [(0, .one (.nilS)), (1, aI (w64 (a1 - (0 : Int)))), (16, aB (decide ((w64 (a1 - (0 : Int))) > (0 : Int))))]) (L' := []) (obs := []) (by kernel_rfl) (by kernel_rfl) (by kernel_rfl) allP0 ?_
      refine seqQ_norm ?_
      refine W_cond (o := .tmp 16) (b := decide ((w64 (a1 - (0 : Int))) > (0 : Int))) (by kernel_rfl) (by kernel_rfl) (fun h17 => ?_) (fun h17 => ?_)
      · replace h := ofT h17 h
        refine W_region (by kernel_rfl) ?_
        refine WO_run (j := 2) (k := 2) (orcs := []) (kF := [0, 1, 17, 18]) (kL := []) (fr' := [(0, .one (.nilS)), (1, aI (w64 (a1 - (0 : Int)))), (17, .one (.nilS)), (18, .one (.nilS))]) (L' := []) (obs := []) rfl (by kernel_rfl) allP0 ?_
        refine WO_g [0, 1, 17, 18, 19] [] (fr' := [(0, .one (.nilS)), (1, aI (w64 (a1 - (0 : Int)))), (17, .one (.nilS)), (18, .one (.nilS)), (19, aI (0 : Int))]) (L' := []) (p := True) (j := 3) rfl (by kernel_rfl) trivial ?_
        refine WO_g [0, 1, 17, 18, 19, 20] [] (fr' := [(0, .one (.nilS)), (1, aI (w64 (a1 - (0 : Int)))), (17, .one (.nilS)), (18, .one (.nilS)), (19, aI (0 : Int)), (20, .one (.nilS))]) (L' := []) (p := True) (j := 4) rfl (by kernel_rfl) trivial ?_
        obtain ⟨_, h18, h⟩ := bind_of h
        replace h18 := ck_some h18
        refine WO_run (j := 5) (k := 1) (orcs := []) (kF := [0, 20, 21]) (kL := []) (fr' := [(0, .one (.nilS)), (20, .one (.nilS)), (21, aI (w64 (a1 - (0 : Int))))]) (L' := []) (obs := []) rfl (by kernel_rfl) allP0 ?_
        refine WO_g [0, 20, 21, 22] [22] (fr' := [(0, .one (.nilS)), (20, .one (.nilS)), (21, aI (w64 (a1 - (0 : Int)))), (22, .one (.slc 22))]) (L' := [(22, .seq tI (List.replicate (Int.toNat (w64 (a1 - (0 : Int)))) (0 : Int)))]) (p := 0 ≤ w64 (a1 - (0 : Int)) ∧ SmallLen (w64 (a1 - (0 : Int)))) (j := 6) rfl (by kernel_rfl) h18 ?_
        refine WO_run (j := 8) (k := 2) (orcs := []) (kF := [0, 22, 24]) (kL := [22]) (fr' := [(0, .one (.nilS)), (22, .one (.slc 22)), (24, aI (0 : Int))]) (L' := [(22, .seq tI (List.replicate (Int.toNat (w64 (a1 - (0 : Int)))) (0 : Int)))]) (obs := []) rfl (by kernel_rfl) allP0 ?_
        refine WO_g [0, 24, 25] [22] (fr' := [(0, .one (.nilS)), (24, aI (0 : Int)), (25, .one (.slc 22))]) (L' := [(22, .seq tI [])]) (p := 0 ≤ (0 : Int) ∧ (0 : Int) ≤ (List.length (List.replicate (Int.toNat (w64 (a1 - (0 : Int)))) (0 : Int) : (List Int)) : Int)) (j := 9) rfl (by kernel_rfl) ⟨(by decide), (by omega)⟩ ?_
        refine WO_run (j := 10) (k := 1) (orcs := []) (kF := [0]) (kL := [22]) (fr' := [(0, .one (.slc 22))]) (L' := [(22, .seq tI [])]) (obs := []) rfl (by kernel_rfl) allP0 ?_
        obtain rfl := Option.some.inj h
        refine WO_fin [0] [22] (fr' := [(0, .one (.slc 22))]) (L' := [(22, .seq tI [])]) (by kernel_rfl) (by kernel_rfl) ?_
        exact exQ_mk (by kernel_rfl) (by kernel_rfl)
      · replace h := ofF h17 h
        obtain rfl := Option.some.inj h
        refine W_mine 0 22 tI (by kernel_rfl) ?_
        refine W_skip [0] [22] (fr' := [(0, .one (.slc 22))]) (L' := [(22, .seq tI [])]) (by kernel_rfl) (by kernel_rfl) ?_
        exact exQ_mk (by kernel_rfl) (by kernel_rfl)
    · intro e fr L hJ
      obtain ⟨rfl, rfl, rfl⟩ := hJ
      refine LT_keep [0] [22] (fr' := [(0, .one (.slc 22))]) (L' := [(22, .seq tI v19)]) (by kernel_rfl) ?_
      refine seqQ_norm ?_
      refine W_seq (by kernel_rfl) ?_
      refine W_run 2 [] [4] [22] (fr' := [(4, .one (.slc 22))]) (L' := [(22, .seq tI v19)]) (obs := []) (by kernel_rfl) (by kernel_rfl) (by kernel_rfl) allP0 ?_
      refine seqQ_norm ?_
      obtain rfl := Option.some.inj h
      refine W_ret [4] [22] (fr' := [(4, .one (.slc 22))]) (L' := [(22, .seq tI v19)]) (by kernel_rfl) (by kernel_rfl) ?_
      exact retQ_mk (by kernel_rfl) (by kernel_rfl) (by kernel_rfl)

def slices_Concat_Lintint_b7 (i72 : Int) (v75 : (List Int)) (x73 : Int) : Option (Flow Int Int) :=
bif decide ((w64 (x73 + (List.length v75 : Int))) < (0 : Int)) then
(none)
else
(some (.next (w64 (x73 + (List.length v75 : Int)))))
@[reducible] def slices_Concat_Lintint_s8 (a0 : (List (List Int))) (v : Int × Int) : Fr × LL := ([(0, aD (.slice (.slice tI)) a0), (3, aI v.2), (9, aD (.slice (.slice tI)) a0), (10, aI (List.length a0 : Int)), (11, aI v.1)], [])
@[reducible] def slices_Concat_Lintint_s9 (a0 : (List (List Int))) (v : Int) : Fr × LL := ([(0, aD (.slice (.slice tI)) a0), (3, aI v)], [])
def slices_Concat_Lintint_b10 (i98 : Int) (v101 : (List Int)) (x99 : (List Int)) : Option (Flow (List Int) (List Int)) :=
(ck ((List.length x99 : Int) + (List.length v101 : Int) ≤ 4294967296)).bind fun _ =>
some (.next (x99 ++ v101))
@[reducible] def slices_Concat_Lintint_s11 (a0 : (List (List Int))) (v : Int × (List Int)) : Fr × LL := ([(6, .one (.slc 24)), (25, aD (.slice (.slice tI)) a0), (26, aI (List.length a0 : Int)), (27, aI v.1)], [(24, .seq tI v.2)])
@[reducible] def slices_Concat_Lintint_s12 (v : (List Int)) : Fr × LL := ([(6, .one (.slc 24))], [(24, .seq tI v)])
def slices_Concat_Lintint (a0 : (List (List Int))) : Option (List Int) :=
(forL slices_Concat_Lintint_b7 (fun x73 => x73) a0 0 (0 : Int)).bind fun v81 =>
(slices_Grow_Lintint v81).bind fun r86 =>
(forL slices_Concat_Lintint_b10 (fun x99 => x99) a0 0 r86).bind fun v106 =>
some v106
theorem slices_Concat_Lintint_ok {a0 : (List (List Int))} {r : (List Int)} (h : slices_Concat_Lintint a0 = some r) : FnC Try.prog 65 [aD (.slice (.slice tI)) a0] [] (.one (.slc 24)) [(24, .seq tI r)] := by
  refine fnC_of_W (B := bodyOf Try.f65) (n := 36) Try.func65 (by kernel_rfl) (by kernel_rfl) (by kernel_rfl) (by kernel_rfl) (by kernel_rfl) ?_
  intro K
  refine W_seq (by kernel_rfl) ?_
  refine W_run 1 [] [0] [] (fr' := [(0, aD (.slice (.slice tI)) a0)]) (L' := []) (obs := []) (by kernel_rfl) (by kernel_rfl) (by kernel_rfl) allP0 ?_
  refine seqQ_norm ?_
  refine W_seq (by kernel_rfl) ?_
  refine W_run 1 [] [0, 3] [] (fr' := [(0, aD (.slice (.slice tI)) a0), (3, aI (0 : Int))]) (L' := []) (obs := []) (by kernel_rfl) (by kernel_rfl) (by kernel_rfl) allP0 ?_
  refine seqQ_norm ?_
  refine W_seq (by kernel_rfl) ?_
  refine W_seq (by kernel_rfl) ?_
  refine W_run 3 [] [0, 3, 9, 10, 11] [] (fr' := [(0, aD (.slice (.slice tI)) a0), (3, aI (0 : Int)), (9, aD (.slice (.slice tI)) a0), (10, aI (List.length a0 : Int)), (11, aI (0 : Int))]) (L' := []) (obs := []) (by kernel_rfl) (by kernel_rfl) (by kernel_rfl) allP0 ?_
  refine seqQ_norm ?_
  refine W_block (id := 0) (by kernel_rfl) ?_
  obtain ⟨v81, h82, h⟩ := bind_of h
  refine W_len (t := 9) (u := (.slice tI)) (xs := a0) (by kernel_rfl) (fun h85 => ?_)
  obtain ⟨h83, h84⟩ := forL_iter h85 h82
  refine W_weaken [0, 3, 9, 10, 11] [] (fr' := ((slices_Concat_Lintint_s8 a0) ((0 : Int), (0 : Int))).1) (L' := ((slices_Concat_Lintint_s8 a0) ((0 : Int), (0 : Int))).2) (by kernel_rfl) ?_
  refine W_cutK (W_loop (S := (slices_Concat_Lintint_s8 a0)) (J := (exQ (.exit 0) (slices_Concat_Lintint_s9 a0))) (by kernel_rfl) ?_ h83 _ v81 h84) ?_
  · rintro ⟨i72, x73⟩ s h
    refine W_seq (by kernel_rfl) ?_
    refine W_run 1 [] [0, 3, 9, 10, 11, 12] [] (fr' := [(0, aD (.slice (.slice tI)) a0), (3, aI x73), (9, aD (.slice (.slice tI)) a0), (10, aI (List.length a0 : Int)), (11, aI i72), (12, aB (decide (i72 < (List.length a0 : Int))))]) (L' := []) (obs := []) (by kernel_rfl) (by kernel_rfl) (by kernel_rfl) allP0 ?_
    refine seqQ_norm ?_
    refine W_seq (by kernel_rfl) ?_
    refine W_cond (o := .tmp 12) (b := decide (i72 < (List.length a0 : Int))) (by kernel_rfl) (by kernel_rfl) (fun h77 => ?_) (fun h77 => ?_)
    · replace h := stepL_true h77 h
      obtain ⟨v75, _, h76, h, rfl⟩ := h
      refine W_skip [0, 3, 9, 10, 11] [] (fr' := [(0, aD (.slice (.slice tI)) a0), (3, aI x73), (9, aD (.slice (.slice tI)) a0), (10, aI (List.length a0 : Int)), (11, aI i72)]) (L' := []) (by kernel_rfl) (by kernel_rfl) ?_
      refine seqQ_norm ?_
      refine W_seq (by kernel_rfl) ?_
      refine W_block (id := 1) (by kernel_rfl) ?_
      refine W_seq (by kernel_rfl) ?_
      refine W_run 3 [(1, .val (.dat (.slice tI) v75))] [0, 3, 5, 9, 10, 11] [] (fr' := [(0, aD (.slice (.slice tI)) a0), (3, aI x73), (5, aD (.slice tI) v75), (9, aD (.slice (.slice tI)) a0), (10, aI (List.length a0 : Int)), (11, aI i72)]) (L' := []) (obs := [Idx a0 i72 v75]) (by kernel_rfl) (by kernel_rfl) (by kernel_rfl) (allP1 (Idx.of h76)) ?_
      refine seqQ_norm ?_
      refine W_seq (by kernel_rfl) ?_
      refine W_run 5 [] [0, 3, 9, 10, 11] [] (fr' := [(0, aD (.slice (.slice tI)) a0), (3, aI (w64 (x73 + (List.length v75 : Int)))), (9, aD (.slice (.slice tI)) a0), (10, aI (List.length a0 : Int)), (11, aI i72)]) (L' := []) (obs := []) (by kernel_rfl) (by kernel_rfl) (by kernel_rfl) allP0 ?_
      refine seqQ_norm ?_
      refine W_seq (by kernel_rfl) ?_
      refine W_run 2 [] [0, 3, 9, 10, 11, 20] [] (fr' := [(0, aD (.slice (.slice tI)) a0), (3, aI (w64 (x73 + (List.length v75 : Int)))), (9, aD (.slice (.slice tI)) a0), (10, aI (List.length a0 : Int)), (11, aI i72), (20, aB (decide ((w64 (x73 + (List.length v75 : Int))) < (0 : Int))))]) (L' := []) (obs := []) (by kernel_rfl) (by kernel_rfl) (by kernel_rfl) allP0 ?_
      refine seqQ_norm ?_
      refine W_cond (o := .tmp 20) (b := decide ((w64 (x73 + (List.length v75 : Int))) < (0 : Int))) (by kernel_rfl) (by kernel_rfl) (fun h79 => ?_) (fun h79 => ?_)
      · replace h := ofT h79 h
        cases h
      · replace h := ofF h79 h
        refine W_skip [0, 3, 9, 10, 11] [] (fr' := [(0, aD (.slice (.slice tI)) a0), (3, aI (w64 (x73 + (List.length v75 : Int)))), (9, aD (.slice (.slice tI)) a0), (10, aI (List.length a0 : Int)), (11, aI i72)]) (L' := []) (by kernel_rfl) (by kernel_rfl) ?_
        refine blockQ_norm ?_
        refine seqQ_norm ?_
        obtain rfl := Option.some.inj h
        refine W_run 2 [] [0, 3, 9, 10, 11] [] (fr' := [(0, aD (.slice (.slice tI)) a0), (3, aI (w64 (x73 + (List.length v75 : Int)))), (9, aD (.slice (.slice tI)) a0), (10, aI (List.length a0 : Int)), (11, aI (w64 (i72 + (1 : Int))))]) (L' := []) (obs := []) (by kernel_rfl) (by kernel_rfl) (by kernel_rfl) allP0 ?_
        exact round_next' (by kernel_rfl) (by kernel_rfl)
    · obtain rfl := stepL_false h77 h
      refine W_exit (id := 0) [0, 3] [] (fr' := [(0, aD (.slice (.slice tI)) a0), (3, aI x73)]) (L' := []) (by kernel_rfl) (by kernel_rfl) ?_
      refine seqQ_exit ?_
      refine round_exit ?_
      exact exQ_mk (by kernel_rfl) (by kernel_rfl)
  · intro e fr L hJ
    obtain ⟨rfl, rfl, rfl⟩ := hJ
    refine LT_keep [0, 3] [] (fr' := [(0, aD (.slice (.slice tI)) a0), (3, aI v81)]) (L' := []) (by kernel_rfl) ?_
    refine blockQ_hit ?_
    refine seqQ_norm ?_
    refine W_seq (by kernel_rfl) ?_
    refine W_region (by kernel_rfl) ?_
    refine WO_run (j := 1) (k := 1) (orcs := []) (kF := [0, 23]) (kL := []) (fr' := [(0, aD (.slice (.slice tI)) a0), (23, aI v81)]) (L' := []) (obs := []) rfl (by kernel_rfl) allP0 ?_
    obtain ⟨r86, h87, h⟩ := bind_of h
    refine WO_call1 (us := [none, none]) (d := 24) (t := 24) (p := True) (j := 2) rfl ⟨by kernel_rfl, by kernel_rfl, by kernel_rfl⟩ trivial (slices_Grow_Lintint_ok h87) (by kernel_rfl) ?_
    refine WO_run (j := 3) (k := 1) (orcs := []) (kF := [0, 6]) (kL := [24]) (fr' := [(0, aD (.slice (.slice tI)) a0), (6, .one (.slc 24))]) (L' := [(24, .seq tI r86)]) (obs := []) rfl (by kernel_rfl) allP0 ?_
    refine WO_fin [0, 6] [24] (fr' := [(0, aD (.slice (.slice tI)) a0), (6, .one (.slc 24))]) (L' := [(24, .seq tI r86)]) (by kernel_rfl) (by kernel_rfl) ?_
    refine seqQ_norm ?_
    refine W_seq (by kernel_rfl) ?_
    refine W_seq (by kernel_rfl) ?_
    refine W_run 3 [] [6, 25, 26, 27] [24] (fr' := [(6, .one (.slc 24)), (25, aD (.slice (.slice tI)) a0), (26, aI (List.length a0 : Int)), (27, aI (0 : Int))]) (L' := [(24, .seq tI r86)]) (obs := []) (by kernel_rfl) (by kernel_rfl) (by kernel_rfl) allP0 ?_
    refine seqQ_norm ?_
    refine W_block (id := 2) (by kernel_rfl) ?_
    obtain ⟨v106, h107, h⟩ := bind_of h
    refine W_len (t := 25) (u := (.slice tI)) (xs := a0) (by kernel_rfl) (fun h110 => ?_)
    obtain ⟨h108, h109⟩ := forL_iter h110 h107
    refine W_weaken [6, 25, 26, 27] [24] (fr' := ((slices_Concat_Lintint_s11 a0) ((0 : Int), r86)).1) (L' := ((slices_Concat_Lintint_s11 a0) ((0 : Int), r86)).2) (by kernel_rfl) ?_
    refine W_cutK (W_loop (S := (slices_Concat_Lintint_s11 a0)) (J := (exQ (.exit 2) slices_Concat_Lintint_s12)) (by kernel_rfl) ?_ h108 _ v106 h109) ?_
    · rintro ⟨i98, x99⟩ s h
      refine W_seq (by kernel_rfl) ?_
      refine W_run 1 [] [6, 25, 26, 27, 28] [24] (fr' := [(6, .one (.slc 24)), (25, aD (.slice (.slice tI)) a0), (26, aI (List.length a0 : Int)), (27, aI i98), (28, aB (decide (i98 < (List.length a0 : Int))))]) (L' := [(24, .seq tI x99)]) (obs := []) (by kernel_rfl) (by kernel_rfl) (by kernel_rfl) allP0 ?_
      refine seqQ_norm ?_
      refine W_seq (by kernel_rfl) ?_
      refine W_cond (o := .tmp 28) (b := decide (i98 < (List.length a0 : Int))) (by kernel_rfl) (by kernel_rfl) (fun h103 => ?_) (fun h103 => ?_)
      · replace h := stepL_true h103 h
        obtain ⟨v101, _, h102, h, rfl⟩ := h
        refine W_skip [6, 25, 26, 27] [24] (fr' := [(6, .one (.slc 24)), (25, aD (.slice (.slice tI)) a0), (26, aI (List.length a0 : Int)), (27, aI i98)]) (L' := [(24, .seq tI x99)]) (by kernel_rfl) (by kernel_rfl) ?_
        refine seqQ_norm ?_
        refine W_seq (by kernel_rfl) ?_
        refine W_block (id := 3) (by kernel_rfl) ?_
        refine W_seq (by kernel_rfl) ?_
        refine W_run 3 [(1, .val (.dat (.slice tI) v101))] [6, 8, 25, 26, 27] [24] (fr' := [(6, .one (.slc 24)), (8, aD (.slice tI) v101), (25, aD (.slice (.slice tI)) a0), (26, aI (List.length a0 : Int)), (27, aI i98)]) (L' := [(24, .seq tI x99)]) (obs := [Idx a0 i98 v101]) (by kernel_rfl) (by kernel_rfl) (by kernel_rfl) (allP1 (Idx.of h102)) ?_
        refine seqQ_norm ?_
        obtain ⟨_, h104, h⟩ := bind_of h
        replace h104 := ck_some h104
        refine W_run 4 [] [6, 25, 26, 27] [24] (fr' := [(6, .one (.slc 24)), (25, aD (.slice (.slice tI)) a0), (26, aI (List.length a0 : Int)), (27, aI i98)]) (L' := [(24, .seq tI (x99 ++ v101))]) (obs := [SmallLen (List.length x99 + List.length v101)]) (by kernel_rfl) (by kernel_rfl) (by kernel_rfl) (allP1 h104) ?_
        refine blockQ_norm ?_
        refine seqQ_norm ?_
        obtain rfl := Option.some.inj h
        refine W_run 2 [] [6, 25, 26, 27] [24] (fr' := [(6, .one (.slc 24)), (25, aD (.slice (.slice tI)) a0), (26, aI (List.length a0 : Int)), (27, aI (w64 (i98 + (1 : Int))))]) (L' := [(24, .seq tI (x99 ++ v101))]) (obs := []) (by kernel_rfl) (by kernel_rfl) (by kernel_rfl) allP0 ?_
        exact round_next' (by kernel_rfl) (by kernel_rfl)
      · obtain rfl := stepL_false h103 h
        refine W_exit (id := 2) [6] [24] (fr' := [(6, .one (.slc 24))]) (L' := [(24, .seq tI x99)]) (by kernel_rfl) (by kernel_rfl) ?_
        refine seqQ_exit ?_
        refine round_exit ?_
        exact exQ_mk (by kernel_rfl) (by kernel_rfl)
    · intro e fr L hJ
      obtain ⟨rfl, rfl, rfl⟩ := hJ
      refine LT_keep [6] [24] (fr' := [(6, .one (.slc 24))]) (L' := [(24, .seq tI v106)]) (by kernel_rfl) ?_
      refine blockQ_hit ?_
      refine seqQ_norm ?_
      refine W_seq (by kernel_rfl) ?_
      refine W_run 2 [] [2] [24] (fr' := [(2, .one (.slc 24))]) (L' := [(24, .seq tI v106)]) (obs := []) (by kernel_rfl) (by kernel_rfl) (by kernel_rfl) allP0 ?_
      refine seqQ_norm ?_
      obtain rfl := Option.some.inj h
      refine W_ret [2] [24] (fr' := [(2, .one (.slc 24))]) (L' := [(24, .seq tI v106)]) (by kernel_rfl) (by kernel_rfl) ?_
      exact retQ_mk (by kernel_rfl) (by kernel_rfl) (by kernel_rfl)

def pairs_wrong_2 (a0 : Int) : Option Bool :=
some ((decide (a0 < (-20 : Int))) || (decide (a0 > (20 : Int))))
theorem pairs_wrong_2_ok {a0 : Int} {r : Bool} (h : pairs_wrong_2 a0 = some r) : FnC Try.prog 66 [aI a0] [] (aB r) [] := by
  refine fnC_of_W (B := bodyOf Try.f66) (n := 9) Try.func66 (by kernel_rfl) (by kernel_rfl) (by kernel_rfl) (by kernel_rfl) (by kernel_rfl) ?_
  intro K
  refine W_seq (by kernel_rfl) ?_
  refine W_run 1 [] [0] [] (fr' := [(0, aI a0)]) (L' := []) (obs := []) (by kernel_rfl) (by kernel_rfl) (by kernel_rfl) allP0 ?_
  refine seqQ_norm ?_
  refine W_seq (by kernel_rfl) ?_
  refine W_run 7 [] [2] [] (fr' := [(2, aB ((decide (a0 < (-20 : Int))) || (decide (a0 > (20 : Int)))))]) (L' := []) (obs := []) (by kernel_rfl) (by kernel_rfl) (by kernel_rfl) allP0 ?_
  refine seqQ_norm ?_
  obtain rfl := Option.some.inj h
  refine W_ret [2] [] (fr' := [(2, aB ((decide (a0 < (-20 : Int))) || (decide (a0 > (20 : Int)))))]) (L' := []) (by kernel_rfl) (by kernel_rfl) ?_
  exact retQ_mk (by kernel_rfl) (by kernel_rfl) (by kernel_rfl)

def slices_IndexFunc_Lintint_with_pairs_wrong_2_b1 (i15 : Int) (v18 : Int) (x16 : Unit) : Option (Flow Unit (Esc Int Unit)) :=
(pairs_wrong_2 v18).bind fun r21 =>
bif r21 then
(some (.done (.ret i15)))
else
(some (.next ()))
@[reducible] def slices_IndexFunc_Lintint_with_pairs_wrong_2_s2 (a0 : (List Int)) (v : Int × Unit) : Fr × LL := ([(0, aD (.slice tI) a0), (1, .one (.fn 66 [])), (7, aI (List.length a0 : Int)), (8, aI v.1)], [])
@[reducible] def slices_IndexFunc_Lintint_with_pairs_wrong_2_s3 (v : Int) : Fr × LL := ([(4, aI v)], [])
@[reducible] def slices_IndexFunc_Lintint_with_pairs_wrong_2_s4 (v : Unit) : Fr × LL := ([], [])
def slices_IndexFunc_Lintint_with_pairs_wrong_2 (a0 : (List Int)) : Option Int :=
(forL slices_IndexFunc_Lintint_with_pairs_wrong_2_b1 (fun x16 => (.brk ())) a0 0 ()).bind fun v25 =>
match v25 with
| .ret v30 =>
(some v30)
| .brk v31 =>
(some (-1 : Int))
theorem slices_IndexFunc_Lintint_with_pairs_wrong_2_ok {a0 : (List Int)} {r : Int} (h : slices_IndexFunc_Lintint_with_pairs_wrong_2 a0 = some r) : FnC Try.prog 68 [aD (.slice tI) a0, .one (.fn 66 [])] [] (aI r) [] := by
  refine fnC_of_W (B := bodyOf Try.f68) (n := 19) Try.func68 (by kernel_rfl) (by kernel_rfl) (by kernel_rfl) (by kernel_rfl) (by kernel_rfl) ?_
  intro K
  refine W_seq (by kernel_rfl) ?_
  refine W_run 1 [] [0, 1] [] (fr' := [(0, aD (.slice tI) a0), (1, .one (.fn 66 []))]) (L' := []) (obs := []) (by kernel_rfl) (by kernel_rfl) (by kernel_rfl) allP0 ?_
  refine seqQ_norm ?_
  refine W_seq (by kernel_rfl) ?_
  refine W_seq (by kernel_rfl) ?_
  refine W_run 3 [] [0, 1, 7, 8] [] (fr' := [(0, aD (.slice tI) a0), (1, .one (.fn 66 [])), (7, aI (List.length a0 : Int)), (8, aI (0 : Int))]) (L' := []) (obs := []) (by kernel_rfl) (by kernel_rfl) (by kernel_rfl) allP0 ?_
  refine seqQ_norm ?_
  refine W_block (id := 0) (by kernel_rfl) ?_
  obtain ⟨v25, h26, h⟩ := bind_of h
  refine W_len (t := 0) (u := tI) (xs := a0) (by kernel_rfl) (fun h29 => ?_)
  obtain ⟨h27, h28⟩ := forL_iter h29 h26
  refine W_weaken [0, 1, 7, 8] [] (fr' := ((slices_IndexFunc_Lintint_with_pairs_wrong_2_s2 a0) ((0 : Int), ())).1) (L' := ((slices_IndexFunc_Lintint_with_pairs_wrong_2_s2 a0) ((0 : Int), ())).2) (by kernel_rfl) ?_
  refine W_cutK (W_loop (S := (slices_IndexFunc_Lintint_with_pairs_wrong_2_s2 a0)) (J := (escQ (exQ .ret slices_IndexFunc_Lintint_with_pairs_wrong_2_s3) (exQ (.exit 0) slices_IndexFunc_Lintint_with_pairs_wrong_2_s4))) (by kernel_rfl) ?_ h27 _ v25 h28) ?_
  · rintro ⟨i15, x16⟩ s h
    refine W_seq (by kernel_rfl) ?_
    refine W_run 1 [] [0, 1, 7, 8, 9] [] (fr' := [(0, aD (.slice tI) a0), (1, .one (.fn 66 [])), (7, aI (List.length a0 : Int)), (8, aI i15), (9, aB (decide (i15 < (List.length a0 : Int))))]) (L' := []) (obs := []) (by kernel_rfl) (by kernel_rfl) (by kernel_rfl) allP0 ?_
    refine seqQ_norm ?_
    refine W_seq (by kernel_rfl) ?_
    refine W_cond (o := .tmp 9) (b := decide (i15 < (List.length a0 : Int))) (by kernel_rfl) (by kernel_rfl) (fun h20 => ?_) (fun h20 => ?_)
    · replace h := stepL_true h20 h
      obtain ⟨v18, _, h19, h, rfl⟩ := h
      refine W_skip [0, 1, 7, 8] [] (fr' := [(0, aD (.slice tI) a0), (1, .one (.fn 66 [])), (7, aI (List.length a0 : Int)), (8, aI i15)]) (L' := []) (by kernel_rfl) (by kernel_rfl) ?_
      refine seqQ_norm ?_
      refine W_seq (by kernel_rfl) ?_
      refine W_block (id := 1) (by kernel_rfl) ?_
      refine W_seq (by kernel_rfl) ?_
      refine W_run 2 [] [0, 1, 5, 7, 8] [] (fr' := [(0, aD (.slice tI) a0), (1, .one (.fn 66 [])), (5, aI i15), (7, aI (List.length a0 : Int)), (8, aI i15)]) (L' := []) (obs := []) (by kernel_rfl) (by kernel_rfl) (by kernel_rfl) allP0 ?_
      refine seqQ_norm ?_
      refine W_seq (by kernel_rfl) ?_
      refine W_region (by kernel_rfl) ?_
      refine WO_run (j := 5) (k := 5) (orcs := [(7, .val (.dat tI v18))]) (kF := [0, 1, 5, 7, 8, 11, 15]) (kL := []) (fr' := [(0, aD (.slice tI) a0), (1, .one (.fn 66 [])), (5, aI i15), (7, aI (List.length a0 : Int)), (8, aI i15), (11, .one (.fn 66 [])), (15, aI v18)]) (L' := []) (obs := [Idx a0 i15 v18]) rfl (by kernel_rfl) (allP1 (Idx.of h19)) ?_
      obtain ⟨r21, h22, h⟩ := bind_of h
      refine WO_call0 (us := [none]) (d := 16) (p := True) (j := 6) rfl ⟨by kernel_rfl, by kernel_rfl, by kernel_rfl⟩ trivial (pairs_wrong_2_ok h22) (by kernel_rfl) ?_
      refine WO_fin [0, 1, 5, 7, 8, 16] [] (fr' := [(0, aD (.slice tI) a0), (1, .one (.fn 66 [])), (5, aI i15), (7, aI (List.length a0 : Int)), (8, aI i15), (16, aB r21)]) (L' := []) (by kernel_rfl) (by kernel_rfl) ?_
      refine seqQ_norm ?_
      refine W_cond (o := .tmp 16) (b := r21) (by kernel_rfl) (by kernel_rfl) (fun h23 => ?_) (fun h23 => ?_)
      · replace h := ofT h23 h
        refine W_seq (by kernel_rfl) ?_
        refine W_run 2 [] [4] [] (fr' := [(4, aI i15)]) (L' := []) (obs := []) (by kernel_rfl) (by kernel_rfl) (by kernel_rfl) allP0 ?_
        refine seqQ_norm ?_
        obtain rfl := Option.some.inj h
        refine W_ret [4] [] (fr' := [(4, aI i15)]) (L' := []) (by kernel_rfl) (by kernel_rfl) ?_
        refine blockQ_ret ?_
        refine seqQ_ret ?_
        refine round_ret ?_
        refine escQ_ret ?_
        exact exQ_mk (by kernel_rfl) (by kernel_rfl)
      · replace h := ofF h23 h
        refine W_skip [0, 1, 7, 8] [] (fr' := [(0, aD (.slice tI) a0), (1, .one (.fn 66 [])), (7, aI (List.length a0 : Int)), (8, aI i15)]) (L' := []) (by kernel_rfl) (by kernel_rfl) ?_
        refine blockQ_norm ?_
        refine seqQ_norm ?_
        obtain rfl := Option.some.inj h
        refine W_run 2 [] [0, 1, 7, 8] [] (fr' := [(0, aD (.slice tI) a0), (1, .one (.fn 66 [])), (7, aI (List.length a0 : Int)), (8, aI (w64 (i15 + (1 : Int))))]) (L' := []) (obs := []) (by kernel_rfl) (by kernel_rfl) (by kernel_rfl) allP0 ?_
        exact round_next' (by kernel_rfl) (by kernel_rfl)
    · obtain rfl := stepL_false h20 h
      refine W_exit (id := 0) [] [] (fr' := []) (L' := []) (by kernel_rfl) (by kernel_rfl) ?_
      refine seqQ_exit ?_
      refine round_exit ?_
      refine escQ_brk ?_
      exact exQ_mk (by kernel_rfl) (by kernel_rfl)
  · intro e fr L hJ
    rcases v25 with v30 | v31
    · obtain ⟨rfl, rfl, rfl⟩ := hJ
      obtain rfl := Option.some.inj h
      refine LT_keep [4] [] (fr' := [(4, aI v30)]) (L' := []) (by kernel_rfl) ?_
      refine blockQ_ret ?_
      refine seqQ_ret ?_
      exact retQ_mk (by kernel_rfl) (by kernel_rfl) (by kernel_rfl)
    · obtain ⟨rfl, rfl, rfl⟩ := hJ
      refine LT_keep [] [] (fr' := []) (L' := []) (by kernel_rfl) ?_
      refine blockQ_hit ?_
      refine seqQ_norm ?_
      refine W_seq (by kernel_rfl) ?_
      refine W_run 1 [] [4] [] (fr' := [(4, aI (-1 : Int))]) (L' := []) (obs := []) (by kernel_rfl) (by kernel_rfl) (by kernel_rfl) allP0 ?_
      refine seqQ_norm ?_
      obtain rfl := Option.some.inj h
      refine W_ret [4] [] (fr' := [(4, aI (-1 : Int))]) (L' := []) (by kernel_rfl) (by kernel_rfl) ?_
      exact retQ_mk (by kernel_rfl) (by kernel_rfl) (by kernel_rfl)

def slices_ContainsFunc_Lintint_with_pairs_wrong_2 (a0 : (List Int)) : Option Bool :=
(slices_IndexFunc_Lintint_with_pairs_wrong_2 a0).bind fun r1 =>
some (decide (r1 ≥ (0 : Int)))
theorem slices_ContainsFunc_Lintint_with_pairs_wrong_2_ok {a0 : (List Int)} {r : Bool} (h : slices_ContainsFunc_Lintint_with_pairs_wrong_2 a0 = some r) : FnC Try.prog 64 [aD (.slice tI) a0, .one (.fn 66 [])] [] (aB r) [] := by
  refine fnC_of_W (B := bodyOf Try.f64) (n := 9) Try.func64 (by kernel_rfl) (by kernel_rfl) (by kernel_rfl) (by kernel_rfl) (by kernel_rfl) ?_
  intro K
  refine W_seq (by kernel_rfl) ?_
  refine W_run 1 [] [0, 1] [] (fr' := [(0, aD (.slice tI) a0), (1, .one (.fn 66 []))]) (L' := []) (obs := []) (by kernel_rfl) (by kernel_rfl) (by kernel_rfl) allP0 ?_
  refine seqQ_norm ?_
  refine W_seq (by kernel_rfl) ?_
  refine W_region (by kernel_rfl) ?_
  refine WO_run (j := 2) (k := 2) (orcs := []) (kF := [5, 6]) (kL := []) (fr' := [(5, aD (.slice tI) a0), (6, .one (.fn 66 []))]) (L' := []) (obs := []) rfl (by kernel_rfl) allP0 ?_
  obtain ⟨r1, h2, h⟩ := bind_of h
  refine WO_call0 (us := [none, none]) (d := 7) (p := True) (j := 3) rfl ⟨by kernel_rfl, by kernel_rfl, by kernel_rfl⟩ trivial (slices_IndexFunc_Lintint_with_pairs_wrong_2_ok h2) (by kernel_rfl) ?_
  refine WO_run (j := 5) (k := 2) (orcs := []) (kF := [4]) (kL := []) (fr' := [(4, aB (decide (r1 ≥ (0 : Int))))]) (L' := []) (obs := []) rfl (by kernel_rfl) allP0 ?_
  refine WO_fin [4] [] (fr' := [(4, aB (decide (r1 ≥ (0 : Int))))]) (L' := []) (by kernel_rfl) (by kernel_rfl) ?_
  refine seqQ_norm ?_
  obtain rfl := Option.some.inj h
  refine W_ret [4] [] (fr' := [(4, aB (decide (r1 ≥ (0 : Int))))]) (L' := []) (by kernel_rfl) (by kernel_rfl) ?_
  exact retQ_mk (by kernel_rfl) (by kernel_rfl) (by kernel_rfl)

def pairs_wrong (a0 : (List (List Int))) : Option Int :=
bif (decide ((List.length a0 : Int) < (1 : Int))) || (decide ((List.length a0 : Int) > (6 : Int))) then
(some (1 : Int))
else
((slices_ContainsFunc_LLintLint_with_pairs_wrong_1 a0 a0).bind fun r2 =>
bif r2 then
(some (3 : Int))
else
((slices_Concat_Lintint a0).bind fun r5 =>
(slices_ContainsFunc_Lintint_with_pairs_wrong_2 r5).bind fun r7 =>
bif r7 then
(some (4 : Int))
else
(some (0 : Int))))
theorem pairs_wrong_ok {a0 : (List (List Int))} {r : Int} (h : pairs_wrong a0 = some r) : FnC Try.prog 52 [aD (.slice (.slice tI)) a0] [] (aI r) [] := by
  refine fnC_of_W (B := bodyOf Try.f52) (n := 17) Try.func52 (by kernel_rfl) (by kernel_rfl) (by kernel_rfl) (by kernel_rfl) (by kernel_rfl) ?_
  intro K
  refine W_seq (by kernel_rfl) ?_
  refine W_run 2 [] [1] [1] (fr' := [(1, .one (.ptr 1 0))]) (L' := [(1, .cells [.dat (.slice (.slice tI)) a0])]) (obs := []) (by kernel_rfl) (by kernel_rfl) (by kernel_rfl) allP0 ?_
  refine seqQ_norm ?_
  refine W_seq (by kernel_rfl) ?_
  refine W_seq (by kernel_rfl) ?_
  refine W_run 8 [] [1, 10] [1] (fr' := [(1, .one (.ptr 1 0)), (10, aB ((decide ((List.length a0 : Int) < (1 : Int))) || (decide ((List.length a0 : Int) > (6 : Int)))))]) (L' := [(1, .cells [.dat (.slice (.slice tI)) a0])]) (obs := []) (by kernel_rfl) (by kernel_rfl) (by kernel_rfl) allP0 ?_
  refine seqQ_norm ?_
  refine W_cond (o := .tmp 10) (b := (decide ((List.length a0 : Int) < (1 : Int))) || (decide ((List.length a0 : Int) > (6 : Int)))) (by kernel_rfl) (by kernel_rfl) (fun h1 => ?_) (fun h1 => ?_)
  · replace h := ofT h1 h
    refine W_seq (by kernel_rfl) ?_
    refine W_run 1 [] [2] [] (fr' := [(2, aI (1 : Int))]) (L' := []) (obs := []) (by kernel_rfl) (by kernel_rfl) (by kernel_rfl) allP0 ?_
    refine seqQ_norm ?_
    obtain rfl := Option.some.inj h
    refine W_ret [2] [] (fr' := [(2, aI (1 : Int))]) (L' := []) (by kernel_rfl) (by kernel_rfl) ?_
    refine seqQ_ret ?_
    exact retQ_mk (by kernel_rfl) (by kernel_rfl) (by kernel_rfl)
  · replace h := ofF h1 h
    refine W_skip [1] [1] (fr' := [(1, .one (.ptr 1 0))]) (L' := [(1, .cells [.dat (.slice (.slice tI)) a0])]) (by kernel_rfl) (by kernel_rfl) ?_
    refine seqQ_norm ?_
    refine W_seq (by kernel_rfl) ?_
    refine W_seq (by kernel_rfl) ?_
    refine W_region (by kernel_rfl) ?_
    refine WO_run (j := 2) (k := 2) (orcs := []) (kF := [1, 11, 12]) (kL := [1]) (fr' := [(1, .one (.ptr 1 0)), (11, aD (.slice (.slice tI)) a0), (12, .one (.fn 63 [(1, 0)]))]) (L' := [(1, .cells [.dat (.slice (.slice tI)) a0])]) (obs := []) rfl (by kernel_rfl) allP0 ?_
    obtain ⟨r2, h3, h⟩ := bind_of h
    refine WO_lend [(1000, 1)] (us := [none, none]) (d := 13) (p := True) (j := 3) rfl ⟨by kernel_rfl, by kernel_rfl, by kernel_rfl⟩ trivial (slices_ContainsFunc_LLintLint_with_pairs_wrong_1_ok h3) (by kernel_rfl) (by kernel_rfl) ?_
    refine WO_fin [1, 13] [1] (fr' := [(1, .one (.ptr 1 0)), (13, aB r2)]) (L' := [(1, .cells [.dat (.slice (.slice tI)) a0])]) (by kernel_rfl) (by kernel_rfl) ?_
    refine seqQ_norm ?_
    refine W_cond (o := .tmp 13) (b := r2) (by kernel_rfl) (by kernel_rfl) (fun h4 => ?_) (fun h4 => ?_)
    · replace h := ofT h4 h
      refine W_seq (by kernel_rfl) ?_
      refine W_run 1 [] [2] [] (fr' := [(2, aI (3 : Int))]) (L' := []) (obs := []) (by kernel_rfl) (by kernel_rfl) (by kernel_rfl) allP0 ?_
      refine seqQ_norm ?_
      obtain rfl := Option.some.inj h
      refine W_ret [2] [] (fr' := [(2, aI (3 : Int))]) (L' := []) (by kernel_rfl) (by kernel_rfl) ?_
      refine seqQ_ret ?_
      exact retQ_mk (by kernel_rfl) (by kernel_rfl) (by kernel_rfl)
    · replace h := ofF h4 h
      refine W_skip [1] [1] (fr' := [(1, .one (.ptr 1 0))]) (L' := [(1, .cells [.dat (.slice (.slice tI)) a0])]) (by kernel_rfl) (by kernel_rfl) ?_
      refine seqQ_norm ?_
      refine W_seq (by kernel_rfl) ?_
      refine W_seq (by kernel_rfl) ?_
      refine W_region (by kernel_rfl) ?_
      refine WO_run (j := 1) (k := 1) (orcs := []) (kF := [14]) (kL := [1]) (fr' := [(14, aD (.slice (.slice tI)) a0)]) (L' := [(1, .cells [.dat (.slice (.slice tI)) a0])]) (obs := []) rfl (by kernel_rfl) allP0 ?_
      obtain ⟨r5, h6, h⟩ := bind_of h
      refine WO_call1 (us := [none]) (d := 15) (t := 15) (p := True) (j := 2) rfl ⟨by kernel_rfl, by kernel_rfl, by kernel_rfl⟩ trivial (slices_Concat_Lintint_ok h6) (by kernel_rfl) ?_
      obtain ⟨r7, h8, h⟩ := bind_of h
      refine WO_frz 15 (by kernel_rfl) ?_
      refine WO_call0 (us := [none, none]) (d := 16) (p := True) (j := 3) rfl ⟨by kernel_rfl, by kernel_rfl, by kernel_rfl⟩ trivial (slices_ContainsFunc_Lintint_with_pairs_wrong_2_ok h8) (by kernel_rfl) ?_
      refine WO_fin [16] [] (fr' := [(16, aB r7)]) (L' := []) (by kernel_rfl) (by kernel_rfl) ?_
      refine seqQ_norm ?_
      refine W_cond (o := .tmp 16) (b := r7) (by kernel_rfl) (by kernel_rfl) (fun h9 => ?_) (fun h9 => ?_)
      · replace h := ofT h9 h
        refine W_seq (by kernel_rfl) ?_
        refine W_run 1 [] [2] [] (fr' := [(2, aI (4 : Int))]) (L' := []) (obs := []) (by kernel_rfl) (by kernel_rfl) (by kernel_rfl) allP0 ?_
        refine seqQ_norm ?_
        obtain rfl := Option.some.inj h
        refine W_ret [2] [] (fr' := [(2, aI (4 : Int))]) (L' := []) (by kernel_rfl) (by kernel_rfl) ?_
        refine seqQ_ret ?_
        exact retQ_mk (by kernel_rfl) (by kernel_rfl) (by kernel_rfl)
      · replace h := ofF h9 h
        refine W_skip [] [] (fr' := []) (L' := []) (by kernel_rfl) (by kernel_rfl) ?_
        refine seqQ_norm ?_
        refine W_seq (by kernel_rfl) ?_
        refine W_run 1 [] [2] [] (fr' := [(2, aI (0 : Int))]) (L' := []) (obs := []) (by kernel_rfl) (by kernel_rfl) (by kernel_rfl) allP0 ?_
        refine seqQ_norm ?_
        obtain rfl := Option.some.inj h
        refine W_ret [2] [] (fr' := [(2, aI (0 : Int))]) (L' := []) (by kernel_rfl) (by kernel_rfl) ?_
        exact retQ_mk (by kernel_rfl) (by kernel_rfl) (by kernel_rfl)

def math_bits_OnesCount64 (a0 : Int) : Option Int :=
some (bAnd .i64 (w64 (IntKind.wrap .u64 ((IntKind.wrap .u64 ((IntKind.wrap .u64 ((bAnd .u64 (IntKind.wrap .u64 ((bShr .u64 (IntKind.wrap .u64 ((bAnd .u64 (bShr .u64 (IntKind.wrap .u64 ((bAnd .u64 (bShr .u64 a0 (1 : Int)) (6148914691236517205 : Int)) + (bAnd .u64 a0 (6148914691236517205 : Int)))) (2 : Int)) (3689348814741910323 : Int)) + (bAnd .u64 (IntKind.wrap .u64 ((bAnd .u64 (bShr .u64 a0 (1 : Int)) (6148914691236517205 : Int)) + (bAnd .u64 a0 (6148914691236517205 : Int)))) (3689348814741910323 : Int)))) (4 : Int)) + (IntKind.wrap .u64 ((bAnd .u64 (bShr .u64 (IntKind.wrap .u64 ((bAnd .u64 (bShr .u64 a0 (1 : Int)) (6148914691236517205 : Int)) + (bAnd .u64 a0 (6148914691236517205 : Int)))) (2 : Int)) (3689348814741910323 : Int)) + (bAnd .u64 (IntKind.wrap .u64 ((bAnd .u64 (bShr .u64 a0 (1 : Int)) (6148914691236517205 : Int)) + (bAnd .u64 a0 (6148914691236517205 : Int)))) (3689348814741910323 : Int)))))) (1085102592571150095 : Int)) + (bShr .u64 (bAnd .u64 (IntKind.wrap .u64 ((bShr .u64 (IntKind.wrap .u64 ((bAnd .u64 (bShr .u64 (IntKind.wrap .u64 ((bAnd .u64 (bShr .u64 a0 (1 : Int)) (6148914691236517205 : Int)) + (bAnd .u64 a0 (6148914691236517205 : Int)))) (2 : Int)) (3689348814741910323 : Int)) + (bAnd .u64 (IntKind.wrap .u64 ((bAnd .u64 (bShr .u64 a0 (1 : Int)) (6148914691236517205 : Int)) + (bAnd .u64 a0 (6148914691236517205 : Int)))) (3689348814741910323 : Int)))) (4 : Int)) + (IntKind.wrap .u64 ((bAnd .u64 (bShr .u64 (IntKind.wrap .u64 ((bAnd .u64 (bShr .u64 a0 (1 : Int)) (6148914691236517205 : Int)) + (bAnd .u64 a0 (6148914691236517205 : Int)))) (2 : Int)) (3689348814741910323 : Int)) + (bAnd .u64 (IntKind.wrap .u64 ((bAnd .u64 (bShr .u64 a0 (1 : Int)) (6148914691236517205 : Int)) + (bAnd .u64 a0 (6148914691236517205 : Int)))) (3689348814741910323 : Int)))))) (1085102592571150095 : Int)) (8 : Int)))) + (bShr .u64 (IntKind.wrap .u64 ((bAnd .u64 (IntKind.wrap .u64 ((bShr .u64 (IntKind.wrap .u64 ((bAnd .u64 (bShr .u64 (IntKind.wrap .u64 ((bAnd .u64 (bShr .u64 a0 (1 : Int)) (6148914691236517205 : Int)) + (bAnd .u64 a0 (6148914691236517205 : Int)))) (2 : Int)) (3689348814741910323 : Int)) + (bAnd .u64 (IntKind.wrap .u64 ((bAnd .u64 (bShr .u64 a0 (1 : Int)) (6148914691236517205 : Int)) + (bAnd .u64 a0 (6148914691236517205 : Int)))) (3689348814741910323 : Int)))) (4 : Int)) + (IntKind.wrap .u64 ((bAnd .u64 (bShr .u64 (IntKind.wrap .u64 ((bAnd .u64 (bShr .u64 a0 (1 : Int)) (6148914691236517205 : Int)) + (bAnd .u64 a0 (6148914691236517205 : Int)))) (2 : Int)) (3689348814741910323 : Int)) + (bAnd .u64 (IntKind.wrap .u64 ((bAnd .u64 (bShr .u64 a0 (1 : Int)) (6148914691236517205 : Int)) + (bAnd .u64 a0 (6148914691236517205 : Int)))) (3689348814741910323 : Int)))))) (1085102592571150095 : Int)) + (bShr .u64 (bAnd .u64 (IntKind.wrap .u64 ((bShr .u64 (IntKind.wrap .u64 ((bAnd .u64 (bShr .u64 (IntKind.wrap .u64 ((bAnd .u64 (bShr .u64 a0 (1 : Int)) (6148914691236517205 : Int)) + (bAnd .u64 a0 (6148914691236517205 : Int)))) (2 : Int)) (3689348814741910323 : Int)) + (bAnd .u64 (IntKind.wrap .u64 ((bAnd .u64 (bShr .u64 a0 (1 : Int)) (6148914691236517205 : Int)) + (bAnd .u64 a0 (6148914691236517205 : Int)))) (3689348814741910323 : Int)))) (4 : Int)) + (IntKind.wrap .u64 ((bAnd .u64 (bShr .u64 (IntKind.wrap .u64 ((bAnd .u64 (bShr .u64 a0 (1 : Int)) (6148914691236517205 : Int)) + (bAnd .u64 a0 (6148914691236517205 : Int)))) (2 : Int)) (3689348814741910323 : Int)) + (bAnd .u64 (IntKind.wrap .u64 ((bAnd .u64 (bShr .u64 a0 (1 : Int)) (6148914691236517205 : Int)) + (bAnd .u64 a0 (6148914691236517205 : Int)))) (3689348814741910323 : Int)))))) (1085102592571150095 : Int)) (8 : Int)))) (16 : Int)))) + (bShr .u64 (IntKind.wrap .u64 ((IntKind.wrap .u64 ((bAnd .u64 (IntKind.wrap .u64 ((bShr .u64 (IntKind.wrap .u64 ((bAnd .u64 (bShr .u64 (IntKind.wrap .u64 ((bAnd .u64 (bShr .u64 a0 (1 : Int)) (6148914691236517205 : Int)) + (bAnd .u64 a0 (6148914691236517205 : Int)))) (2 : Int)) (3689348814741910323 : Int)) + (bAnd .u64 (IntKind.wrap .u64 ((bAnd .u64 (bShr .u64 a0 (1 : Int)) (6148914691236517205 : Int)) + (bAnd .u64 a0 (6148914691236517205 : Int)))) (3689348814741910323 : Int)))) (4 : Int)) + (IntKind.wrap .u64 ((bAnd .u64 (bShr .u64 (IntKind.wrap .u64 ((bAnd .u64 (bShr .u64 a0 (1 : Int)) (6148914691236517205 : Int)) + (bAnd .u64 a0 (6148914691236517205 : Int)))) (2 : Int)) (3689348814741910323 : Int)) + (bAnd .u64 (IntKind.wrap .u64 ((bAnd .u64 (bShr .u64 a0 (1 : Int)) (6148914691236517205 : Int)) + (bAnd .u64 a0 (6148914691236517205 : Int)))) (3689348814741910323 : Int)))))) (1085102592571150095 : Int)) + (bShr .u64 (bAnd .u64 (IntKind.wrap .u64 ((bShr .u64 (IntKind.wrap .u64 ((bAnd .u64 (bShr .u64 (IntKind.wrap .u64 ((bAnd .u64 (bShr .u64 a0 (1 : Int)) (6148914691236517205 : Int)) + (bAnd .u64 a0 (6148914691236517205 : Int)))) (2 : Int)) (3689348814741910323 : Int)) + (bAnd .u64 (IntKind.wrap .u64 ((bAnd .u64 (bShr .u64 a0 (1 : Int)) (6148914691236517205 : Int)) + (bAnd .u64 a0 (6148914691236517205 : Int)))) (3689348814741910323 : Int)))) (4 : Int)) + (IntKind.wrap .u64 ((bAnd .u64 (bShr .u64 (IntKind.wrap .u64 ((bAnd .u64 (bShr .u64 a0 (1 : Int)) (6148914691236517205 : Int)) + (bAnd .u64 a0 (6148914691236517205 : Int)))) (2 : Int)) (3689348814741910323 : Int)) + (bAnd .u64 (IntKind.wrap .u64 ((bAnd .u64 (bShr .u64 a0 (1 : Int)) (6148914691236517205 : Int)) + (bAnd .u64 a0 (6148914691236517205 : Int)))) (3689348814741910323 : Int)))))) (1085102592571150095 : Int)) (8 : Int)))) + (bShr .u64 (IntKind.wrap .u64 ((bAnd .u64 (IntKind.wrap .u64 ((bShr .u64 (IntKind.wrap .u64 ((bAnd .u64 (bShr .u64 (IntKind.wrap .u64 ((bAnd .u64 (bShr .u64 a0 (1 : Int)) (6148914691236517205 : Int)) + (bAnd .u64 a0 (6148914691236517205 : Int)))) (2 : Int)) (3689348814741910323 : Int)) + (bAnd .u64 (IntKind.wrap .u64 ((bAnd .u64 (bShr .u64 a0 (1 : Int)) (6148914691236517205 : Int)) + (bAnd .u64 a0 (6148914691236517205 : Int)))) (3689348814741910323 : Int)))) (4 : Int)) + (IntKind.wrap .u64 ((bAnd .u64 (bShr .u64 (IntKind.wrap .u64 ((bAnd .u64 (bShr .u64 a0 (1 : Int)) (6148914691236517205 : Int)) + (bAnd .u64 a0 (6148914691236517205 : Int)))) (2 : Int)) (3689348814741910323 : Int)) + (bAnd .u64 (IntKind.wrap .u64 ((bAnd .u64 (bShr .u64 a0 (1 : Int)) (6148914691236517205 : Int)) + (bAnd .u64 a0 (6148914691236517205 : Int)))) (3689348814741910323 : Int)))))) (1085102592571150095 : Int)) + (bShr .u64 (bAnd .u64 (IntKind.wrap .u64 ((bShr .u64 (IntKind.wrap .u64 ((bAnd .u64 (bShr .u64 (IntKind.wrap .u64 ((bAnd .u64 (bShr .u64 a0 (1 : Int)) (6148914691236517205 : Int)) + (bAnd .u64 a0 (6148914691236517205 : Int)))) (2 : Int)) (3689348814741910323 : Int)) + (bAnd .u64 (IntKind.wrap .u64 ((bAnd .u64 (bShr .u64 a0 (1 : Int)) (6148914691236517205 : Int)) + (bAnd .u64 a0 (6148914691236517205 : Int)))) (3689348814741910323 : Int)))) (4 : Int)) + (IntKind.wrap .u64 ((bAnd .u64 (bShr .u64 (IntKind.wrap .u64 ((bAnd .u64 (bShr .u64 a0 (1 : Int)) (6148914691236517205 : Int)) + (bAnd .u64 a0 (6148914691236517205 : Int)))) (2 : Int)) (3689348814741910323 : Int)) + (bAnd .u64 (IntKind.wrap .u64 ((bAnd .u64 (bShr .u64 a0 (1 : Int)) (6148914691236517205 : Int)) + (bAnd .u64 a0 (6148914691236517205 : Int)))) (3689348814741910323 : Int)))))) (1085102592571150095 : Int)) (8 : Int)))) (16 : Int)))) (32 : Int))))) (127 : Int))
theorem math_bits_OnesCount64_ok {a0 : Int} {r : Int} (h : math_bits_OnesCount64 a0 = some r) : FnC Try.prog 61 [aD (.int .u64) a0] [] (aI r) [] := by
  refine fnC_of_W (B := bodyOf Try.f61) (n := 35) Try.func61 (by kernel_rfl) (by kernel_rfl) (by kernel_rfl) (by kernel_rfl) (by kernel_rfl) ?_
  intro K
  refine W_seq (by kernel_rfl) ?_
  refine W_run 1 [] [0] [] (fr' := [(0, aD (.int .u64) a0)]) (L' := []) (obs := []) (by kernel_rfl) (by kernel_rfl) (by kernel_rfl) allP0 ?_
  refine seqQ_norm ?_
  refine W_seq (by kernel_rfl) ?_
  refine W_run 7 [] [0] [] (fr' := [(0, aD (.int .u64) (IntKind.wrap .u64 ((bAnd .u64 (bShr .u64 a0 (1 : Int)) (6148914691236517205 : Int)) + (bAnd .u64 a0 (6148914691236517205 : Int)))))]) (L' := []) (obs := [(0 ≤ (1 : Int))]) (by kernel_rfl) (by kernel_rfl) (by kernel_rfl) (allP1 (by decide)) ?_
  refine seqQ_norm ?_
  refine W_seq (by kernel_rfl) ?_
  refine W_run 7 [] [0] [] (fr' := [(0, aD (.int .u64) (IntKind.wrap .u64 ((bAnd .u64 (bShr .u64 (IntKind.wrap .u64 ((bAnd .u64 (bShr .u64 a0 (1 : Int)) (6148914691236517205 : Int)) + (bAnd .u64 a0 (6148914691236517205 : Int)))) (2 : Int)) (3689348814741910323 : Int)) + (bAnd .u64 (IntKind.wrap .u64 ((bAnd .u64 (bShr .u64 a0 (1 : Int)) (6148914691236517205 : Int)) + (bAnd .u64 a0 (6148914691236517205 : Int)))) (3689348814741910323 : Int)))))]) (L' := []) (obs := [(0 ≤ (2 : Int))]) (by kernel_rfl) (by kernel_rfl) (by kernel_rfl) (allP1 (by decide)) ?_
  refine seqQ_norm ?_
  refine W_seq (by kernel_rfl) ?_
  refine W_run 6 [] [0] [] (fr' := [(0, aD (.int .u64) (bAnd .u64 (IntKind.wrap .u64 ((bShr .u64 (IntKind.wrap .u64 ((bAnd .u64 (bShr .u64 (IntKind.wrap .u64 ((bAnd .u64 (bShr .u64 a0 (1 : Int)) (6148914691236517205 : Int)) + (bAnd .u64 a0 (6148914691236517205 : Int)))) (2 : Int)) (3689348814741910323 : Int)) + (bAnd .u64 (IntKind.wrap .u64 ((bAnd .u64 (bShr .u64 a0 (1 : Int)) (6148914691236517205 : Int)) + (bAnd .u64 a0 (6148914691236517205 : Int)))) (3689348814741910323 : Int)))) (4 : Int)) + (IntKind.wrap .u64 ((bAnd .u64 (bShr .u64 (IntKind.wrap .u64 ((bAnd .u64 (bShr .u64 a0 (1 : Int)) (6148914691236517205 : Int)) + (bAnd .u64 a0 (6148914691236517205 : Int)))) (2 : Int)) (3689348814741910323 : Int)) + (bAnd .u64 (IntKind.wrap .u64 ((bAnd .u64 (bShr .u64 a0 (1 : Int)) (6148914691236517205 : Int)) + (bAnd .u64 a0 (6148914691236517205 : Int)))) (3689348814741910323 : Int)))))) (1085102592571150095 : Int)))]) (L' := []) (obs := [(0 ≤ (4 : Int))]) (by kernel_rfl) (by kernel_rfl) (by kernel_rfl) (allP1 (by decide)) ?_
  refine seqQ_norm ?_
  refine W_seq (by kernel_rfl) ?_
  refine W_run 5 [] [0] [] (fr' := [(0, aD (.int .u64) (IntKind.wrap .u64 ((bAnd .u64 (IntKind.wrap .u64 ((bShr .u64 (IntKind.wrap .u64 ((bAnd .u64 (bShr .u64 (IntKind.wrap .u64 ((bAnd .u64 (bShr .u64 a0 (1 : Int)) (6148914691236517205 : Int)) + (bAnd .u64 a0 (6148914691236517205 : Int)))) (2 : Int)) (3689348814741910323 : Int)) + (bAnd .u64 (IntKind.wrap .u64 ((bAnd .u64 (bShr .u64 a0 (1 : Int)) (6148914691236517205 : Int)) + (bAnd .u64 a0 (6148914691236517205 : Int)))) (3689348814741910323 : Int)))) (4 : Int)) + (IntKind.wrap .u64 ((bAnd .u64 (bShr .u64 (IntKind.wrap .u64 ((bAnd .u64 (bShr .u64 a0 (1 : Int)) (6148914691236517205 : Int)) + (bAnd .u64 a0 (6148914691236517205 : Int)))) (2 : Int)) (3689348814741910323 : Int)) + (bAnd .u64 (IntKind.wrap .u64 ((bAnd .u64 (bShr .u64 a0 (1 : Int)) (6148914691236517205 : Int)) + (bAnd .u64 a0 (6148914691236517205 : Int)))) (3689348814741910323 : Int)))))) (1085102592571150095 : Int)) + (bShr .u64 (bAnd .u64 (IntKind.wrap .u64 ((bShr .u64 (IntKind.wrap .u64 ((bAnd .u64 (bShr .u64 (IntKind.wrap .u64 ((bAnd .u64 (bShr .u64 a0 (1 : Int)) (6148914691236517205 : Int)) + (bAnd .u64 a0 (6148914691236517205 : Int)))) (2 : Int)) (3689348814741910323 : Int)) + (bAnd .u64 (IntKind.wrap .u64 ((bAnd .u64 (bShr .u64 a0 (1 : Int)) (6148914691236517205 : Int)) + (bAnd .u64 a0 (6148914691236517205 : Int)))) (3689348814741910323 : Int)))) (4 : Int)) + (IntKind.wrap .u64 ((bAnd .u64 (bShr .u64 (IntKind.wrap .u64 ((bAnd .u64 (bShr .u64 a0 (1 : Int)) (6148914691236517205 : Int)) + (bAnd .u64 a0 (6148914691236517205 : Int)))) (2 : Int)) (3689348814741910323 : Int)) + (bAnd .u64 (IntKind.wrap .u64 ((bAnd .u64 (bShr .u64 a0 (1 : Int)) (6148914691236517205 : Int)) + (bAnd .u64 a0 (6148914691236517205 : Int)))) (3689348814741910323 : Int)))))) (1085102592571150095 : Int)) (8 : Int)))))]) (L' := []) (obs := [(0 ≤ (8 : Int))]) (by kernel_rfl) (by kernel_rfl) (by kernel_rfl) (allP1 (by decide)) ?_
  refine seqQ_norm ?_
  refine W_seq (by kernel_rfl) ?_
  refine W_run 5 [] [0] [] (fr' := [(0, aD (.int .u64) (IntKind.wrap .u64 ((IntKind.wrap .u64 ((bAnd .u64 (IntKind.wrap .u64 ((bShr .u64 (IntKind.wrap .u64 ((bAnd .u64 (bShr .u64 (IntKind.wrap .u64 ((bAnd .u64 (bShr .u64 a0 (1 : Int)) (6148914691236517205 : Int)) + (bAnd .u64 a0 (6148914691236517205 : Int)))) (2 : Int)) (3689348814741910323 : Int)) + (bAnd .u64 (IntKind.wrap .u64 ((bAnd .u64 (bShr .u64 a0 (1 : Int)) (6148914691236517205 : Int)) + (bAnd .u64 a0 (6148914691236517205 : Int)))) (3689348814741910323 : Int)))) (4 : Int)) + (IntKind.wrap .u64 ((bAnd .u64 (bShr .u64 (IntKind.wrap .u64 ((bAnd .u64 (bShr .u64 a0 (1 : Int)) (6148914691236517205 : Int)) + (bAnd .u64 a0 (6148914691236517205 : Int)))) (2 : Int)) (3689348814741910323 : Int)) + (bAnd .u64 (IntKind.wrap .u64 ((bAnd .u64 (bShr .u64 a0 (1 : Int)) (6148914691236517205 : Int)) + (bAnd .u64 a0 (6148914691236517205 : Int)))) (3689348814741910323 : Int)))))) (1085102592571150095 : Int)) + (bShr .u64 (bAnd .u64 (IntKind.wrap .u64 ((bShr .u64 (IntKind.wrap .u64 ((bAnd .u64 (bShr .u64 (IntKind.wrap .u64 ((bAnd .u64 (bShr .u64 a0 (1 : Int)) (6148914691236517205 : Int)) + (bAnd .u64 a0 (6148914691236517205 : Int)))) (2 : Int)) (3689348814741910323 : Int)) + (bAnd .u64 (IntKind.wrap .u64 ((bAnd .u64 (bShr .u64 a0 (1 : Int)) (6148914691236517205 : Int)) + (bAnd .u64 a0 (6148914691236517205 : Int)))) (3689348814741910323 : Int)))) (4 : Int)) + (IntKind.wrap .u64 ((bAnd .u64 (bShr .u64 (IntKind.wrap .u64 ((bAnd .u64 (bShr .u64 a0 (1 : Int)) (6148914691236517205 : Int)) + (bAnd .u64 a0 (6148914691236517205 : Int)))) (2 : Int)) (3689348814741910323 : Int)) + (bAnd .u64 (IntKind.wrap .u64 ((bAnd .u64 (bShr .u64 a0 (1 : Int)) (6148914691236517205 : Int)) + (bAnd .u64 a0 (6148914691236517205 : Int)))) (3689348814741910323 : Int)))))) (1085102592571150095 : Int)) (8 : Int)))) + (bShr .u64 (IntKind.wrap .u64 ((bAnd .u64 (IntKind.wrap .u64 ((bShr .u64 (IntKind.wrap .u64 ((bAnd .u64 (bShr .u64 (IntKind.wrap .u64 ((bAnd .u64 (bShr .u64 a0 (1 : Int)) (6148914691236517205 : Int)) + (bAnd .u64 a0 (6148914691236517205 : Int)))) (2 : Int)) (3689348814741910323 : Int)) + (bAnd .u64 (IntKind.wrap .u64 ((bAnd .u64 (bShr .u64 a0 (1 : Int)) (6148914691236517205 : Int)) + (bAnd .u64 a0 (6148914691236517205 : Int)))) (3689348814741910323 : Int)))) (4 : Int)) + (IntKind.wrap .u64 ((bAnd .u64 (bShr .u64 (IntKind.wrap .u64 ((bAnd .u64 (bShr .u64 a0 (1 : Int)) (6148914691236517205 : Int)) + (bAnd .u64 a0 (6148914691236517205 : Int)))) (2 : Int)) (3689348814741910323 : Int)) + (bAnd .u64 (IntKind.wrap .u64 ((bAnd .u64 (bShr .u64 a0 (1 : Int)) (6148914691236517205 : Int)) + (bAnd .u64 a0 (6148914691236517205 : Int)))) (3689348814741910323 : Int)))))) (1085102592571150095 : Int)) + (bShr .u64 (bAnd .u64 (IntKind.wrap .u64 ((bShr .u64 (IntKind.wrap .u64 ((bAnd .u64 (bShr .u64 (IntKind.wrap .u64 ((bAnd .u64 (bShr .u64 a0 (1 : Int)) (6148914691236517205 : Int)) + (bAnd .u64 a0 (6148914691236517205 : Int)))) (2 : Int)) (3689348814741910323 : Int)) + (bAnd .u64 (IntKind.wrap .u64 ((bAnd .u64 (bShr .u64 a0 (1 : Int)) (6148914691236517205 : Int)) + (bAnd .u64 a0 (6148914691236517205 : Int)))) (3689348814741910323 : Int)))) (4 : Int)) + (IntKind.wrap .u64 ((bAnd .u64 (bShr .u64 (IntKind.wrap .u64 ((bAnd .u64 (bShr .u64 a0 (1 : Int)) (6148914691236517205 : Int)) + (bAnd .u64 a0 (6148914691236517205 : Int)))) (2 : Int)) (3689348814741910323 : Int)) + (bAnd .u64 (IntKind.wrap .u64 ((bAnd .u64 (bShr .u64 a0 (1 : Int)) (6148914691236517205 : Int)) + (bAnd .u64 a0 (6148914691236517205 : Int)))) (3689348814741910323 : Int)))))) (1085102592571150095 : Int)) (8 : Int)))) (16 : Int)))))]) (L' := []) (obs := [(0 ≤ (16 : Int))]) (by kernel_rfl) (by kernel_rfl) (by kernel_rfl) (allP1 (by decide)) ?_
  refine seqQ_norm ?_
  refine W_seq (by kernel_rfl) ?_
  refine W_run 5 [] [0] [] (fr' := [(0, aD (.int .u64) (IntKind.wrap .u64 ((IntKind.wrap .u64 ((IntKind.wrap .u64 ((bAnd .u64 (IntKind.wrap .u64 ((bShr .u64 (IntKind.wrap .u64 ((bAnd .u64 (bShr .u64 (IntKind.wrap .u64 ((bAnd .u64 (bShr .u64 a0 (1 : Int)) (6148914691236517205 : Int)) + (bAnd .u64 a0 (6148914691236517205 : Int)))) (2 : Int)) (3689348814741910323 : Int)) + (bAnd .u64 (IntKind.wrap .u64 ((bAnd .u64 (bShr .u64 a0 (1 : Int)) (6148914691236517205 : Int)) + (bAnd .u64 a0 (6148914691236517205 : Int)))) (3689348814741910323 : Int)))) (4 : Int)) + (IntKind.wrap .u64 ((bAnd .u64 (bShr .u64 (IntKind.wrap .u64 ((bAnd .u64 (bShr .u64 a0 (1 : Int)) (6148914691236517205 : Int)) + (bAnd .u64 a0 (6148914691236517205 : Int)))) (2 : Int)) (3689348814741910323 : Int)) + (bAnd .u64 (IntKind.wrap .u64 ((bAnd .u64 (bShr .u64 a0 (1 : Int)) (6148914691236517205 : Int)) + (bAnd .u64 a0 (6148914691236517205 : Int)))) (3689348814741910323 : Int)))))) (1085102592571150095 : Int)) + (bShr .u64 (bAnd .u64 (IntKind.wrap .u64 ((bShr .u64 (IntKind.wrap .u64 ((bAnd .u64 (bShr .u64 (IntKind.wrap .u64 ((bAnd .u64 (bShr .u64 a0 (1 : Int)) (6148914691236517205 : Int)) + (bAnd .u64 a0 (6148914691236517205 : Int)))) (2 : Int)) (3689348814741910323 : Int)) + (bAnd .u64 (IntKind.wrap .u64 ((bAnd .u64 (bShr .u64 a0 (1 : Int)) (6148914691236517205 : Int)) + (bAnd .u64 a0 (6148914691236517205 : Int)))) (3689348814741910323 : Int)))) (4 : Int)) + (IntKind.wrap .u64 ((bAnd .u64 (bShr .u64 (IntKind.wrap .u64 ((bAnd .u64 (bShr .u64 a0 (1 : Int)) (6148914691236517205 : Int)) + (bAnd .u64 a0 (6148914691236517205 : Int)))) (2 : Int)) (3689348814741910323 : Int)) + (bAnd .u64 (IntKind.wrap .u64 ((bAnd .u64 (bShr .u64 a0 (1 : Int)) (6148914691236517205 : Int)) + (bAnd .u64 a0 (6148914691236517205 : Int)))) (3689348814741910323 : Int)))))) (1085102592571150095 : Int)) (8 : Int)))) + (bShr .u64 (IntKind.wrap .u64 ((bAnd .u64 (IntKind.wrap .u64 ((bShr .u64 (IntKind.wrap .u64 ((bAnd .u64 (bShr .u64 (IntKind.wrap .u64 ((bAnd .u64 (bShr .u64 a0 (1 : Int)) (6148914691236517205 : Int)) + (bAnd .u64 a0 (6148914691236517205 : Int)))) (2 : Int)) (3689348814741910323 : Int)) + (bAnd .u64 (IntKind.wrap .u64 ((bAnd .u64 (bShr .u64 a0 (1 : Int)) (6148914691236517205 : Int)) + (bAnd .u64 a0 (6148914691236517205 : Int)))) (3689348814741910323 : Int)))) (4 : Int)) + (IntKind.wrap .u64 ((bAnd .u64 (bShr .u64 (IntKind.wrap .u64 ((bAnd .u64 (bShr .u64 a0 (1 : Int)) (6148914691236517205 : Int)) + (bAnd .u64 a0 (6148914691236517205 : Int)))) (2 : Int)) (3689348814741910323 : Int)) + (bAnd .u64 (IntKind.wrap .u64 ((bAnd .u64 (bShr .u64 a0 (1 : Int)) (6148914691236517205 : Int)) + (bAnd .u64 a0 (6148914691236517205 : Int)))) (3689348814741910323 : Int)))))) (1085102592571150095 : Int)) + (bShr .u64 (bAnd .u64 (IntKind.wrap .u64 ((bShr .u64 (IntKind.wrap .u64 ((bAnd .u64 (bShr .u64 (IntKind.wrap .u64 ((bAnd .u64 (bShr .u64 a0 (1 : Int)) (6148914691236517205 : Int)) + (bAnd .u64 a0 (6148914691236517205 : Int)))) (2 : Int)) (3689348814741910323 : Int)) + (bAnd .u64 (IntKind.wrap .u64 ((bAnd .u64 (bShr .u64 a0 (1 : Int)) (6148914691236517205 : Int)) + (bAnd .u64 a0 (6148914691236517205 : Int)))) (3689348814741910323 : Int)))) (4 : Int)) + (IntKind.wrap .u64 ((bAnd .u64 (bShr .u64 (IntKind.wrap .u64 ((bAnd .u64 (bShr .u64 a0 (1 : Int)) (6148914691236517205 : Int)) + (bAnd .u64 a0 (6148914691236517205 : Int)))) (2 : Int)) (3689348814741910323 : Int)) + (bAnd .u64 (IntKind.wrap .u64 ((bAnd .u64 (bShr .u64 a0 (1 : Int)) (6148914691236517205 : Int)) + (bAnd .u64 a0 (6148914691236517205 : Int)))) (3689348814741910323 : Int)))))) (1085102592571150095 : Int)) (8 : Int)))) (16 : Int)))) + (bShr .u64 (IntKind.wrap .u64 ((IntKind.wrap .u64 ((bAnd .u64 (IntKind.wrap .u64 ((bShr .u64 (IntKind.wrap .u64 ((bAnd .u64 (bShr .u64 (IntKind.wrap .u64 ((bAnd .u64 (bShr .u64 a0 (1 : Int)) (6148914691236517205 : Int)) + (bAnd .u64 a0 (6148914691236517205 : Int)))) (2 : Int)) (3689348814741910323 : Int)) + (bAnd .u64 (IntKind.wrap .u64 ((bAnd .u64 (bShr .u64 a0 (1 : Int)) (6148914691236517205 : Int)) + (bAnd .u64 a0 (6148914691236517205 : Int)))) (3689348814741910323 : Int)))) (4 : Int)) + (IntKind.wrap .u64 ((bAnd .u64 (bShr .u64 (IntKind.wrap .u64 ((bAnd .u64 (bShr .u64 a0 (1 : Int)) (6148914691236517205 : Int)) + (bAnd .u64 a0 (6148914691236517205 : Int)))) (2 : Int)) (3689348814741910323 : Int)) + (bAnd .u64 (IntKind.wrap .u64 ((bAnd .u64 (bShr .u64 a0 (1 : Int)) (6148914691236517205 : Int)) + (bAnd .u64 a0 (6148914691236517205 : Int)))) (3689348814741910323 : Int)))))) (1085102592571150095 : Int)) + (bShr .u64 (bAnd .u64 (IntKind.wrap .u64 ((bShr .u64 (IntKind.wrap .u64 ((bAnd .u64 (bShr .u64 (IntKind.wrap .u64 ((bAnd .u64 (bShr .u64 a0 (1 : Int)) (6148914691236517205 : Int)) + (bAnd .u64 a0 (6148914691236517205 : Int)))) (2 : Int)) (3689348814741910323 : Int)) + (bAnd .u64 (IntKind.wrap .u64 ((bAnd .u64 (bShr .u64 a0 (1 : Int)) (6148914691236517205 : Int)) + (bAnd .u64 a0 (6148914691236517205 : Int)))) (3689348814741910323 : Int)))) (4 : Int)) + (IntKind.wrap .u64 ((bAnd .u64 (bShr .u64 (IntKind.wrap .u64 ((bAnd .u64 (bShr .u64 a0 (1 : Int)) (6148914691236517205 : Int)) + (bAnd .u64 a0 (6148914691236517205 : Int)))) (2 : Int)) (3689348814741910323 : Int)) + (bAnd .u64 (IntKind.wrap .u64 ((bAnd .u64 (bShr .u64 a0 (1 : Int)) (6148914691236517205 : Int)) + (bAnd .u64 a0 (6148914691236517205 : Int)))) (3689348814741910323 : Int)))))) (1085102592571150095 : Int)) (8 : Int)))) + (bShr .u64 (IntKind.wrap .u64 ((bAnd .u64 (IntKind.wrap .u64 ((bShr .u64 (IntKind.wrap .u64 ((bAnd .u64 (bShr .u64 (IntKind.wrap .u64 ((bAnd .u64 (bShr .u64 a0 (1 : Int)) (6148914691236517205 : Int)) + (bAnd .u64 a0 (6148914691236517205 : Int)))) (2 : Int)) (3689348814741910323 : Int)) + (bAnd .u64 (IntKind.wrap .u64 ((bAnd .u64 (bShr .u64 a0 (1 : Int)) (6148914691236517205 : Int)) + (bAnd .u64 a0 (6148914691236517205 : Int)))) (3689348814741910323 : Int)))) (4 : Int)) + (IntKind.wrap .u64 ((bAnd .u64 (bShr .u64 (IntKind.wrap .u64 ((bAnd .u64 (bShr .u64 a0 (1 : Int)) (6148914691236517205 : Int)) + (bAnd .u64 a0 (6148914691236517205 : Int)))) (2 : Int)) (3689348814741910323 : Int)) + (bAnd .u64 (IntKind.wrap .u64 ((bAnd .u64 (bShr .u64 a0 (1 : Int)) (6148914691236517205 : Int)) + (bAnd .u64 a0 (6148914691236517205 : Int)))) (3689348814741910323 : Int)))))) (1085102592571150095 : Int)) + (bShr .u64 (bAnd .u64 (IntKind.wrap .u64 ((bShr .u64 (IntKind.wrap .u64 ((bAnd .u64 (bShr .u64 (IntKind.wrap .u64 ((bAnd .u64 (bShr .u64 a0 (1 : Int)) (6148914691236517205 : Int)) + (bAnd .u64 a0 (6148914691236517205 : Int)))) (2 : Int)) (3689348814741910323 : Int)) + (bAnd .u64 (IntKind.wrap .u64 ((bAnd .u64 (bShr .u64 a0 (1 : Int)) (6148914691236517205 : Int)) + (bAnd .u64 a0 (6148914691236517205 : Int)))) (3689348814741910323 : Int)))) (4 : Int)) + (IntKind.wrap .u64 ((bAnd .u64 (bShr .u64 (IntKind.wrap .u64 ((bAnd .u64 (bShr .u64 a0 (1 : Int)) (6148914691236517205 : Int)) + (bAnd .u64 a0 (6148914691236517205 : Int)))) (2 : Int)) (3689348814741910323 : Int)) + (bAnd .u64 (IntKind.wrap .u64 ((bAnd .u64 (bShr .u64 a0 (1 : Int)) (6148914691236517205 : Int)) + (bAnd .u64 a0 (6148914691236517205 : Int)))) (3689348814741910323 : Int)))))) (1085102592571150095 : Int)) (8 : Int)))) (16 : Int)))) (32 : Int)))))]) (L' := []) (obs := [(0 ≤ (32 : Int))]) (by kernel_rfl) (by kernel_rfl) (by kernel_rfl) (allP1 (by decide)) ?_
  refine seqQ_norm ?_
  refine W_seq (by kernel_rfl) ?_
  refine W_run 4 [] [2] [] (fr' := [(2, aI (bAnd .i64 (w64 (IntKind.wrap .u64 ((IntKind.wrap .u64 ((IntKind.wrap .u64 ((bAnd .u64 (IntKind.wrap .u64 ((bShr .u64 (IntKind.wrap .u64 ((bAnd .u64 (bShr .u64 (IntKind.wrap .u64 ((bAnd .u64 (bShr .u64 a0 (1 : Int)) (6148914691236517205 : Int)) + (bAnd .u64 a0 (6148914691236517205 : Int)))) (2 : Int)) (3689348814741910323 : Int)) + (bAnd .u64 (IntKind.wrap .u64 ((bAnd .u64 (bShr .u64 a0 (1 : Int)) (6148914691236517205 : Int)) + (bAnd .u64 a0 (6148914691236517205 : Int)))) (3689348814741910323 : Int)))) (4 : Int)) + (IntKind.wrap .u64 ((bAnd .u64 (bShr .u64 (IntKind.wrap .u64 ((bAnd .u64 (bShr .u64 a0 (1 : Int)) (6148914691236517205 : Int)) + (bAnd .u64 a0 (6148914691236517205 : Int)))) (2 : Int)) (3689348814741910323 : Int)) + (bAnd .u64 (IntKind.wrap .u64 ((bAnd .u64 (bShr .u64 a0 (1 : Int)) (6148914691236517205 : Int)) + (bAnd .u64 a0 (6148914691236517205 : Int)))) (3689348814741910323 : Int)))))) (1085102592571150095 : Int)) + (bShr .u64 (bAnd .u64 (IntKind.wrap .u64 ((bShr .u64 (IntKind.wrap .u64 ((bAnd .u64 (bShr .u64 (IntKind.wrap .u64 ((bAnd .u64 (bShr .u64 a0 (1 : Int)) (6148914691236517205 : Int)) + (bAnd .u64 a0 (6148914691236517205 : Int)))) (2 : Int)) (3689348814741910323 : Int)) + (bAnd .u64 (IntKind.wrap .u64 ((bAnd .u64 (bShr .u64 a0 (1 : Int)) (6148914691236517205 : Int)) + (bAnd .u64 a0 (6148914691236517205 : Int)))) (3689348814741910323 : Int)))) (4 : Int)) + (IntKind.wrap .u64 ((bAnd .u64 (bShr .u64 (IntKind.wrap .u64 ((bAnd .u64 (bShr .u64 a0 (1 : Int)) (6148914691236517205 : Int)) + (bAnd .u64 a0 (6148914691236517205 : Int)))) (2 : Int)) (3689348814741910323 : Int)) + (bAnd .u64 (IntKind.wrap .u64 ((bAnd .u64 (bShr .u64 a0 (1 : Int)) (6148914691236517205 : Int)) + (bAnd .u64 a0 (6148914691236517205 : Int)))) (3689348814741910323 : Int)))))) (1085102592571150095 : Int)) (8 : Int)))) + (bShr .u64 (IntKind.wrap .u64 ((bAnd .u64 (IntKind.wrap .u64 ((bShr .u64 (IntKind.wrap .u64 ((bAnd .u64 (bShr .u64 (IntKind.wrap .u64 ((bAnd .u64 (bShr .u64 a0 (1 : Int)) (6148914691236517205 : Int)) + (bAnd .u64 a0 (6148914691236517205 : Int)))) (2 : Int)) (3689348814741910323 : Int)) + (bAnd .u64 (IntKind.wrap .u64 ((bAnd .u64 (bShr .u64 a0 (1 : Int)) (6148914691236517205 : Int)) + (bAnd .u64 a0 (6148914691236517205 : Int)))) (3689348814741910323 : Int)))) (4 : Int)) + (IntKind.wrap .u64 ((bAnd .u64 (bShr .u64 (IntKind.wrap .u64 ((bAnd .u64 (bShr .u64 a0 (1 : Int)) (6148914691236517205 : Int)) + (bAnd .u64 a0 (6148914691236517205 : Int)))) (2 : Int)) (3689348814741910323 : Int)) + (bAnd .u64 (IntKind.wrap .u64 ((bAnd .u64 (bShr .u64 a0 (1 : Int)) (6148914691236517205 : Int)) + (bAnd .u64 a0 (6148914691236517205 : Int)))) (3689348814741910323 : Int)))))) (1085102592571150095 : Int)) + (bShr .u64 (bAnd .u64 (IntKind.wrap .u64 ((bShr .u64 (IntKind.wrap .u64 ((bAnd .u64 (bShr .u64 (IntKind.wrap .u64 ((bAnd .u64 (bShr .u64 a0 (1 : Int)) (6148914691236517205 : Int)) + (bAnd .u64 a0 (6148914691236517205 : Int)))) (2 : Int)) (3689348814741910323 : Int)) + (bAnd .u64 (IntKind.wrap .u64 ((bAnd .u64 (bShr .u64 a0 (1 : Int)) (6148914691236517205 : Int)) + (bAnd .u64 a0 (6148914691236517205 : Int)))) (3689348814741910323 : Int)))) (4 : Int)) + (IntKind.wrap .u64 ((bAnd .u64 (bShr .u64 (IntKind.wrap .u64 ((bAnd .u64 (bShr .u64 a0 (1 : Int)) (6148914691236517205 : Int)) + (bAnd .u64 a0 (6148914691236517205 : Int)))) (2 : Int)) (3689348814741910323 : Int)) + (bAnd .u64 (IntKind.wrap .u64 ((bAnd .u64 (bShr .u64 a0 (1 : Int)) (6148914691236517205 : Int)) + (bAnd .u64 a0 (6148914691236517205 : Int)))) (3689348814741910323 : Int)))))) (1085102592571150095 : Int)) (8 : Int)))) (16 : Int)))) + (bShr .u64 (IntKind.wrap .u64 ((IntKind.wrap .u64 ((bAnd .u64 (IntKind.wrap .u64 ((bShr .u64 (IntKind.wrap .u64 ((bAnd .u64 (bShr .u64 (IntKind.wrap .u64 ((bAnd .u64 (bShr .u64 a0 (1 : Int)) (6148914691236517205 : Int)) + (bAnd .u64 a0 (6148914691236517205 : Int)))) (2 : Int)) (3689348814741910323 : Int)) + (bAnd .u64 (IntKind.wrap .u64 ((bAnd .u64 (bShr .u64 a0 (1 : Int)) (6148914691236517205 : Int)) + (bAnd .u64 a0 (6148914691236517205 : Int)))) (3689348814741910323 : Int)))) (4 : Int)) + (IntKind.wrap .u64 ((bAnd .u64 (bShr .u64 (IntKind.wrap .u64 ((bAnd .u64 (bShr .u64 a0 (1 : Int)) (6148914691236517205 : Int)) + (bAnd .u64 a0 (6148914691236517205 : Int)))) (2 : Int)) (3689348814741910323 : Int)) + (bAnd .u64 (IntKind.wrap .u64 ((bAnd .u64 (bShr .u64 a0 (1 : Int)) (6148914691236517205 : Int)) + (bAnd .u64 a0 (6148914691236517205 : Int)))) (3689348814741910323 : Int)))))) (1085102592571150095 : Int)) + (bShr .u64 (bAnd .u64 (IntKind.wrap .u64 ((bShr .u64 (IntKind.wrap .u64 ((bAnd .u64 (bShr .u64 (IntKind.wrap .u64 ((bAnd .u64 (bShr .u64 a0 (1 : Int)) (6148914691236517205 : Int)) + (bAnd .u64 a0 (6148914691236517205 : Int)))) (2 : Int)) (3689348814741910323 : Int)) + (bAnd .u64 (IntKind.wrap .u64 ((bAnd .u64 (bShr .u64 a0 (1 : Int)) (6148914691236517205 : Int)) + (bAnd .u64 a0 (6148914691236517205 : Int)))) (3689348814741910323 : Int)))) (4 : Int)) + (IntKind.wrap .u64 ((bAnd .u64 (bShr .u64 (IntKind.wrap .u64 ((bAnd .u64 (bShr .u64 a0 (1 : Int)) (6148914691236517205 : Int)) + (bAnd .u64 a0 (6148914691236517205 : Int)))) (2 : Int)) (3689348814741910323 : Int)) + (bAnd .u64 (IntKind.wrap .u64 ((bAnd .u64 (bShr .u64 a0 (1 : Int)) (6148914691236517205 : Int)) + (bAnd .u64 a0 (6148914691236517205 : Int)))) (3689348814741910323 : Int)))))) (1085102592571150095 : Int)) (8 : Int)))) + (bShr .u64 (IntKind.wrap .u64 ((bAnd .u64 (IntKind.wrap .u64 ((bShr .u64 (IntKind.wrap .u64 ((bAnd .u64 (bShr .u64 (IntKind.wrap .u64 ((bAnd .u64 (bShr .u64 a0 (1 : Int)) (6148914691236517205 : Int)) + (bAnd .u64 a0 (6148914691236517205 : Int)))) (2 : Int)) (3689348814741910323 : Int)) + (bAnd .u64 (IntKind.wrap .u64 ((bAnd .u64 (bShr .u64 a0 (1 : Int)) (6148914691236517205 : Int)) + (bAnd .u64 a0 (6148914691236517205 : Int)))) (3689348814741910323 : Int)))) (4 : Int)) + (IntKind.wrap .u64 ((bAnd .u64 (bShr .u64 (IntKind.wrap .u64 ((bAnd .u64 (bShr .u64 a0 (1 : Int)) (6148914691236517205 : Int)) + (bAnd .u64 a0 (6148914691236517205 : Int)))) (2 : Int)) (3689348814741910323 : Int)) + (bAnd .u64 (IntKind.wrap .u64 ((bAnd .u64 (bShr .u64 a0 (1 : Int)) (6148914691236517205 : Int)) + (bAnd .u64 a0 (6148914691236517205 : Int)))) (3689348814741910323 : Int)))))) (1085102592571150095 : Int)) + (bShr .u64 (bAnd .u64 (IntKind.wrap .u64 ((bShr .u64 (IntKind.wrap .u64 ((bAnd .u64 (bShr .u64 (IntKind.wrap .u64 ((bAnd .u64 (bShr .u64 a0 (1 : Int)) (6148914691236517205 : Int)) + (bAnd .u64 a0 (6148914691236517205 : Int)))) (2 : Int)) (3689348814741910323 : Int)) + (bAnd .u64 (IntKind.wrap .u64 ((bAnd .u64 (bShr .u64 a0 (1 : Int)) (6148914691236517205 : Int)) + (bAnd .u64 a0 (6148914691236517205 : Int)))) (3689348814741910323 : Int)))) (4 : Int)) + (IntKind.wrap .u64 ((bAnd .u64 (bShr .u64 (IntKind.wrap .u64 ((bAnd .u64 (bShr .u64 a0 (1 : Int)) (6148914691236517205 : Int)) + (bAnd .u64 a0 (6148914691236517205 : Int)))) (2 : Int)) (3689348814741910323 : Int)) + (bAnd .u64 (IntKind.wrap .u64 ((bAnd .u64 (bShr .u64 a0 (1 : Int)) (6148914691236517205 : Int)) + (bAnd .u64 a0 (6148914691236517205 : Int)))) (3689348814741910323 : Int)))))) (1085102592571150095 : Int)) (8 : Int)))) (16 : Int)))) (32 : Int))))) (127 : Int)))]) (L' := []) (obs := []) (by kernel_rfl) (by kernel_rfl) (by kernel_rfl) allP0 ?_
  refine seqQ_norm ?_
  obtain rfl := Option.some.inj h
  refine W_ret [2] [] (fr' := [(2, aI (bAnd .i64 (w64 (IntKind.wrap .u64 ((IntKind.wrap .u64 ((IntKind.wrap .u64 ((bAnd .u64 (IntKind.wrap .u64 ((bShr .u64 (IntKind.wrap .u64 ((bAnd .u64 (bShr .u64 (IntKind.wrap .u64 ((bAnd .u64 (bShr .u64 a0 (1 : Int)) (6148914691236517205 : Int)) + (bAnd .u64 a0 (6148914691236517205 : Int)))) (2 : Int)) (3689348814741910323 : Int)) + (bAnd .u64 (IntKind.wrap .u64 ((bAnd .u64 (bShr .u64 a0 (1 : Int)) (6148914691236517205 : Int)) + (bAnd .u64 a0 (6148914691236517205 : Int)))) (3689348814741910323 : Int)))) (4 : Int)) + (IntKind.wrap .u64 ((bAnd .u64 (bShr .u64 (IntKind.wrap .u64 ((bAnd .u64 (bShr .u64 a0 (1 : Int)) (6148914691236517205 : Int)) + (bAnd .u64 a0 (6148914691236517205 : Int)))) (2 : Int)) (3689348814741910323 : Int)) + (bAnd .u64 (IntKind.wrap .u64 ((bAnd .u64 (bShr .u64 a0 (1 : Int)) (6148914691236517205 : Int)) + (bAnd .u64 a0 (6148914691236517205 : Int)))) (3689348814741910323 : Int)))))) (1085102592571150095 : Int)) + (bShr .u64 (bAnd .u64 (IntKind.wrap .u64 ((bShr .u64 (IntKind.wrap .u64 ((bAnd .u64 (bShr .u64 (IntKind.wrap .u64 ((bAnd .u64 (bShr .u64 a0 (1 : Int)) (6148914691236517205 : Int)) + (bAnd .u64 a0 (6148914691236517205 : Int)))) (2 : Int)) (3689348814741910323 : Int)) + (bAnd .u64 (IntKind.wrap .u64 ((bAnd .u64 (bShr .u64 a0 (1 : Int)) (6148914691236517205 : Int)) + (bAnd .u64 a0 (6148914691236517205 : Int)))) (3689348814741910323 : Int)))) (4 : Int)) + (IntKind.wrap .u64 ((bAnd .u64 (bShr .u64 (IntKind.wrap .u64 ((bAnd .u64 (bShr .u64 a0 (1 : Int)) (6148914691236517205 : Int)) + (bAnd .u64 a0 (6148914691236517205 : Int)))) (2 : Int)) (3689348814741910323 : Int)) + (bAnd .u64 (IntKind.wrap .u64 ((bAnd .u64 (bShr .u64 a0 (1 : Int)) (6148914691236517205 : Int)) + (bAnd .u64 a0 (6148914691236517205 : Int)))) (3689348814741910323 : Int)))))) (1085102592571150095 : Int)) (8 : Int)))) + (bShr .u64 (IntKind.wrap .u64 ((bAnd .u64 (IntKind.wrap .u64 ((bShr .u64 (IntKind.wrap .u64 ((bAnd .u64 (bShr .u64 (IntKind.wrap .u64 ((bAnd .u64 (bShr .u64 a0 (1 : Int)) (6148914691236517205 : Int)) + (bAnd .u64 a0 (6148914691236517205 : Int)))) (2 : Int)) (3689348814741910323 : Int)) + (bAnd .u64 (IntKind.wrap .u64 ((bAnd .u64 (bShr .u64 a0 (1 : Int)) (6148914691236517205 : Int)) + (bAnd .u64 a0 (6148914691236517205 : Int)))) (3689348814741910323 : Int)))) (4 : Int)) + (IntKind.wrap .u64 ((bAnd .u64 (bShr .u64 (IntKind.wrap .u64 ((bAnd .u64 (bShr .u64 a0 (1 : Int)) (6148914691236517205 : Int)) + (bAnd .u64 a0 (6148914691236517205 : Int)))) (2 : Int)) (3689348814741910323 : Int)) + (bAnd .u64 (IntKind.wrap .u64 ((bAnd .u64 (bShr .u64 a0 (1 : Int)) (6148914691236517205 : Int)) + (bAnd .u64 a0 (6148914691236517205 : Int)))) (3689348814741910323 : Int)))))) (1085102592571150095 : Int)) + (bShr .u64 (bAnd .u64 (IntKind.wrap .u64 ((bShr .u64 (IntKind.wrap .u64 ((bAnd .u64 (bShr .u64 (IntKind.wrap .u64 ((bAnd .u64 (bShr .u64 a0 (1 : Int)) (6148914691236517205 : Int)) + (bAnd .u64 a0 (6148914691236517205 : Int)))) (2 : Int)) (3689348814741910323 : Int)) + (bAnd .u64 (IntKind.wrap .u64 ((bAnd .u64 (bShr .u64 a0 (1 : Int)) (6148914691236517205 : Int)) + (bAnd .u64 a0 (6148914691236517205 : Int)))) (3689348814741910323 : Int)))) (4 : Int)) + (IntKind.wrap .u64 ((bAnd .u64 (bShr .u64 (IntKind.wrap .u64 ((bAnd .u64 (bShr .u64 a0 (1 : Int)) (6148914691236517205 : Int)) + (bAnd .u64 a0 (6148914691236517205 : Int)))) (2 : Int)) (3689348814741910323 : Int)) + (bAnd .u64 (IntKind.wrap .u64 ((bAnd .u64 (bShr .u64 a0 (1 : Int)) (6148914691236517205 : Int)) + (bAnd .u64 a0 (6148914691236517205 : Int)))) (3689348814741910323 : Int)))))) (1085102592571150095 : Int)) (8 : Int)))) (16 : Int)))) + (bShr .u64 (IntKind.wrap .u64 ((IntKind.wrap .u64 ((bAnd .u64 (IntKind.wrap .u64 ((bShr .u64 (IntKind.wrap .u64 ((bAnd .u64 (bShr .u64 (IntKind.wrap .u64 ((bAnd .u64 (bShr .u64 a0 (1 : Int)) (6148914691236517205 : Int)) + (bAnd .u64 a0 (6148914691236517205 : Int)))) (2 : Int)) (3689348814741910323 : Int)) + (bAnd .u64 (IntKind.wrap .u64 ((bAnd .u64 (bShr .u64 a0 (1 : Int)) (6148914691236517205 : Int)) + (bAnd .u64 a0 (6148914691236517205 : Int)))) (3689348814741910323 : Int)))) (4 : Int)) + (IntKind.wrap .u64 ((bAnd .u64 (bShr .u64 (IntKind.wrap .u64 ((bAnd .u64 (bShr .u64 a0 (1 : Int)) (6148914691236517205 : Int)) + (bAnd .u64 a0 (6148914691236517205 : Int)))) (2 : Int)) (3689348814741910323 : Int)) + (bAnd .u64 (IntKind.wrap .u64 ((bAnd .u64 (bShr .u64 a0 (1 : Int)) (6148914691236517205 : Int)) + (bAnd .u64 a0 (6148914691236517205 : Int)))) (3689348814741910323 : Int)))))) (1085102592571150095 : Int)) + (bShr .u64 (bAnd .u64 (IntKind.wrap .u64 ((bShr .u64 (IntKind.wrap .u64 ((bAnd .u64 (bShr .u64 (IntKind.wrap .u64 ((bAnd .u64 (bShr .u64 a0 (1 : Int)) (6148914691236517205 : Int)) + (bAnd .u64 a0 (6148914691236517205 : Int)))) (2 : Int)) (3689348814741910323 : Int)) + (bAnd .u64 (IntKind.wrap .u64 ((bAnd .u64 (bShr .u64 a0 (1 : Int)) (6148914691236517205 : Int)) + (bAnd .u64 a0 (6148914691236517205 : Int)))) (3689348814741910323 : Int)))) (4 : Int)) + (IntKind.wrap .u64 ((bAnd .u64 (bShr .u64 (IntKind.wrap .u64 ((bAnd .u64 (bShr .u64 a0 (1 : Int)) (6148914691236517205 : Int)) + (bAnd .u64 a0 (6148914691236517205 : Int)))) (2 : Int)) (3689348814741910323 : Int)) + (bAnd .u64 (IntKind.wrap .u64 ((bAnd .u64 (bShr .u64 a0 (1 : Int)) (6148914691236517205 : Int)) + (bAnd .u64 a0 (6148914691236517205 : Int)))) (3689348814741910323 : Int)))))) (1085102592571150095 : Int)) (8 : Int)))) + (bShr .u64 (IntKind.wrap .u64 ((bAnd .u64 (IntKind.wrap .u64 ((bShr .u64 (IntKind.wrap .u64 ((bAnd .u64 (bShr .u64 (IntKind.wrap .u64 ((bAnd .u64 (bShr .u64 a0 (1 : Int)) (6148914691236517205 : Int)) + (bAnd .u64 a0 (6148914691236517205 : Int)))) (2 : Int)) (3689348814741910323 : Int)) + (bAnd .u64 (IntKind.wrap .u64 ((bAnd .u64 (bShr .u64 a0 (1 : Int)) (6148914691236517205 : Int)) + (bAnd .u64 a0 (6148914691236517205 : Int)))) (3689348814741910323 : Int)))) (4 : Int)) + (IntKind.wrap .u64 ((bAnd .u64 (bShr .u64 (IntKind.wrap .u64 ((bAnd .u64 (bShr .u64 a0 (1 : Int)) (6148914691236517205 : Int)) + (bAnd .u64 a0 (6148914691236517205 : Int)))) (2 : Int)) (3689348814741910323 : Int)) + (bAnd .u64 (IntKind.wrap .u64 ((bAnd .u64 (bShr .u64 a0 (1 : Int)) (6148914691236517205 : Int)) + (bAnd .u64 a0 (6148914691236517205 : Int)))) (3689348814741910323 : Int)))))) (1085102592571150095 : Int)) + (bShr .u64 (bAnd .u64 (IntKind.wrap .u64 ((bShr .u64 (IntKind.wrap .u64 ((bAnd .u64 (bShr .u64 (IntKind.wrap .u64 ((bAnd .u64 (bShr .u64 a0 (1 : Int)) (6148914691236517205 : Int)) + (bAnd .u64 a0 (6148914691236517205 : Int)))) (2 : Int)) (3689348814741910323 : Int)) + (bAnd .u64 (IntKind.wrap .u64 ((bAnd .u64 (bShr .u64 a0 (1 : Int)) (6148914691236517205 : Int)) + (bAnd .u64 a0 (6148914691236517205 : Int)))) (3689348814741910323 : Int)))) (4 : Int)) + (IntKind.wrap .u64 ((bAnd .u64 (bShr .u64 (IntKind.wrap .u64 ((bAnd .u64 (bShr .u64 a0 (1 : Int)) (6148914691236517205 : Int)) + (bAnd .u64 a0 (6148914691236517205 : Int)))) (2 : Int)) (3689348814741910323 : Int)) + (bAnd .u64 (IntKind.wrap .u64 ((bAnd .u64 (bShr .u64 a0 (1 : Int)) (6148914691236517205 : Int)) + (bAnd .u64 a0 (6148914691236517205 : Int)))) (3689348814741910323 : Int)))))) (1085102592571150095 : Int)) (8 : Int)))) (16 : Int)))) (32 : Int))))) (127 : Int)))]) (L' := []) (by kernel_rfl) (by kernel_rfl) ?_
  exact retQ_mk (by kernel_rfl) (by kernel_rfl) (by kernel_rfl)

def math_bits_OnesCount (a0 : Int) : Option Int :=
(math_bits_OnesCount64 a0).bind fun r2 =>
some r2
theorem math_bits_OnesCount_ok {a0 : Int} {r : Int} (h : math_bits_OnesCount a0 = some r) : FnC Try.prog 50 [aD (.int .u64) a0] [] (aI r) [] := by
  refine fnC_of_W (B := bodyOf Try.f50) (n := 8) Try.func50 (by kernel_rfl) (by kernel_rfl) (by kernel_rfl) (by kernel_rfl) (by kernel_rfl) ?_
  intro K
  refine W_seq (by kernel_rfl) ?_
  refine W_run 1 [] [0] [] (fr' := [(0, aD (.int .u64) a0)]) (L' := []) (obs := []) (by kernel_rfl) (by kernel_rfl) (by kernel_rfl) allP0 ?_
  refine seqQ_norm ?_
  refine W_seq (by kernel_rfl) ?_
  refine W_cond (o := .const (.bool false)) (b := false) (by kernel_rfl) (by kernel_rfl) (fun h1 => by have := (rfl : false = false).symm.trans h1; cases this) (fun h1 => ?_)
  refine W_skip [0] [] (fr' := [(0, aD (.int .u64) a0)]) (L' := []) (by kernel_rfl) (by kernel_rfl) ?_
  refine seqQ_norm ?_
  refine W_seq (by kernel_rfl) ?_
  refine W_region (by kernel_rfl) ?_
  refine WO_run (j := 1) (k := 1) (orcs := []) (kF := [6]) (kL := []) (fr' := [(6, aD (.int .u64) a0)]) (L' := []) (obs := []) rfl (by kernel_rfl) allP0 ?_
  obtain ⟨r2, h3, h⟩ := bind_of h
  refine WO_call0 (us := [none]) (d := 7) (p := True) (j := 2) rfl ⟨by kernel_rfl, by kernel_rfl, by kernel_rfl⟩ trivial (math_bits_OnesCount64_ok h3) (by kernel_rfl) ?_
  refine WO_run (j := 3) (k := 1) (orcs := []) (kF := [2]) (kL := []) (fr' := [(2, aI r2)]) (L' := []) (obs := []) rfl (by kernel_rfl) allP0 ?_
  refine WO_fin [2] [] (fr' := [(2, aI r2)]) (L' := []) (by kernel_rfl) (by kernel_rfl) ?_
  refine seqQ_norm ?_
  obtain rfl := Option.some.inj h
  refine W_ret [2] [] (fr' := [(2, aI r2)]) (L' := []) (by kernel_rfl) (by kernel_rfl) ?_
  exact retQ_mk (by kernel_rfl) (by kernel_rfl) (by kernel_rfl)

@[reducible] def pairs_Ways_s160 (a0 : (List (List Int))) (i721 : Int) (x722 : Int) (i1009 : Int) (x1010 : Int) (v1012 : (List Int)) (i1044 : Int) (v : Int) : Fr × LL := ([(0, aD (.slice (.slice tI)) a0), (5, aI (List.length a0 : Int)), (6, aI x722), (7, aI i721), (8, aI x1010), (11, aI v), (22, aI (bShl .i64 (1 : Int) (List.length a0 : Int))), (23, aI i721), (26, aD (.slice (.slice tI)) a0), (27, aI (List.length a0 : Int)), (28, aI i1009), (32, aD (.slice tI) v1012), (33, aI (List.length v1012 : Int)), (34, aI i1044)], [])
def pairs_Ways_b161 (i721 : Int) (i1044 : Int) (v1047 : Int) (x1045 : Int) : Option (Flow Int Int) :=
((ck (0 ≤ i1044)).bind fun _ =>
bif (bAnd .i64 (bShr .i64 i721 i1044) (1 : Int)) == (1 : Int) then
(some (w64 (x1045 + v1047)))
else
(some x1045)).bind fun v1056 =>
some (.next v1056)
@[reducible] def pairs_Ways_s162 (a0 : (List (List Int))) (i721 : Int) (x722 : Int) (i1009 : Int) (x1010 : Int) (v1012 : (List Int)) (v : Int × Int) : Fr × LL := ([(0, aD (.slice (.slice tI)) a0), (5, aI (List.length a0 : Int)), (6, aI x722), (7, aI i721), (8, aI x1010), (11, aI v.2), (22, aI (bShl .i64 (1 : Int) (List.length a0 : Int))), (23, aI i721), (26, aD (.slice (.slice tI)) a0), (27, aI (List.length a0 : Int)), (28, aI i1009), (32, aD (.slice tI) v1012), (33, aI (List.length v1012 : Int)), (34, aI v.1)], [])
@[reducible] def pairs_Ways_s163 (a0 : (List (List Int))) (i721 : Int) (x722 : Int) (i1009 : Int) (x1010 : Int) (v : Int) : Fr × LL := ([(0, aD (.slice (.slice tI)) a0), (5, aI (List.length a0 : Int)), (6, aI x722), (7, aI i721), (8, aI x1010), (11, aI v), (22, aI (bShl .i64 (1 : Int) (List.length a0 : Int))), (23, aI i721), (26, aD (.slice (.slice tI)) a0), (27, aI (List.length a0 : Int)), (28, aI i1009)], [])
def pairs_Ways_b164 (i721 : Int) (i1009 : Int) (v1012 : (List Int)) (x1010 : Int) : Option (Flow Int Int) :=
(forL (pairs_Ways_b161 i721) (fun x1045 => x1045) v1012 0 (0 : Int)).bind fun v1059 =>
some (.next (w64 (x1010 * v1059)))
@[reducible] def pairs_Ways_s165 (a0 : (List (List Int))) (i721 : Int) (x722 : Int) (v : Int × Int) : Fr × LL := ([(0, aD (.slice (.slice tI)) a0), (5, aI (List.length a0 : Int)), (6, aI x722), (7, aI i721), (8, aI v.2), (22, aI (bShl .i64 (1 : Int) (List.length a0 : Int))), (23, aI i721), (26, aD (.slice (.slice tI)) a0), (27, aI (List.length a0 : Int)), (28, aI v.1)], [])
@[reducible] def pairs_Ways_s166 (a0 : (List (List Int))) (i721 : Int) (x722 : Int) (v : Int) : Fr × LL := ([(0, aD (.slice (.slice tI)) a0), (5, aI (List.length a0 : Int)), (6, aI x722), (7, aI i721), (8, aI v), (22, aI (bShl .i64 (1 : Int) (List.length a0 : Int))), (23, aI i721)], [])
def pairs_Ways_g167 (a0 : (List (List Int))) (i721 : Int) (v1065 : Int) : Option Int :=
(math_bits_OnesCount (IntKind.wrap .u64 (i721))).bind fun r1076 =>
bif (Int.tmod (w64 ((List.length a0 : Int) - r1076)) (2 : Int)) == (1 : Int) then
(some (w64 (0 - v1065)))
else
(some v1065)
@[reducible] def pairs_Ways_s168 (a0 : (List (List Int))) (i721 : Int) (x722 : Int) (v : Int) : Fr × LL := ([(0, aD (.slice (.slice tI)) a0), (5, aI (List.length a0 : Int)), (6, aI x722), (8, aI v), (22, aI (bShl .i64 (1 : Int) (List.length a0 : Int))), (23, aI i721)], [])
def pairs_Ways_b169 (a0 : (List (List Int))) (i721 : Int) (x722 : Int) : Option (Flow Int Int) :=
(forL (pairs_Ways_b164 i721) (fun x1010 => x1010) a0 0 (1 : Int)).bind fun v1065 =>
(pairs_Ways_g167 a0 i721 v1065).bind fun v1079 =>
some (.next (w64 (x722 + v1079)))
@[reducible] def pairs_Ways_s170 (a0 : (List (List Int))) (v : Int × Int) : Fr × LL := ([(0, aD (.slice (.slice tI)) a0), (5, aI (List.length a0 : Int)), (6, aI v.2), (22, aI (bShl .i64 (1 : Int) (List.length a0 : Int))), (23, aI v.1)], [])
@[reducible] def pairs_Ways_s171 (v : Int) : Fr × LL := ([(6, aI v)], [])
def pairs_Ways (a0 : (List (List Int))) : Option (Int × Int) :=
(pairs_wrong a0).bind fun r1 =>
bif r1 != (0 : Int) then
(some ((0 : Int), r1))
else
((ck (0 ≤ (List.length a0 : Int))).bind fun _ =>
(forI (0 : Int) (bShl .i64 (1 : Int) (List.length a0 : Int)) (pairs_Ways_b169 a0) (fun x722 => x722) (0 : Int)).bind fun v1082 =>
some (v1082, (0 : Int)))
theorem pairs_Ways_ok {a0 : (List (List Int))} {r : (Int × Int)} (h : pairs_Ways a0 = some r) : FnC Try.prog 32 [aD (.slice (.slice tI)) a0] [] (.tup [.dat tI r.1, .dat tI r.2]) [] := by
  refine fnC_of_W (B := bodyOf Try.f32) (n := 66) Try.func32 (by kernel_rfl) (by kernel_rfl) (by kernel_rfl) (by kernel_rfl) (by kernel_rfl) ?_
  intro K
  refine W_seq (by kernel_rfl) ?_
  refine W_run 2 [] [0] [] (fr' := [(0, aD (.slice (.slice tI)) a0)]) (L' := []) (obs := []) (by kernel_rfl) (by kernel_rfl) (by kernel_rfl) allP0 ?_
  refine seqQ_norm ?_
  refine W_seq (by kernel_rfl) ?_
  refine W_seq (by kernel_rfl) ?_
  refine W_region (by kernel_rfl) ?_
  refine WO_run (j := 1) (k := 1) (orcs := []) (kF := [0, 14]) (kL := []) (fr' := [(0, aD (.slice (.slice tI)) a0), (14, aD (.slice (.slice tI)) a0)]) (L' := []) (obs := []) rfl (by kernel_rfl) allP0 ?_
  obtain ⟨r1, h2, h⟩ := bind_of h
  refine WO_call0 (us := [none]) (d := 15) (p := True) (j := 2) rfl ⟨by kernel_rfl, by kernel_rfl, by kernel_rfl⟩ trivial (pairs_wrong_ok h2) (by kernel_rfl) ?_
  refine WO_run (j := 3) (k := 1) (orcs := []) (kF := [0, 4]) (kL := []) (fr' := [(0, aD (.slice (.slice tI)) a0), (4, aI r1)]) (L' := []) (obs := []) rfl (by kernel_rfl) allP0 ?_
  refine WO_fin [0, 4] [] (fr' := [(0, aD (.slice (.slice tI)) a0), (4, aI r1)]) (L' := []) (by kernel_rfl) (by kernel_rfl) ?_
  refine seqQ_norm ?_
  refine W_seq (by kernel_rfl) ?_
  refine W_run 2 [] [0, 4, 17] [] (fr' := [(0, aD (.slice (.slice tI)) a0), (4, aI r1), (17, aB (r1 != (0 : Int)))]) (L' := []) (obs := []) (by kernel_rfl) (by kernel_rfl) (by kernel_rfl) allP0 ?_
  refine seqQ_norm ?_
  refine W_cond (o := .tmp 17) (b := r1 != (0 : Int)) (by kernel_rfl) (by kernel_rfl) (fun h3 => ?_) (fun h3 => ?_)
  · replace h := ofT h3 h
    refine W_seq (by kernel_rfl) ?_
    refine W_run 3 [] [2, 3] [] (fr' := [(2, aI (0 : Int)), (3, aI r1)]) (L' := []) (obs := []) (by kernel_rfl) (by kernel_rfl) (by kernel_rfl) allP0 ?_
    refine seqQ_norm ?_
    obtain rfl := Option.some.inj h
    refine W_ret [2, 3] [] (fr' := [(2, aI (0 : Int)), (3, aI r1)]) (L' := []) (by kernel_rfl) (by kernel_rfl) ?_
    refine seqQ_ret ?_
    exact retQ_mk (by kernel_rfl) (by kernel_rfl) (by kernel_rfl)
  · replace h := ofF h3 h
    refine W_skip [0] [] (fr' := [(0, aD (.slice (.slice tI)) a0)]) (L' := []) (by kernel_rfl) (by kernel_rfl) ?_
    refine seqQ_norm ?_
    refine W_seq (by kernel_rfl) ?_
    refine W_run 3 [] [0, 5] [] (fr' := [(0, aD (.slice (.slice tI)) a0), (5, aI (List.length a0 : Int))]) (L' := []) (obs := []) (by kernel_rfl) (by kernel_rfl) (by kernel_rfl) allP0 ?_
    refine seqQ_norm ?_
    refine W_seq (by kernel_rfl) ?_
    refine W_run 1 [] [0, 5, 6] [] (fr' := [(0, aD (.slice (.slice tI)) a0), (5, aI (List.length a0 : Int)), (6, aI (0 : Int))]) (L' := []) (obs := []) (by kernel_rfl) (by kernel_rfl) (by kernel_rfl) allP0 ?_
    refine seqQ_norm ?_
    refine W_seq (by kernel_rfl) ?_
    refine W_seq (by kernel_rfl) ?_
    obtain ⟨_, h4, h⟩ := bind_of h
    replace h4 := ck_some h4
    refine W_run 3 [] [0, 5, 6, 22, 23] [] (fr' := [(0, aD (.slice (.slice tI)) a0), (5, aI (List.length a0 : Int)), (6, aI (0 : Int)), (22, aI (bShl .i64 (1 : Int) (List.length a0 : Int))), (23, aI (0 : Int))]) (L' := []) (obs := [(0 ≤ (List.length a0 : Int))]) (by kernel_rfl) (by kernel_rfl) (by kernel_rfl) (allP1 h4) ?_
    refine seqQ_norm ?_
    refine W_block (id := 0) (by kernel_rfl) ?_
    obtain ⟨v1082, h1083, h⟩ := bind_of h
    obtain ⟨h1084, h1085⟩ := forI_iter h1083
    refine W_weaken [0, 5, 6, 22, 23] [] (fr' := ((pairs_Ways_s170 a0) ((0 : Int), (0 : Int))).1) (L' := ((pairs_Ways_s170 a0) ((0 : Int), (0 : Int))).2) (by kernel_rfl) ?_
    refine W_cutK (W_loop (S := (pairs_Ways_s170 a0)) (J := (exQ (.exit 0) pairs_Ways_s171)) (by kernel_rfl) ?_ h1084 _ v1082 h1085) ?_
    · rintro ⟨i721, x722⟩ s h
      refine W_seq (by kernel_rfl) ?_
      refine W_run 1 [] [0, 5, 6, 22, 23, 24] [] (fr' := [(0, aD (.slice (.slice tI)) a0), (5, aI (List.length a0 : Int)), (6, aI x722), (22, aI (bShl .i64 (1 : Int) (List.length a0 : Int))), (23, aI i721), (24, aB (decide (i721 < (bShl .i64 (1 : Int) (List.length a0 : Int)))))]) (L' := []) (obs := []) (by kernel_rfl) (by kernel_rfl) (by kernel_rfl) allP0 ?_
      refine seqQ_norm ?_
      refine W_seq (by kernel_rfl) ?_
      refine W_cond (o := .tmp 24) (b := decide (i721 < (bShl .i64 (1 : Int) (List.length a0 : Int)))) (by kernel_rfl) (by kernel_rfl) (fun h724 => ?_) (fun h724 => ?_)
      · replace h := stepI_true h724 h
        obtain ⟨_, h, rfl⟩ := h
        refine W_skip [0, 5, 6, 22, 23] [] (fr' := [(0, aD (.slice (.slice tI)) a0), (5, aI (List.length a0 : Int)), (6, aI x722), (22, aI (bShl .i64 (1 : Int) (List.length a0 : Int))), (23, aI i721)]) (L' := []) (by kernel_rfl) (by kernel_rfl) ?_
        refine seqQ_norm ?_
        refine W_seq (by kernel_rfl) ?_
        refine W_block (id := 1) (by kernel_rfl) ?_
        refine W_seq (by kernel_rfl) ?_
        refine W_run 2 [] [0, 5, 6, 7, 22, 23] [] (fr' := [(0, aD (.slice (.slice tI)) a0), (5, aI (List.length a0 : Int)), (6, aI x722), (7, aI i721), (22, aI (bShl .i64 (1 : Int) (List.length a0 : Int))), (23, aI i721)]) (L' := []) (obs := []) (by kernel_rfl) (by kernel_rfl) (by kernel_rfl) allP0 ?_
        refine seqQ_norm ?_
        refine W_seq (by kernel_rfl) ?_
        refine W_run 1 [] [0, 5, 6, 7, 8, 22, 23] [] (fr' := [(0, aD (.slice (.slice tI)) a0), (5, aI (List.length a0 : Int)), (6, aI x722), (7, aI i721), (8, aI (1 : Int)), (22, aI (bShl .i64 (1 : Int) (List.length a0 : Int))), (23, aI i721)]) (L' := []) (obs := []) (by kernel_rfl) (by kernel_rfl) (by kernel_rfl) allP0 ?_
        refine seqQ_norm ?_
        refine W_seq (by kernel_rfl) ?_
        refine W_seq (by kernel_rfl) ?_
        refine W_run 3 [] [0, 5, 6, 7, 8, 22, 23, 26, 27, 28] [] (fr' := [(0, aD (.slice (.slice tI)) a0), (5, aI (List.length a0 : Int)), (6, aI x722), (7, aI i721), (8, aI (1 : Int)), (22, aI (bShl .i64 (1 : Int) (List.length a0 : Int))), (23, aI i721), (26, aD (.slice (.slice tI)) a0), (27, aI (List.length a0 : Int)), (28, aI (0 : Int))]) (L' := []) (obs := []) (by kernel_rfl) (by kernel_rfl) (by kernel_rfl) allP0 ?_
        refine seqQ_norm ?_
        refine W_block (id := 2) (by kernel_rfl) ?_
        obtain ⟨v1065, h1066, h⟩ := bind_of h
        refine W_len (t := 26) (u := (.slice tI)) (xs := a0) (by kernel_rfl) (fun h1069 => ?_)
        obtain ⟨h1067, h1068⟩ := forL_iter h1069 h1066
        refine W_weaken [0, 5, 6, 7, 8, 22, 23, 26, 27, 28] [] (fr' := ((pairs_Ways_s165 a0 i721 x722) ((0 : Int), (1 : Int))).1) (L' := ((pairs_Ways_s165 a0 i721 x722) ((0 : Int), (1 : Int))).2) (by kernel_rfl) ?_
        refine W_cutK (W_loop (S := (pairs_Ways_s165 a0 i721 x722)) (J := (exQ (.exit 2) (pairs_Ways_s166 a0 i721 x722))) (by kernel_rfl) ?_ h1067 _ v1065 h1068) ?_
        · rintro ⟨i1009, x1010⟩ s h
          refine W_seq (by kernel_rfl) ?_
          refine W_run 1 [] [0, 5, 6, 7, 8, 22, 23, 26, 27, 28, 29] [] (fr' := [(0, aD (.slice (.slice tI)) a0), (5, aI (List.length a0 : Int)), (6, aI x722), (7, aI i721), (8, aI x1010), (22, aI (bShl .i64 (1 : Int) (List.length a0 : Int))), (23, aI i721), (26, aD (.slice (.slice tI)) a0), (27, aI (List.length a0 : Int)), (28, aI i1009), (29, aB (decide (i1009 < (List.length a0 : Int))))]) (L' := []) (obs := []) (by kernel_rfl) (by kernel_rfl) (by kernel_rfl) allP0 ?_
          refine seqQ_norm ?_
          refine W_seq (by kernel_rfl) ?_
          refine W_cond (o := .tmp 29) (b := decide (i1009 < (List.length a0 : Int))) (by kernel_rfl) (by kernel_rfl) (fun h1014 => ?_) (fun h1014 => ?_)
          · replace h := stepL_true h1014 h
            obtain ⟨v1012, _, h1013, h, rfl⟩ := h
            refine W_skip [0, 5, 6, 7, 8, 22, 23, 26, 27, 28] [] (fr' := [(0, aD (.slice (.slice tI)) a0), (5, aI (List.length a0 : Int)), (6, aI x722), (7, aI i721), (8, aI x1010), (22, aI (bShl .i64 (1 : Int) (List.length a0 : Int))), (23, aI i721), (26, aD (.slice (.slice tI)) a0), (27, aI (List.length a0 : Int)), (28, aI i1009)]) (L' := []) (by kernel_rfl) (by kernel_rfl) ?_
            refine seqQ_norm ?_
            refine W_seq (by kernel_rfl) ?_
            refine W_block (id := 3) (by kernel_rfl) ?_
            refine W_seq (by kernel_rfl) ?_
            refine W_run 3 [(1, .val (.dat (.slice tI) v1012))] [0, 5, 6, 7, 8, 10, 22, 23, 26, 27, 28] [] (fr' := [(0, aD (.slice (.slice tI)) a0), (5, aI (List.length a0 : Int)), (6, aI x722), (7, aI i721), (8, aI x1010), (10, aD (.slice tI) v1012), (22, aI (bShl .i64 (1 : Int) (List.length a0 : Int))), (23, aI i721), (26, aD (.slice (.slice tI)) a0), (27, aI (List.length a0 : Int)), (28, aI i1009)]) (L' := []) (obs := [Idx a0 i1009 v1012]) (by kernel_rfl) (by kernel_rfl) (by kernel_rfl) (allP1 (Idx.of h1013)) ?_
            refine seqQ_norm ?_
            refine W_seq (by kernel_rfl) ?_
            refine W_run 1 [] [0, 5, 6, 7, 8, 10, 11, 22, 23, 26, 27, 28] [] (fr' := [(0, aD (.slice (.slice tI)) a0), (5, aI (List.length a0 : Int)), (6, aI x722), (7, aI i721), (8, aI x1010), (10, aD (.slice tI) v1012), (11, aI (0 : Int)), (22, aI (bShl .i64 (1 : Int) (List.length a0 : Int))), (23, aI i721), (26, aD (.slice (.slice tI)) a0), (27, aI (List.length a0 : Int)), (28, aI i1009)]) (L' := []) (obs := []) (by kernel_rfl) (by kernel_rfl) (by kernel_rfl) allP0 ?_
            refine seqQ_norm ?_
            refine W_seq (by kernel_rfl) ?_
            refine W_seq (by kernel_rfl) ?_
            refine W_run 3 [] [0, 5, 6, 7, 8, 11, 22, 23, 26, 27, 28, 32, 33, 34] [] (fr' := [(0, aD (.slice (.slice tI)) a0), (5, aI (List.length a0 : Int)), (6, aI x722), (7, aI i721), (8, aI x1010), (11, aI (0 : Int)), (22, aI (bShl .i64 (1 : Int) (List.length a0 : Int))), (23, aI i721), (26, aD (.slice (.slice tI)) a0), (27, aI (List.length a0 : Int)), (28, aI i1009), (32, aD (.slice tI) v1012), (33, aI (List.length v1012 : Int)), (34, aI (0 : Int))]) (L' := []) (obs := []) (by kernel_rfl) (by kernel_rfl) (by kernel_rfl) allP0 ?_
            refine seqQ_norm ?_
            refine W_block (id := 4) (by kernel_rfl) ?_
            obtain ⟨v1059, h1060, h⟩ := bind_of h
            refine W_len (t := 32) (u := tI) (xs := v1012) (by kernel_rfl) (fun h1063 => ?_)
            obtain ⟨h1061, h1062⟩ := forL_iter h1063 h1060
            refine W_weaken [0, 5, 6, 7, 8, 11, 22, 23, 26, 27, 28, 32, 33, 34] [] (fr' := ((pairs_Ways_s162 a0 i721 x722 i1009 x1010 v1012) ((0 : Int), (0 : Int))).1) (L' := ((pairs_Ways_s162 a0 i721 x722 i1009 x1010 v1012) ((0 : Int), (0 : Int))).2) (by kernel_rfl) ?_
            refine W_cutK (W_loop (S := (pairs_Ways_s162 a0 i721 x722 i1009 x1010 v1012)) (J := (exQ (.exit 4) (pairs_Ways_s163 a0 i721 x722 i1009 x1010))) (by kernel_rfl) ?_ h1061 _ v1059 h1062) ?_
            · rintro ⟨i1044, x1045⟩ s h
              refine W_seq (by kernel_rfl) ?_
              refine W_run 1 [] [0, 5, 6, 7, 8, 11, 22, 23, 26, 27, 28, 32, 33, 34, 35] [] (fr' := [(0, aD (.slice (.slice tI)) a0), (5, aI (List.length a0 : Int)), (6, aI x722), (7, aI i721), (8, aI x1010), (11, aI x1045), (22, aI (bShl .i64 (1 : Int) (List.length a0 : Int))), (23, aI i721), (26, aD (.slice (.slice tI)) a0), (27, aI (List.length a0 : Int)), (28, aI i1009), (32, aD (.slice tI) v1012), (33, aI (List.length v1012 : Int)), (34, aI i1044), (35, aB (decide (i1044 < (List.length v1012 : Int))))]) (L' := []) (obs := []) (by kernel_rfl) (by kernel_rfl) (by kernel_rfl) allP0 ?_
              refine seqQ_norm ?_
              refine W_seq (by kernel_rfl) ?_
              refine W_cond (o := .tmp 35) (b := decide (i1044 < (List.length v1012 : Int))) (by kernel_rfl) (by kernel_rfl) (fun h1049 => ?_) (fun h1049 => ?_)
              · replace h := stepL_true h1049 h
                obtain ⟨v1047, _, h1048, h, rfl⟩ := h
                refine W_skip [0, 5, 6, 7, 8, 11, 22, 23, 26, 27, 28, 32, 33, 34] [] (fr' := [(0, aD (.slice (.slice tI)) a0), (5, aI (List.length a0 : Int)), (6, aI x722), (7, aI i721), (8, aI x1010), (11, aI x1045), (22, aI (bShl .i64 (1 : Int) (List.length a0 : Int))), (23, aI i721), (26, aD (.slice (.slice tI)) a0), (27, aI (List.length a0 : Int)), (28, aI i1009), (32, aD (.slice tI) v1012), (33, aI (List.length v1012 : Int)), (34, aI i1044)]) (L' := []) (by kernel_rfl) (by kernel_rfl) ?_
                refine seqQ_norm ?_
                refine W_seq (by kernel_rfl) ?_
                obtain ⟨v1056, h1057, h⟩ := bind_of h
                refine W_cutK (Q' := (exQ .normal (pairs_Ways_s160 a0 i721 x722 i1009 x1010 v1012 i1044)) v1056) ?_ ?_
                · replace h := h1057
                  refine W_block (id := 5) (by kernel_rfl) ?_
                  refine W_seq (by kernel_rfl) ?_
                  refine W_run 5 [(3, .val (.dat tI v1047))] [0, 5, 6, 7, 8, 11, 12, 13, 22, 23, 26, 27, 28, 32, 33, 34] [] (fr' := [(0, aD (.slice (.slice tI)) a0), (5, aI (List.length a0 : Int)), (6, aI x722), (7, aI i721), (8, aI x1010), (11, aI x1045), (12, aI i1044), (13, aI v1047), (22, aI (bShl .i64 (1 : Int) (List.length a0 : Int))), (23, aI i721), (26, aD (.slice (.slice tI)) a0), (27, aI (List.length a0 : Int)), (28, aI i1009), (32, aD (.slice tI) v1012), (33, aI (List.length v1012 : Int)), (34, aI i1044)]) (L' := []) (obs := [Idx v1012 i1044 v1047]) (by kernel_rfl) (by kernel_rfl) (by kernel_rfl) (allP1 (Idx.of h1048)) ?_
                  refine seqQ_norm ?_
                  refine W_seq (by kernel_rfl) ?_
                  obtain ⟨_, h1054, h⟩ := bind_of h
                  replace h1054 := ck_some h1054
                  refine W_run 5 [] [0, 5, 6, 7, 8, 11, 13, 22, 23, 26, 27, 28, 32, 33, 34, 43] [] (fr' := [(0, aD (.slice (.slice tI)) a0), (5, aI (List.length a0 : Int)), (6, aI x722), (7, aI i721), (8, aI x1010), (11, aI x1045), (13, aI v1047), (22, aI (bShl .i64 (1 : Int) (List.length a0 : Int))), (23, aI i721), (26, aD (.slice (.slice tI)) a0), (27, aI (List.length a0 : Int)), (28, aI i1009), (32, aD (.slice tI) v1012), (33, aI (List.length v1012 : Int)), (34, aI i1044), (43, aB ((bAnd .i64 (bShr .i64 i721 i1044) (1 : Int)) == (1 : Int)))]) (L' := []) (obs := [(0 ≤ i1044)]) (by kernel_rfl) (by kernel_rfl) (by kernel_rfl) (allP1 h1054) ?_
                  refine seqQ_norm ?_
                  refine W_cond (o := .tmp 43) (b := (bAnd .i64 (bShr .i64 i721 i1044) (1 : Int)) == (1 : Int)) (by kernel_rfl) (by kernel_rfl) (fun h1055 => ?_) (fun h1055 => ?_)
                  · replace h := ofT h1055 h
                    obtain rfl := Option.some.inj h
                    refine W_run 4 [] [0, 5, 6, 7, 8, 11, 22, 23, 26, 27, 28, 32, 33, 34] [] (fr' := [(0, aD (.slice (.slice tI)) a0), (5, aI (List.length a0 : Int)), (6, aI x722), (7, aI i721), (8, aI x1010), (11, aI (w64 (x1045 + v1047))), (22, aI (bShl .i64 (1 : Int) (List.length a0 : Int))), (23, aI i721), (26, aD (.slice (.slice tI)) a0), (27, aI (List.length a0 : Int)), (28, aI i1009), (32, aD (.slice tI) v1012), (33, aI (List.length v1012 : Int)), (34, aI i1044)]) (L' := []) (obs := []) (by kernel_rfl) (by kernel_rfl) (by kernel_rfl) allP0 ?_
                    refine blockQ_norm ?_
                    exact exQ_mk (by kernel_rfl) (by kernel_rfl)
                  · replace h := ofF h1055 h
                    obtain rfl := Option.some.inj h
                    refine W_skip [0, 5, 6, 7, 8, 11, 22, 23, 26, 27, 28, 32, 33, 34] [] (fr' := [(0, aD (.slice (.slice tI)) a0), (5, aI (List.length a0 : Int)), (6, aI x722), (7, aI i721), (8, aI x1010), (11, aI x1045), (22, aI (bShl .i64 (1 : Int) (List.length a0 : Int))), (23, aI i721), (26, aD (.slice (.slice tI)) a0), (27, aI (List.length a0 : Int)), (28, aI i1009), (32, aD (.slice tI) v1012), (33, aI (List.length v1012 : Int)), (34, aI i1044)]) (L' := []) (by kernel_rfl) (by kernel_rfl) ?_
                    refine blockQ_norm ?_
                    exact exQ_mk (by kernel_rfl) (by kernel_rfl)
                · intro e fr L hJ
                  obtain ⟨rfl, rfl, rfl⟩ := hJ
                  refine LT_keep [0, 5, 6, 7, 8, 11, 22, 23, 26, 27, 28, 32, 33, 34] [] (fr' := [(0, aD (.slice (.slice tI)) a0), (5, aI (List.length a0 : Int)), (6, aI x722), (7, aI i721), (8, aI x1010), (11, aI v1056), (22, aI (bShl .i64 (1 : Int) (List.length a0 : Int))), (23, aI i721), (26, aD (.slice (.slice tI)) a0), (27, aI (List.length a0 : Int)), (28, aI i1009), (32, aD (.slice tI) v1012), (33, aI (List.length v1012 : Int)), (34, aI i1044)]) (L' := []) (by kernel_rfl) ?_
                  refine seqQ_norm ?_
                  obtain rfl := Option.some.inj h
                  refine W_run 2 [] [0, 5, 6, 7, 8, 11, 22, 23, 26, 27, 28, 32, 33, 34] [] (fr' := [(0, aD (.slice (.slice tI)) a0), (5, aI (List.length a0 : Int)), (6, aI x722), (7, aI i721), (8, aI x1010), (11, aI v1056), (22, aI (bShl .i64 (1 : Int) (List.length a0 : Int))), (23, aI i721), (26, aD (.slice (.slice tI)) a0), (27, aI (List.length a0 : Int)), (28, aI i1009), (32, aD (.slice tI) v1012), (33, aI (List.length v1012 : Int)), (34, aI (w64 (i1044 + (1 : Int))))]) (L' := []) (obs := []) (by kernel_rfl) (by kernel_rfl) (by kernel_rfl) allP0 ?_
                  exact round_next' (by kernel_rfl) (by kernel_rfl)
              · obtain rfl := stepL_false h1049 h
                refine W_exit (id := 4) [0, 5, 6, 7, 8, 11, 22, 23, 26, 27, 28] [] (fr' := [(0, aD (.slice (.slice tI)) a0), (5, aI (List.length a0 : Int)), (6, aI x722), (7, aI i721), (8, aI x1010), (11, aI x1045), (22, aI (bShl .i64 (1 : Int) (List.length a0 : Int))), (23, aI i721), (26, aD (.slice (.slice tI)) a0), (27, aI (List.length a0 : Int)), (28, aI i1009)]) (L' := []) (by kernel_rfl) (by kernel_rfl) ?_
                refine seqQ_exit ?_
                refine round_exit ?_
                exact exQ_mk (by kernel_rfl) (by kernel_rfl)
            · intro e fr L hJ
              obtain ⟨rfl, rfl, rfl⟩ := hJ
              refine LT_keep [0, 5, 6, 7, 8, 11, 22, 23, 26, 27, 28] [] (fr' := [(0, aD (.slice (.slice tI)) a0), (5, aI (List.length a0 : Int)), (6, aI x722), (7, aI i721), (8, aI x1010), (11, aI v1059), (22, aI (bShl .i64 (1 : Int) (List.length a0 : Int))), (23, aI i721), (26, aD (.slice (.slice tI)) a0), (27, aI (List.length a0 : Int)), (28, aI i1009)]) (L' := []) (by kernel_rfl) ?_
              refine blockQ_hit ?_
              refine seqQ_norm ?_
              refine W_run 4 [] [0, 5, 6, 7, 8, 22, 23, 26, 27, 28] [] (fr' := [(0, aD (.slice (.slice tI)) a0), (5, aI (List.length a0 : Int)), (6, aI x722), (7, aI i721), (8, aI (w64 (x1010 * v1059))), (22, aI (bShl .i64 (1 : Int) (List.length a0 : Int))), (23, aI i721), (26, aD (.slice (.slice tI)) a0), (27, aI (List.length a0 : Int)), (28, aI i1009)]) (L' := []) (obs := []) (by kernel_rfl) (by kernel_rfl) (by kernel_rfl) allP0 ?_
              refine blockQ_norm ?_
              refine seqQ_norm ?_
              obtain rfl := Option.some.inj h
              refine W_run 2 [] [0, 5, 6, 7, 8, 22, 23, 26, 27, 28] [] (fr' := [(0, aD (.slice (.slice tI)) a0), (5, aI (List.length a0 : Int)), (6, aI x722), (7, aI i721), (8, aI (w64 (x1010 * v1059))), (22, aI (bShl .i64 (1 : Int) (List.length a0 : Int))), (23, aI i721), (26, aD (.slice (.slice tI)) a0), (27, aI (List.length a0 : Int)), (28, aI (w64 (i1009 + (1 : Int))))]) (L' := []) (obs := []) (by kernel_rfl) (by kernel_rfl) (by kernel_rfl) allP0 ?_
              exact round_next' (by kernel_rfl) (by kernel_rfl)
          · obtain rfl := stepL_false h1014 h
            refine W_exit (id := 2) [0, 5, 6, 7, 8, 22, 23] [] (fr' := [(0, aD (.slice (.slice tI)) a0), (5, aI (List.length a0 : Int)), (6, aI x722), (7, aI i721), (8, aI x1010), (22, aI (bShl .i64 (1 : Int) (List.length a0 : Int))), (23, aI i721)]) (L' := []) (by kernel_rfl) (by kernel_rfl) ?_
            refine seqQ_exit ?_
            refine round_exit ?_
            exact exQ_mk (by kernel_rfl) (by kernel_rfl)
        · intro e fr L hJ
          obtain ⟨rfl, rfl, rfl⟩ := hJ
          refine LT_keep [0, 5, 6, 7, 8, 22, 23] [] (fr' := [(0, aD (.slice (.slice tI)) a0), (5, aI (List.length a0 : Int)), (6, aI x722), (7, aI i721), (8, aI v1065), (22, aI (bShl .i64 (1 : Int) (List.length a0 : Int))), (23, aI i721)]) (L' := []) (by kernel_rfl) ?_
          refine blockQ_hit ?_
          refine seqQ_norm ?_
          refine W_seq (by kernel_rfl) ?_
          obtain ⟨v1079, h1080, h⟩ := bind_of h
          refine W_cutK (Q' := (exQ .normal (pairs_Ways_s168 a0 i721 x722)) v1079) ?_ ?_
          · replace h := h1080
            refine W_seq (by kernel_rfl) ?_
            refine W_region (by kernel_rfl) ?_
            refine WO_run (j := 3) (k := 3) (orcs := []) (kF := [0, 5, 6, 8, 22, 23, 52, 54]) (kL := []) (fr' := [(0, aD (.slice (.slice tI)) a0), (5, aI (List.length a0 : Int)), (6, aI x722), (8, aI v1065), (22, aI (bShl .i64 (1 : Int) (List.length a0 : Int))), (23, aI i721), (52, aI (List.length a0 : Int)), (54, aD (.int .u64) (IntKind.wrap .u64 (i721)))]) (L' := []) (obs := []) rfl (by kernel_rfl) allP0 ?_
            obtain ⟨r1076, h1077, h⟩ := bind_of h
            refine WO_call0 (us := [none]) (d := 55) (p := True) (j := 4) rfl ⟨by kernel_rfl, by kernel_rfl, by kernel_rfl⟩ trivial (math_bits_OnesCount_ok h1077) (by kernel_rfl) ?_
            refine WO_run (j := 7) (k := 3) (orcs := []) (kF := [0, 5, 6, 8, 22, 23, 58]) (kL := []) (fr' := [(0, aD (.slice (.slice tI)) a0), (5, aI (List.length a0 : Int)), (6, aI x722), (8, aI v1065), (22, aI (bShl .i64 (1 : Int) (List.length a0 : Int))), (23, aI i721), (58, aB ((Int.tmod (w64 ((List.length a0 : Int) - r1076)) (2 : Int)) == (1 : Int)))]) (L' := []) (obs := [((2 : Int) ≠ 0)]) rfl (by kernel_rfl) (allP1 (by decide)) ?_
            refine WO_fin [0, 5, 6, 8, 22, 23, 58] [] (fr' := [(0, aD (.slice (.slice tI)) a0), (5, aI (List.length a0 : Int)), (6, aI x722), (8, aI v1065), (22, aI (bShl .i64 (1 : Int) (List.length a0 : Int))), (23, aI i721), (58, aB ((Int.tmod (w64 ((List.length a0 : Int) - r1076)) (2 : Int)) == (1 : Int)))]) (L' := []) (by kernel_rfl) (by kernel_rfl) ?_
            refine seqQ_norm ?_
            refine W_cond (o := .tmp 58) (b := (Int.tmod (w64 ((List.length a0 : Int) - r1076)) (2 : Int)) == (1 : Int)) (by kernel_rfl) (by kernel_rfl) (fun h1078 => ?_) (fun h1078 => ?_)
            · replace h := ofT h1078 h
              obtain rfl := Option.some.inj h
              refine W_run 3 [] [0, 5, 6, 8, 22, 23] [] (fr' := [(0, aD (.slice (.slice tI)) a0), (5, aI (List.length a0 : Int)), (6, aI x722), (8, aI (w64 (0 - v1065))), (22, aI (bShl .i64 (1 : Int) (List.length a0 : Int))), (23, aI i721)]) (L' := []) (obs := []) (by kernel_rfl) (by kernel_rfl) (by kernel_rfl) allP0 ?_
              exact exQ_mk (by kernel_rfl) (by kernel_rfl)
            · replace h := ofF h1078 h
              obtain rfl := Option.some.inj h
              refine W_skip [0, 5, 6, 8, 22, 23] [] (fr' := [(0, aD (.slice (.slice tI)) a0), (5, aI (List.length a0 : Int)), (6, aI x722), (8, aI v1065), (22, aI (bShl .i64 (1 : Int) (List.length a0 : Int))), (23, aI i721)]) (L' := []) (by kernel_rfl) (by kernel_rfl) ?_
              exact exQ_mk (by kernel_rfl) (by kernel_rfl)
          · intro e fr L hJ
            obtain ⟨rfl, rfl, rfl⟩ := hJ
            refine LT_keep [0, 5, 6, 8, 22, 23] [] (fr' := [(0, aD (.slice (.slice tI)) a0), (5, aI (List.length a0 : Int)), (6, aI x722), (8, aI v1079), (22, aI (bShl .i64 (1 : Int) (List.length a0 : Int))), (23, aI i721)]) (L' := []) (by kernel_rfl) ?_
            refine seqQ_norm ?_
            refine W_run 4 [] [0, 5, 6, 22, 23] [] (fr' := [(0, aD (.slice (.slice tI)) a0), (5, aI (List.length a0 : Int)), (6, aI (w64 (x722 + v1079))), (22, aI (bShl .i64 (1 : Int) (List.length a0 : Int))), (23, aI i721)]) (L' := []) (obs := []) (by kernel_rfl) (by kernel_rfl) (by kernel_rfl) allP0 ?_
            refine blockQ_norm ?_
            refine seqQ_norm ?_
            obtain rfl := Option.some.inj h
            refine W_run 2 [] [0, 5, 6, 22, 23] [] (fr' := [(0, aD (.slice (.slice tI)) a0), (5, aI (List.length a0 : Int)), (6, aI (w64 (x722 + v1079))), (22, aI (bShl .i64 (1 : Int) (List.length a0 : Int))), (23, aI (w64 (i721 + (1 : Int))))]) (L' := []) (obs := []) (by kernel_rfl) (by kernel_rfl) (by kernel_rfl) allP0 ?_
            exact round_next' (by kernel_rfl) (by kernel_rfl)
      · obtain rfl := stepI_false h724 h
        refine W_exit (id := 0) [6] [] (fr' := [(6, aI x722)]) (L' := []) (by kernel_rfl) (by kernel_rfl) ?_
        refine seqQ_exit ?_
        refine round_exit ?_
        exact exQ_mk (by kernel_rfl) (by kernel_rfl)
    · intro e fr L hJ
      obtain ⟨rfl, rfl, rfl⟩ := hJ
      refine LT_keep [6] [] (fr' := [(6, aI v1082)]) (L' := []) (by kernel_rfl) ?_
      refine blockQ_hit ?_
      refine seqQ_norm ?_
      refine W_seq (by kernel_rfl) ?_
      refine W_run 3 [] [2, 3] [] (fr' := [(2, aI v1082), (3, aI (0 : Int))]) (L' := []) (obs := []) (by kernel_rfl) (by kernel_rfl) (by kernel_rfl) allP0 ?_
      refine seqQ_norm ?_
      obtain rfl := Option.some.inj h
      refine W_ret [2, 3] [] (fr' := [(2, aI v1082), (3, aI (0 : Int))]) (L' := []) (by kernel_rfl) (by kernel_rfl) ?_
      exact retQ_mk (by kernel_rfl) (by kernel_rfl) (by kernel_rfl)

def ref_Within (a0 : Int) (a1 : Int) (a2 : Int) : Option Bool :=
some ((decide (a0 ≤ a1)) && (decide (a1 ≤ a2)))
theorem ref_Within_ok {a0 : Int} {a1 : Int} {a2 : Int} {r : Bool} (h : ref_Within a0 a1 a2 = some r) : FnC Try.prog 40 [aI a0, aI a1, aI a2] [] (aB r) [] := by
  refine fnC_of_W (B := bodyOf Try.f40) (n := 15) Try.func40 (by kernel_rfl) (by kernel_rfl) (by kernel_rfl) (by kernel_rfl) (by kernel_rfl) ?_
  intro K
  refine W_seq (by kernel_rfl) ?_
  refine W_run 1 [] [0, 1, 2] [] (fr' := [(0, aI a0), (1, aI a1), (2, aI a2)]) (L' := []) (obs := []) (by kernel_rfl) (by kernel_rfl) (by kernel_rfl) allP0 ?_
  refine seqQ_norm ?_
  refine W_seq (by kernel_rfl) ?_
  refine W_run 9 [] [6] [] (fr' := [(6, aB ((decide (a0 ≤ a1)) && (decide (a1 ≤ a2))))]) (L' := []) (obs := []) (by kernel_rfl) (by kernel_rfl) (by kernel_rfl) allP0 ?_
  refine seqQ_norm ?_
  obtain rfl := Option.some.inj h
  refine W_ret [6] [] (fr' := [(6, aB ((decide (a0 ≤ a1)) && (decide (a1 ≤ a2))))]) (L' := []) (by kernel_rfl) (by kernel_rfl) ?_
  exact retQ_mk (by kernel_rfl) (by kernel_rfl) (by kernel_rfl)

def ref_SquareCheck_b1 (a0 : (List (List Int))) (i14 : Int) (v17 : (List Int)) (x15 : Unit) : Option (Flow Unit (Esc Int Unit)) :=
bif (List.length v17 : Int) != (List.length a0 : Int) then
(some (.done (.ret (3 : Int))))
else
(some (.next ()))
@[reducible] def ref_SquareCheck_s2 (a0 : (List (List Int))) (v : Int × Unit) : Fr × LL := ([(0, aD (.slice (.slice tI)) a0), (13, aD (.slice (.slice tI)) a0), (14, aI (List.length a0 : Int)), (15, aI v.1)], [])
@[reducible] def ref_SquareCheck_s3 (v : Int) : Fr × LL := ([(2, aI v)], [])
@[reducible] def ref_SquareCheck_s4 (a0 : (List (List Int))) (v : Unit) : Fr × LL := ([(0, aD (.slice (.slice tI)) a0)], [])
def ref_SquareCheck_b11 (i119 : Int) (v122 : Int) (x120 : Unit) : Option (Flow Unit (Esc Int Unit)) :=
(ref_Within (-20 : Int) v122 (20 : Int)).bind fun r125 =>
bif !r125 then
(some (.done (.ret (4 : Int))))
else
(some (.next ()))
@[reducible] def ref_SquareCheck_s12 (a0 : (List (List Int))) (i99 : Int) (v102 : (List Int)) (v : Int × Unit) : Fr × LL := ([(25, aD (.slice (.slice tI)) a0), (26, aI (List.length a0 : Int)), (27, aI i99), (31, aD (.slice tI) v102), (32, aI (List.length v102 : Int)), (33, aI v.1)], [])
@[reducible] def ref_SquareCheck_s13 (v : Int) : Fr × LL := ([(2, aI v)], [])
@[reducible] def ref_SquareCheck_s14 (a0 : (List (List Int))) (i99 : Int) (v : Unit) : Fr × LL := ([(25, aD (.slice (.slice tI)) a0), (26, aI (List.length a0 : Int)), (27, aI i99)], [])
def ref_SquareCheck_b15 (i99 : Int) (v102 : (List Int)) (x100 : Unit) : Option (Flow Unit (Esc Int Unit)) :=
(forL ref_SquareCheck_b11 (fun x120 => (.brk ())) v102 0 ()).bind fun v129 =>
match v129 with
| .ret v134 =>
(some (.done (.ret v134)))
| .brk v135 =>
(some (.next ()))
@[reducible] def ref_SquareCheck_s16 (a0 : (List (List Int))) (v : Int × Unit) : Fr × LL := ([(25, aD (.slice (.slice tI)) a0), (26, aI (List.length a0 : Int)), (27, aI v.1)], [])
@[reducible] def ref_SquareCheck_s17 (v : Int) : Fr × LL := ([(2, aI v)], [])
@[reducible] def ref_SquareCheck_s18 (v : Unit) : Fr × LL := ([], [])
def ref_SquareCheck (a0 : (List (List Int))) : Option Int :=
(ref_Within (1 : Int) (List.length a0 : Int) (6 : Int)).bind fun r1 =>
bif !r1 then
(some (1 : Int))
else
((forL (ref_SquareCheck_b1 a0) (fun x15 => (.brk ())) a0 0 ()).bind fun v22 =>
match v22 with
| .ret v27 =>
(some v27)
| .brk v28 =>
((forL ref_SquareCheck_b15 (fun x100 => (.brk ())) a0 0 ()).bind fun v137 =>
match v137 with
| .ret v142 =>
(some v142)
| .brk v143 =>
(some (0 : Int))))
theorem ref_SquareCheck_ok {a0 : (List (List Int))} {r : Int} (h : ref_SquareCheck a0 = some r) : FnC Try.prog 28 [aD (.slice (.slice tI)) a0] [] (aI r) [] := by
  refine fnC_of_W (B := bodyOf Try.f28) (n := 42) Try.func28 (by kernel_rfl) (by kernel_rfl) (by kernel_rfl) (by kernel_rfl) (by kernel_rfl) ?_
  intro K
  refine W_seq (by kernel_rfl) ?_
  refine W_run 1 [] [0] [] (fr' := [(0, aD (.slice (.slice tI)) a0)]) (L' := []) (obs := []) (by kernel_rfl) (by kernel_rfl) (by kernel_rfl) allP0 ?_
  refine seqQ_norm ?_
  refine W_seq (by kernel_rfl) ?_
  refine W_seq (by kernel_rfl) ?_
  refine W_region (by kernel_rfl) ?_
  refine WO_run (j := 2) (k := 2) (orcs := []) (kF := [0, 10]) (kL := []) (fr' := [(0, aD (.slice (.slice tI)) a0), (10, aI (List.length a0 : Int))]) (L' := []) (obs := []) rfl (by kernel_rfl) allP0 ?_
  obtain ⟨r1, h2, h⟩ := bind_of h
  refine WO_call0 (us := [none, none, none]) (d := 11) (p := True) (j := 3) rfl ⟨by kernel_rfl, by kernel_rfl, by kernel_rfl⟩ trivial (ref_Within_ok h2) (by kernel_rfl) ?_
  refine WO_run (j := 4) (k := 1) (orcs := []) (kF := [0, 12]) (kL := []) (fr' := [(0, aD (.slice (.slice tI)) a0), (12, aB (!r1))]) (L' := []) (obs := []) rfl (by kernel_rfl) allP0 ?_
  refine WO_fin [0, 12] [] (fr' := [(0, aD (.slice (.slice tI)) a0), (12, aB (!r1))]) (L' := []) (by kernel_rfl) (by kernel_rfl) ?_
  refine seqQ_norm ?_
  refine W_cond (o := .tmp 12) (b := !r1) (by kernel_rfl) (by kernel_rfl) (fun h3 => ?_) (fun h3 => ?_)
  · replace h := ofT h3 h
    refine W_seq (by kernel_rfl) ?_
    refine W_run 1 [] [2] [] (fr' := [(2, aI (1 : Int))]) (L' := []) (obs := []) (by kernel_rfl) (by kernel_rfl) (by kernel_rfl) allP0 ?_
    refine seqQ_norm ?_
    obtain rfl := Option.some.inj h
    refine W_ret [2] [] (fr' := [(2, aI (1 : Int))]) (L' := []) (by kernel_rfl) (by kernel_rfl) ?_
    refine seqQ_ret ?_
    exact retQ_mk (by kernel_rfl) (by kernel_rfl) (by kernel_rfl)
  · replace h := ofF h3 h
    refine W_skip [0] [] (fr' := [(0, aD (.slice (.slice tI)) a0)]) (L' := []) (by kernel_rfl) (by kernel_rfl) ?_
    refine seqQ_norm ?_
    refine W_seq (by kernel_rfl) ?_
    refine W_seq (by kernel_rfl) ?_
    refine W_run 3 [] [0, 13, 14, 15] [] (fr' := [(0, aD (.slice (.slice tI)) a0), (13, aD (.slice (.slice tI)) a0), (14, aI (List.length a0 : Int)), (15, aI (0 : Int))]) (L' := []) (obs := []) (by kernel_rfl) (by kernel_rfl) (by kernel_rfl) allP0 ?_
    refine seqQ_norm ?_
    refine W_block (id := 0) (by kernel_rfl) ?_
    obtain ⟨v22, h23, h⟩ := bind_of h
    refine W_len (t := 13) (u := (.slice tI)) (xs := a0) (by kernel_rfl) (fun h26 => ?_)
    obtain ⟨h24, h25⟩ := forL_iter h26 h23
    refine W_weaken [0, 13, 14, 15] [] (fr' := ((ref_SquareCheck_s2 a0) ((0 : Int), ())).1) (L' := ((ref_SquareCheck_s2 a0) ((0 : Int), ())).2) (by kernel_rfl) ?_
    refine W_cutK (W_loop (S := (ref_SquareCheck_s2 a0)) (J := (escQ (exQ .ret ref_SquareCheck_s3) (exQ (.exit 0) (ref_SquareCheck_s4 a0)))) (by kernel_rfl) ?_ h24 _ v22 h25) ?_
    · rintro ⟨i14, x15⟩ s h
      refine W_seq (by kernel_rfl) ?_
      refine W_run 1 [] [0, 13, 14, 15, 16] [] (fr' := [(0, aD (.slice (.slice tI)) a0), (13, aD (.slice (.slice tI)) a0), (14, aI (List.length a0 : Int)), (15, aI i14), (16, aB (decide (i14 < (List.length a0 : Int))))]) (L' := []) (obs := []) (by kernel_rfl) (by kernel_rfl) (by kernel_rfl) allP0 ?_
      refine seqQ_norm ?_
      refine W_seq (by kernel_rfl) ?_
      refine W_cond (o := .tmp 16) (b := decide (i14 < (List.length a0 : Int))) (by kernel_rfl) (by kernel_rfl) (fun h19 => ?_) (fun h19 => ?_)
      · replace h := stepL_true h19 h
        obtain ⟨v17, _, h18, h, rfl⟩ := h
        refine W_skip [0, 13, 14, 15] [] (fr' := [(0, aD (.slice (.slice tI)) a0), (13, aD (.slice (.slice tI)) a0), (14, aI (List.length a0 : Int)), (15, aI i14)]) (L' := []) (by kernel_rfl) (by kernel_rfl) ?_
        refine seqQ_norm ?_
        refine W_seq (by kernel_rfl) ?_
        refine W_block (id := 1) (by kernel_rfl) ?_
        refine W_seq (by kernel_rfl) ?_
        refine W_run 3 [(1, .val (.dat (.slice tI) v17))] [0, 4, 13, 14, 15] [] (fr' := [(0, aD (.slice (.slice tI)) a0), (4, aD (.slice tI) v17), (13, aD (.slice (.slice tI)) a0), (14, aI (List.length a0 : Int)), (15, aI i14)]) (L' := []) (obs := [Idx a0 i14 v17]) (by kernel_rfl) (by kernel_rfl) (by kernel_rfl) (allP1 (Idx.of h18)) ?_
        refine seqQ_norm ?_
        refine W_seq (by kernel_rfl) ?_
        refine W_run 5 [] [0, 13, 14, 15, 23] [] (fr' := [(0, aD (.slice (.slice tI)) a0), (13, aD (.slice (.slice tI)) a0), (14, aI (List.length a0 : Int)), (15, aI i14), (23, aB ((List.length v17 : Int) != (List.length a0 : Int)))]) (L' := []) (obs := []) (by kernel_rfl) (by kernel_rfl) (by kernel_rfl) allP0 ?_
        refine seqQ_norm ?_
        refine W_cond (o := .tmp 23) (b := (List.length v17 : Int) != (List.length a0 : Int)) (by kernel_rfl) (by kernel_rfl) (fun h20 => ?_) (fun h20 => ?_)
        · replace h := ofT h20 h
          refine W_seq (by kernel_rfl) ?_
          refine W_run 1 [] [2] [] (fr' := [(2, aI (3 : Int))]) (L' := []) (obs := []) (by kernel_rfl) (by kernel_rfl) (by kernel_rfl) allP0 ?_
          refine seqQ_norm ?_
          obtain rfl := Option.some.inj h
          refine W_ret [2] [] (fr' := [(2, aI (3 : Int))]) (L' := []) (by kernel_rfl) (by kernel_rfl) ?_
          refine blockQ_ret ?_
          refine seqQ_ret ?_
          refine round_ret ?_
          refine escQ_ret ?_
          exact exQ_mk (by kernel_rfl) (by kernel_rfl)
        · replace h := ofF h20 h
          refine W_skip [0, 13, 14, 15] [] (fr' := [(0, aD (.slice (.slice tI)) a0), (13, aD (.slice (.slice tI)) a0), (14, aI (List.length a0 : Int)), (15, aI i14)]) (L' := []) (by kernel_rfl) (by kernel_rfl) ?_
          refine blockQ_norm ?_
          refine seqQ_norm ?_
          obtain rfl := Option.some.inj h
          refine W_run 2 [] [0, 13, 14, 15] [] (fr' := [(0, aD (.slice (.slice tI)) a0), (13, aD (.slice (.slice tI)) a0), (14, aI (List.length a0 : Int)), (15, aI (w64 (i14 + (1 : Int))))]) (L' := []) (obs := []) (by kernel_rfl) (by kernel_rfl) (by kernel_rfl) allP0 ?_
          exact round_next' (by kernel_rfl) (by kernel_rfl)
      · obtain rfl := stepL_false h19 h
        refine W_exit (id := 0) [0] [] (fr' := [(0, aD (.slice (.slice tI)) a0)]) (L' := []) (by kernel_rfl) (by kernel_rfl) ?_
        refine seqQ_exit ?_
        refine round_exit ?_
        refine escQ_brk ?_
        exact exQ_mk (by kernel_rfl) (by kernel_rfl)
    · intro e fr L hJ
      rcases v22 with v27 | v28
      · obtain ⟨rfl, rfl, rfl⟩ := hJ
        obtain rfl := Option.some.inj h
        refine LT_keep [2] [] (fr' := [(2, aI v27)]) (L' := []) (by kernel_rfl) ?_
        refine blockQ_ret ?_
        refine seqQ_ret ?_
        exact retQ_mk (by kernel_rfl) (by kernel_rfl) (by kernel_rfl)
      · obtain ⟨rfl, rfl, rfl⟩ := hJ
        refine LT_keep [0] [] (fr' := [(0, aD (.slice (.slice tI)) a0)]) (L' := []) (by kernel_rfl) ?_
        refine blockQ_hit ?_
        refine seqQ_norm ?_
        refine W_seq (by kernel_rfl) ?_
        refine W_seq (by kernel_rfl) ?_
        refine W_run 3 [] [25, 26, 27] [] (fr' := [(25, aD (.slice (.slice tI)) a0), (26, aI (List.length a0 : Int)), (27, aI (0 : Int))]) (L' := []) (obs := []) (by kernel_rfl) (by kernel_rfl) (by kernel_rfl) allP0 ?_
        refine seqQ_norm ?_
        refine W_block (id := 2) (by kernel_rfl) ?_
        obtain ⟨v137, h138, h⟩ := bind_of h
        refine W_len (t := 25) (u := (.slice tI)) (xs := a0) (by kernel_rfl) (fun h141 => ?_)
        obtain ⟨h139, h140⟩ := forL_iter h141 h138
        refine W_weaken [25, 26, 27] [] (fr' := ((ref_SquareCheck_s16 a0) ((0 : Int), ())).1) (L' := ((ref_SquareCheck_s16 a0) ((0 : Int), ())).2) (by kernel_rfl) ?_
        refine W_cutK (W_loop (S := (ref_SquareCheck_s16 a0)) (J := (escQ (exQ .ret ref_SquareCheck_s17) (exQ (.exit 2) ref_SquareCheck_s18))) (by kernel_rfl) ?_ h139 _ v137 h140) ?_
        · rintro ⟨i99, x100⟩ s h
          refine W_seq (by kernel_rfl) ?_
          refine W_run 1 [] [25, 26, 27, 28] [] (fr' := [(25, aD (.slice (.slice tI)) a0), (26, aI (List.length a0 : Int)), (27, aI i99), (28, aB (decide (i99 < (List.length a0 : Int))))]) (L' := []) (obs := []) (by kernel_rfl) (by kernel_rfl) (by kernel_rfl) allP0 ?_
          refine seqQ_norm ?_
          refine W_seq (by kernel_rfl) ?_
          refine W_cond (o := .tmp 28) (b := decide (i99 < (List.length a0 : Int))) (by kernel_rfl) (by kernel_rfl) (fun h104 => ?_) (fun h104 => ?_)
          · replace h := stepL_true h104 h
            obtain ⟨v102, _, h103, h, rfl⟩ := h
            refine W_skip [25, 26, 27] [] (fr' := [(25, aD (.slice (.slice tI)) a0), (26, aI (List.length a0 : Int)), (27, aI i99)]) (L' := []) (by kernel_rfl) (by kernel_rfl) ?_
            refine seqQ_norm ?_
            refine W_seq (by kernel_rfl) ?_
            refine W_block (id := 3) (by kernel_rfl) ?_
            refine W_seq (by kernel_rfl) ?_
            refine W_run 3 [(1, .val (.dat (.slice tI) v102))] [6, 25, 26, 27] [] (fr' := [(6, aD (.slice tI) v102), (25, aD (.slice (.slice tI)) a0), (26, aI (List.length a0 : Int)), (27, aI i99)]) (L' := []) (obs := [Idx a0 i99 v102]) (by kernel_rfl) (by kernel_rfl) (by kernel_rfl) (allP1 (Idx.of h103)) ?_
            refine seqQ_norm ?_
            refine W_seq (by kernel_rfl) ?_
            refine W_run 3 [] [25, 26, 27, 31, 32, 33] [] (fr' := [(25, aD (.slice (.slice tI)) a0), (26, aI (List.length a0 : Int)), (27, aI i99), (31, aD (.slice tI) v102), (32, aI (List.length v102 : Int)), (33, aI (0 : Int))]) (L' := []) (obs := []) (by kernel_rfl) (by kernel_rfl) (by kernel_rfl) allP0 ?_
            refine seqQ_norm ?_
            refine W_block (id := 4) (by kernel_rfl) ?_
            obtain ⟨v129, h130, h⟩ := bind_of h
            refine W_len (t := 31) (u := tI) (xs := v102) (by kernel_rfl) (fun h133 => ?_)
            obtain ⟨h131, h132⟩ := forL_iter h133 h130
            refine W_weaken [25, 26, 27, 31, 32, 33] [] (fr' := ((ref_SquareCheck_s12 a0 i99 v102) ((0 : Int), ())).1) (L' := ((ref_SquareCheck_s12 a0 i99 v102) ((0 : Int), ())).2) (by kernel_rfl) ?_
            refine W_cutK (W_loop (S := (ref_SquareCheck_s12 a0 i99 v102)) (J := (escQ (exQ .ret ref_SquareCheck_s13) (exQ (.exit 4) (ref_SquareCheck_s14 a0 i99)))) (by kernel_rfl) ?_ h131 _ v129 h132) ?_
            · rintro ⟨i119, x120⟩ s h
              refine W_seq (by kernel_rfl) ?_
              refine W_run 1 [] [25, 26, 27, 31, 32, 33, 34] [] (fr' := [(25, aD (.slice (.slice tI)) a0), (26, aI (List.length a0 : Int)), (27, aI i99), (31, aD (.slice tI) v102), (32, aI (List.length v102 : Int)), (33, aI i119), (34, aB (decide (i119 < (List.length v102 : Int))))]) (L' := []) (obs := []) (by kernel_rfl) (by kernel_rfl) (by kernel_rfl) allP0 ?_
              refine seqQ_norm ?_
              refine W_seq (by kernel_rfl) ?_
              refine W_cond (o := .tmp 34) (b := decide (i119 < (List.length v102 : Int))) (by kernel_rfl) (by kernel_rfl) (fun h124 => ?_) (fun h124 => ?_)
              · replace h := stepL_true h124 h
                obtain ⟨v122, _, h123, h, rfl⟩ := h
                refine W_skip [25, 26, 27, 31, 32, 33] [] (fr' := [(25, aD (.slice (.slice tI)) a0), (26, aI (List.length a0 : Int)), (27, aI i99), (31, aD (.slice tI) v102), (32, aI (List.length v102 : Int)), (33, aI i119)]) (L' := []) (by kernel_rfl) (by kernel_rfl) ?_
                refine seqQ_norm ?_
                refine W_seq (by kernel_rfl) ?_
                refine W_block (id := 5) (by kernel_rfl) ?_
                refine W_seq (by kernel_rfl) ?_
                refine W_run 3 [(1, .val (.dat tI v122))] [8, 25, 26, 27, 31, 32, 33] [] (fr' := [(8, aI v122), (25, aD (.slice (.slice tI)) a0), (26, aI (List.length a0 : Int)), (27, aI i99), (31, aD (.slice tI) v102), (32, aI (List.length v102 : Int)), (33, aI i119)]) (L' := []) (obs := [Idx v102 i119 v122]) (by kernel_rfl) (by kernel_rfl) (by kernel_rfl) (allP1 (Idx.of h123)) ?_
                refine seqQ_norm ?_
                refine W_seq (by kernel_rfl) ?_
                refine W_region (by kernel_rfl) ?_
                refine WO_run (j := 1) (k := 1) (orcs := []) (kF := [25, 26, 27, 31, 32, 33, 37]) (kL := []) (fr' := [(25, aD (.slice (.slice tI)) a0), (26, aI (List.length a0 : Int)), (27, aI i99), (31, aD (.slice tI) v102), (32, aI (List.length v102 : Int)), (33, aI i119), (37, aI v122)]) (L' := []) (obs := []) rfl (by kernel_rfl) allP0 ?_
                obtain ⟨r125, h126, h⟩ := bind_of h
                refine WO_call0 (us := [none, none, none]) (d := 38) (p := True) (j := 2) rfl ⟨by kernel_rfl, by kernel_rfl, by kernel_rfl⟩ trivial (ref_Within_ok h126) (by kernel_rfl) ?_
                refine WO_run (j := 3) (k := 1) (orcs := []) (kF := [25, 26, 27, 31, 32, 33, 39]) (kL := []) (fr' := [(25, aD (.slice (.slice tI)) a0), (26, aI (List.length a0 : Int)), (27, aI i99), (31, aD (.slice tI) v102), (32, aI (List.length v102 : Int)), (33, aI i119), (39, aB (!r125))]) (L' := []) (obs := []) rfl (by kernel_rfl) allP0 ?_
                refine WO_fin [25, 26, 27, 31, 32, 33, 39] [] (fr' := [(25, aD (.slice (.slice tI)) a0), (26, aI (List.length a0 : Int)), (27, aI i99), (31, aD (.slice tI) v102), (32, aI (List.length v102 : Int)), (33, aI i119), (39, aB (!r125))]) (L' := []) (by kernel_rfl) (by kernel_rfl) ?_
                refine seqQ_norm ?_
                refine W_cond (o := .tmp 39) (b := !r125) (by kernel_rfl) (by kernel_rfl) (fun h127 => ?_) (fun h127 => ?_)
                · replace h := ofT h127 h
                  refine W_seq (by kernel_rfl) ?_
                  refine W_run 1 [] [2] [] (fr' := [(2, aI (4 : Int))]) (L' := []) (obs := []) (by kernel_rfl) (by kernel_rfl) (by kernel_rfl) allP0 ?_
                  refine seqQ_norm ?_
                  obtain rfl := Option.some.inj h
                  refine W_ret [2] [] (fr' := [(2, aI (4 : Int))]) (L' := []) (by kernel_rfl) (by kernel_rfl) ?_
                  refine blockQ_ret ?_
                  refine seqQ_ret ?_
                  refine round_ret ?_
                  refine escQ_ret ?_
                  exact exQ_mk (by kernel_rfl) (by kernel_rfl)
                · replace h := ofF h127 h
                  refine W_skip [25, 26, 27, 31, 32, 33] [] (fr' := [(25, aD (.slice (.slice tI)) a0), (26, aI (List.length a0 : Int)), (27, aI i99), (31, aD (.slice tI) v102), (32, aI (List.length v102 : Int)), (33, aI i119)]) (L' := []) (by kernel_rfl) (by kernel_rfl) ?_
                  refine blockQ_norm ?_
                  refine seqQ_norm ?_
                  obtain rfl := Option.some.inj h
                  refine W_run 2 [] [25, 26, 27, 31, 32, 33] [] (fr' := [(25, aD (.slice (.slice tI)) a0), (26, aI (List.length a0 : Int)), (27, aI i99), (31, aD (.slice tI) v102), (32, aI (List.length v102 : Int)), (33, aI (w64 (i119 + (1 : Int))))]) (L' := []) (obs := []) (by kernel_rfl) (by kernel_rfl) (by kernel_rfl) allP0 ?_
                  exact round_next' (by kernel_rfl) (by kernel_rfl)
              · obtain rfl := stepL_false h124 h
                refine W_exit (id := 4) [25, 26, 27] [] (fr' := [(25, aD (.slice (.slice tI)) a0), (26, aI (List.length a0 : Int)), (27, aI i99)]) (L' := []) (by kernel_rfl) (by kernel_rfl) ?_
                refine seqQ_exit ?_
                refine round_exit ?_
                refine escQ_brk ?_
                exact exQ_mk (by kernel_rfl) (by kernel_rfl)
            · intro e fr L hJ
              rcases v129 with v134 | v135
              · obtain ⟨rfl, rfl, rfl⟩ := hJ
                obtain rfl := Option.some.inj h
                refine LT_keep [2] [] (fr' := [(2, aI v134)]) (L' := []) (by kernel_rfl) ?_
                refine blockQ_ret ?_
                refine blockQ_ret ?_
                refine seqQ_ret ?_
                refine round_ret ?_
                refine escQ_ret ?_
                exact exQ_mk (by kernel_rfl) (by kernel_rfl)
              · obtain ⟨rfl, rfl, rfl⟩ := hJ
                refine LT_keep [25, 26, 27] [] (fr' := [(25, aD (.slice (.slice tI)) a0), (26, aI (List.length a0 : Int)), (27, aI i99)]) (L' := []) (by kernel_rfl) ?_
                refine blockQ_hit ?_
                refine blockQ_norm ?_
                refine seqQ_norm ?_
                obtain rfl := Option.some.inj h
                refine W_run 2 [] [25, 26, 27] [] (fr' := [(25, aD (.slice (.slice tI)) a0), (26, aI (List.length a0 : Int)), (27, aI (w64 (i99 + (1 : Int))))]) (L' := []) (obs := []) (by kernel_rfl) (by kernel_rfl) (by kernel_rfl) allP0 ?_
                exact round_next' (by kernel_rfl) (by kernel_rfl)
          · obtain rfl := stepL_false h104 h
            refine W_exit (id := 2) [] [] (fr' := []) (L' := []) (by kernel_rfl) (by kernel_rfl) ?_
            refine seqQ_exit ?_
            refine round_exit ?_
            refine escQ_brk ?_
            exact exQ_mk (by kernel_rfl) (by kernel_rfl)
        · intro e fr L hJ
          rcases v137 with v142 | v143
          · obtain ⟨rfl, rfl, rfl⟩ := hJ
            obtain rfl := Option.some.inj h
            refine LT_keep [2] [] (fr' := [(2, aI v142)]) (L' := []) (by kernel_rfl) ?_
            refine blockQ_ret ?_
            refine seqQ_ret ?_
            exact retQ_mk (by kernel_rfl) (by kernel_rfl) (by kernel_rfl)
          · obtain ⟨rfl, rfl, rfl⟩ := hJ
            refine LT_keep [] [] (fr' := []) (L' := []) (by kernel_rfl) ?_
            refine blockQ_hit ?_
            refine seqQ_norm ?_
            refine W_seq (by kernel_rfl) ?_
            refine W_run 1 [] [2] [] (fr' := [(2, aI (0 : Int))]) (L' := []) (obs := []) (by kernel_rfl) (by kernel_rfl) (by kernel_rfl) allP0 ?_
            refine seqQ_norm ?_
            obtain rfl := Option.some.inj h
            refine W_ret [2] [] (fr' := [(2, aI (0 : Int))]) (L' := []) (by kernel_rfl) (by kernel_rfl) ?_
            exact retQ_mk (by kernel_rfl) (by kernel_rfl) (by kernel_rfl)

def ref_without_b1 (a1 : Int) (i23 : Int) (v26 : (List Int)) (x24 : (List (List Int))) : Option (Flow (List (List Int)) (List (List Int))) :=
(ck (0 ≤ (0 : Int) ∧ (0 : Int) ≤ a1 ∧ a1 ≤ (List.length v26 : Int))).bind fun _ =>
(ck ((0 : Int) + (List.length (sub v26 (0 : Int) a1) : Int) ≤ 4294967296)).bind fun _ =>
(ck (0 ≤ w64 (a1 + (1 : Int)) ∧ w64 (a1 + (1 : Int)) ≤ (List.length v26 : Int) ∧ (List.length v26 : Int) ≤ (List.length v26 : Int))).bind fun _ =>
(ck ((List.length ([] ++ (sub v26 (0 : Int) a1)) : Int) + (List.length (sub v26 (w64 (a1 + (1 : Int))) (List.length v26 : Int)) : Int) ≤ 4294967296)).bind fun _ =>
(ck ((List.length x24 : Int) + 1 ≤ 4294967296)).bind fun _ =>
some (.next (x24 ++ [([] ++ (sub v26 (0 : Int) a1)) ++ (sub v26 (w64 (a1 + (1 : Int))) (List.length v26 : Int))]))
@[reducible] def ref_without_s2 (a0 : (List (List Int))) (a1 : Int) (v : Int × (List (List Int))) : Fr × LL := ([(1, aI a1), (5, .one (.slc 27)), (9, aD (.slice (.slice tI)) (sub a0 (1 : Int) (List.length a0 : Int))), (10, aI (List.length (sub a0 (1 : Int) (List.length a0 : Int)) : Int)), (11, aI v.1)], [(27, .seq (.slice tI) v.2)])
@[reducible] def ref_without_s3 (v : (List (List Int))) : Fr × LL := ([(5, .one (.slc 27))], [(27, .seq (.slice tI) v)])
def ref_without (a0 : (List (List Int))) (a1 : Int) : Option (List (List Int)) :=
(ck (0 ≤ (1 : Int) ∧ (1 : Int) ≤ (List.length a0 : Int) ∧ (List.length a0 : Int) ≤ (List.length a0 : Int))).bind fun _ =>
(forL (ref_without_b1 a1) (fun x24 => x24) (sub a0 (1 : Int) (List.length a0 : Int)) 0 []).bind fun v37 =>
some v37
theorem ref_without_ok {a0 : (List (List Int))} {a1 : Int} {r : (List (List Int))} (h : ref_without a0 a1 = some r) : FnC Try.prog 55 [aD (.slice (.slice tI)) a0, aI a1] [] (aD (.slice (.slice tI)) r) [] := by
  refine fnC_of_W (B := bodyOf Try.f55) (n := 30) Try.func55 (by kernel_rfl) (by kernel_rfl) (by kernel_rfl) (by kernel_rfl) (by kernel_rfl) ?_
  intro K
  refine W_seq (by kernel_rfl) ?_
  refine W_run 1 [] [0, 1] [] (fr' := [(0, aD (.slice (.slice tI)) a0), (1, aI a1)]) (L' := []) (obs := []) (by kernel_rfl) (by kernel_rfl) (by kernel_rfl) allP0 ?_
  refine seqQ_norm ?_
  refine W_seq (by kernel_rfl) ?_
  refine W_run 1 [] [0, 1, 5] [] (fr' := [(0, aD (.slice (.slice tI)) a0), (1, aI a1), (5, .one (.nilS))]) (L' := []) (obs := []) (by kernel_rfl) (by kernel_rfl) (by kernel_rfl) allP0 ?_
  refine seqQ_norm ?_
  refine W_seq (by kernel_rfl) ?_
  refine W_seq (by kernel_rfl) ?_
  obtain ⟨_, h1, h⟩ := bind_of h
  replace h1 := ck_some h1
  refine W_run 4 [] [1, 5, 9, 10, 11] [] (fr' := [(1, aI a1), (5, .one (.nilS)), (9, aD (.slice (.slice tI)) (sub a0 (1 : Int) (List.length a0 : Int))), (10, aI (List.length (sub a0 (1 : Int) (List.length a0 : Int)) : Int)), (11, aI (0 : Int))]) (L' := []) (obs := [Cuts (1 : Int) (List.length a0 : Int) (List.length a0)]) (by kernel_rfl) (by kernel_rfl) (by kernel_rfl) (allP1 h1) ?_
  refine seqQ_norm ?_
  refine W_block (id := 0) (by kernel_rfl) ?_
  obtain ⟨v37, h38, h⟩ := bind_of h
  refine W_len (t := 9) (u := (.slice tI)) (xs := sub a0 (1 : Int) (List.length a0 : Int)) (by kernel_rfl) (fun h41 => ?_)
  obtain ⟨h39, h40⟩ := forL_iter h41 h38
  refine W_mine 5 27 (.slice tI) (by kernel_rfl) ?_
  refine W_weaken [1, 5, 9, 10, 11] [27] (fr' := ((ref_without_s2 a0 a1) ((0 : Int), [])).1) (L' := ((ref_without_s2 a0 a1) ((0 : Int), [])).2) (by kernel_rfl) ?_
  refine W_cutK (W_loop (S := (ref_without_s2 a0 a1)) (J := (exQ (.exit 0) ref_without_s3)) (by kernel_rfl) ?_ h39 _ v37 h40) ?_
  · rintro ⟨i23, x24⟩ s h
    refine W_seq (by kernel_rfl) ?_
    refine W_run 1 [] [1, 5, 9, 10, 11, 12] [27] (fr' := [(1, aI a1), (5, .one (.slc 27)), (9, aD (.slice (.slice tI)) (sub a0 (1 : Int) (List.length a0 : Int))), (10, aI (List.length (sub a0 (1 : Int) (List.length a0 : Int)) : Int)), (11, aI i23), (12, aB (decide (i23 < (List.length (sub a0 (1 : Int) (List.length a0 : Int)) : Int))))]) (L' := [(27, .seq (.slice tI) x24)]) (obs := []) (by kernel_rfl) (by kernel_rfl) (by kernel_rfl) allP0 ?_
    refine seqQ_norm ?_
    refine W_seq (by kernel_rfl) ?_
    refine W_cond (o := .tmp 12) (b := decide (i23 < (List.length (sub a0 (1 : Int) (List.length a0 : Int)) : Int))) (by kernel_rfl) (by kernel_rfl) (fun h28 => ?_) (fun h28 => ?_)
    · replace h := stepL_true h28 h
      obtain ⟨v26, _, h27, h, rfl⟩ := h
      refine W_skip [1, 5, 9, 10, 11] [27] (fr' := [(1, aI a1), (5, .one (.slc 27)), (9, aD (.slice (.slice tI)) (sub a0 (1 : Int) (List.length a0 : Int))), (10, aI (List.length (sub a0 (1 : Int) (List.length a0 : Int)) : Int)), (11, aI i23)]) (L' := [(27, .seq (.slice tI) x24)]) (by kernel_rfl) (by kernel_rfl) ?_
      refine seqQ_norm ?_
      refine W_seq (by kernel_rfl) ?_
      refine W_block (id := 1) (by kernel_rfl) ?_
      refine W_seq (by kernel_rfl) ?_
      refine W_run 3 [(1, .val (.dat (.slice tI) v26))] [1, 5, 7, 9, 10, 11] [27] (fr' := [(1, aI a1), (5, .one (.slc 27)), (7, aD (.slice tI) v26), (9, aD (.slice (.slice tI)) (sub a0 (1 : Int) (List.length a0 : Int))), (10, aI (List.length (sub a0 (1 : Int) (List.length a0 : Int)) : Int)), (11, aI i23)]) (L' := [(27, .seq (.slice tI) x24)]) (obs := [Idx (sub a0 (1 : Int) (List.length a0 : Int)) i23 v26]) (by kernel_rfl) (by kernel_rfl) (by kernel_rfl) (allP1 (Idx.of h27)) ?_
      refine seqQ_norm ?_
      obtain ⟨_, h31, h⟩ := bind_of h
      replace h31 := ck_some h31
      obtain ⟨_, h32, h⟩ := bind_of h
      replace h32 := ck_some h32
      obtain ⟨_, h33, h⟩ := bind_of h
      replace h33 := ck_some h33
      obtain ⟨_, h34, h⟩ := bind_of h
      replace h34 := ck_some h34
      refine W_drawC5 12 [(1, [16], [(16, .seq tI [])]), (5, [16], [(16, .seq tI ([] ++ (sub v26 (0 : Int) a1)))]), (10, [16], [])] [] [(1, .one (.slc 16)), (5, .one (.slc 16)), (10, aD (.slice tI) (([] ++ (sub v26 (0 : Int) a1)) ++ (sub v26 (w64 (a1 + (1 : Int))) (List.length v26 : Int))))] [] [] [1, 5, 9, 10, 11, 15, 26] [27] (out := [(15, .one (.slc 27)), (16, .one (.slc 16)), (17, aD (.slice tI) v26), (18, aI a1), (19, aD (.slice tI) (sub v26 (0 : Int) a1)), (20, .one (.slc 16)), (21, aD (.slice tI) v26), (22, aI a1), (23, aI (w64 (a1 + (1 : Int)))), (24, aD (.slice tI) (sub v26 (w64 (a1 + (1 : Int))) (List.length v26 : Int))), (25, aD (.slice tI) (([] ++ (sub v26 (0 : Int) a1)) ++ (sub v26 (w64 (a1 + (1 : Int))) (List.length v26 : Int)))), (26, aD (.slice (.slice tI)) [([] ++ (sub v26 (0 : Int) a1)) ++ (sub v26 (w64 (a1 + (1 : Int))) (List.length v26 : Int))])]) (obs := [Cuts (0 : Int) a1 (List.length v26), Cuts (w64 (a1 + (1 : Int))) (List.length v26 : Int) (List.length v26), True]) (calls := []) (fr' := [(1, aI a1), (5, .one (.slc 27)), (9, aD (.slice (.slice tI)) (sub a0 (1 : Int) (List.length a0 : Int))), (10, aI (List.length (sub a0 (1 : Int) (List.length a0 : Int)) : Int)), (11, aI i23), (15, .one (.slc 27)), (26, aD (.slice (.slice tI)) [([] ++ (sub v26 (0 : Int) a1)) ++ (sub v26 (w64 (a1 + (1 : Int))) (List.length v26 : Int))])]) (L' := [(27, .seq (.slice tI) x24)]) (by kernel_rfl) (by kernel_rfl) (by kernel_rfl) (by kernel_rfl) (by kernel_rfl) (allP2 h31 (allP2 h33 (allP1 trivial))) allD0 (chDo (ty := false) (d := 16) (nm := 16) (ob := .seq tI []) (av := .one (.slc 16)) (p := True) (by kernel_rfl) trivial (by kernel_rfl) (chDo (ty := false) (d := 20) (nm := 16) (ob := .seq tI ([] ++ (sub v26 (0 : Int) a1))) (av := .one (.slc 16)) (p := SmallLen (List.length ([] : (List Int)) + List.length (sub v26 (0 : Int) a1))) (by kernel_rfl) h32 (by kernel_rfl) (chFz (ty := false) (d := 25) (u := tI) (xs := ([] ++ (sub v26 (0 : Int) a1)) ++ (sub v26 (w64 (a1 + (1 : Int))) (List.length v26 : Int))) (p := SmallLen (List.length ([] ++ (sub v26 (0 : Int) a1)) + List.length (sub v26 (w64 (a1 + (1 : Int))) (List.length v26 : Int)))) (by kernel_rfl) h34 (by kernel_rfl) (by kernel_rfl) chNil))) mkNil (by kernel_rfl) ?_
      obtain ⟨_, h35, h⟩ := bind_of h
      replace h35 := ck_some h35
      refine WO_run (j := 14) (k := 2) (orcs := []) (kF := [1, 5, 9, 10, 11]) (kL := [27]) (fr' := [(1, aI a1), (5, .one (.slc 27)), (9, aD (.slice (.slice tI)) (sub a0 (1 : Int) (List.length a0 : Int))), (10, aI (List.length (sub a0 (1 : Int) (List.length a0 : Int)) : Int)), (11, aI i23)]) (L' := [(27, .seq (.slice tI) (x24 ++ [([] ++ (sub v26 (0 : Int) a1)) ++ (sub v26 (w64 (a1 + (1 : Int))) (List.length v26 : Int))]))]) (obs := [SmallLen (List.length x24 + List.length [([] ++ (sub v26 (0 : Int) a1)) ++ (sub v26 (w64 (a1 + (1 : Int))) (List.length v26 : Int))])]) rfl (by kernel_rfl) (allP1 h35) ?_
      refine WO_fin [1, 5, 9, 10, 11] [27] (fr' := [(1, aI a1), (5, .one (.slc 27)), (9, aD (.slice (.slice tI)) (sub a0 (1 : Int) (List.length a0 : Int))), (10, aI (List.length (sub a0 (1 : Int) (List.length a0 : Int)) : Int)), (11, aI i23)]) (L' := [(27, .seq (.slice tI) (x24 ++ [([] ++ (sub v26 (0 : Int) a1)) ++ (sub v26 (w64 (a1 + (1 : Int))) (List.length v26 : Int))]))]) (by kernel_rfl) (by kernel_rfl) ?_
      refine ⟨rfl, ?_⟩
      refine blockQ_norm ?_
      refine seqQ_norm ?_
      obtain rfl := Option.some.inj h
      refine W_run 2 [] [1, 5, 9, 10, 11] [27] (fr' := [(1, aI a1), (5, .one (.slc 27)), (9, aD (.slice (.slice tI)) (sub a0 (1 : Int) (List.length a0 : Int))), (10, aI (List.length (sub a0 (1 : Int) (List.length a0 : Int)) : Int)), (11, aI (w64 (i23 + (1 : Int))))]) (L' := [(27, .seq (.slice tI) (x24 ++ [([] ++ (sub v26 (0 : Int) a1)) ++ (sub v26 (w64 (a1 + (1 : Int))) (List.length v26 : Int))]))]) (obs := []) (by kernel_rfl) (by kernel_rfl) (by kernel_rfl) allP0 ?_
      exact round_next' (by kernel_rfl) (by kernel_rfl)
    · obtain rfl := stepL_false h28 h
      refine W_exit (id := 0) [5] [27] (fr' := [(5, .one (.slc 27))]) (L' := [(27, .seq (.slice tI) x24)]) (by kernel_rfl) (by kernel_rfl) ?_
      refine seqQ_exit ?_
      refine round_exit ?_
      exact exQ_mk (by kernel_rfl) (by kernel_rfl)
  · intro e fr L hJ
    obtain ⟨rfl, rfl, rfl⟩ := hJ
    refine LT_keep [5] [27] (fr' := [(5, .one (.slc 27))]) (L' := [(27, .seq (.slice tI) v37)]) (by kernel_rfl) ?_
    refine blockQ_hit ?_
    refine seqQ_norm ?_
    refine W_seq (by kernel_rfl) ?_
    refine W_run 2 [] [4] [27] (fr' := [(4, .one (.slc 27))]) (L' := [(27, .seq (.slice tI) v37)]) (obs := []) (by kernel_rfl) (by kernel_rfl) (by kernel_rfl) allP0 ?_
    refine seqQ_norm ?_
    obtain rfl := Option.some.inj h
    refine W_frz 27 (by kernel_rfl) ?_
    refine W_ret [4] [] (fr' := [(4, aD (.slice (.slice tI)) v37)]) (L' := []) (by kernel_rfl) (by kernel_rfl) ?_
    exact retQ_mk (by kernel_rfl) (by kernel_rfl) (by kernel_rfl)

def ref_Ways_b1 (a0 : (List (List Int))) (rf_ref_Ways : (List (List Int)) → Option Int) (i22 : Int) (v25 : (List Int)) (x23 : Int) : Option (Flow Int Int) :=
(idx a0 (0 : Int)).bind fun v28 =>
(idx v28 i22).bind fun v30 =>
(ref_without a0 i22).bind fun r32 =>
(rf_ref_Ways r32).bind fun r34 =>
some (.next (w64 (x23 + (w64 (v30 * r34)))))
@[reducible] def ref_Ways_s2 (a0 : (List (List Int))) (v : Int × Int) : Fr × LL := ([(0, aD (.slice (.slice tI)) a0), (3, aI v.2), (4, aI v.1)], [])
@[reducible] def ref_Ways_s3 (v : Int) : Fr × LL := ([(3, aI v)], [])
def ref_Ways_step (rf_ref_Ways : (List (List Int)) → Option Int) (fuel : Nat) (a0 : (List (List Int))) : Option Int :=
bif (List.length a0 : Int) == (0 : Int) then
(some (1 : Int))
else
((forL (ref_Ways_b1 a0 rf_ref_Ways) (fun x23 => x23) a0 0 (0 : Int)).bind fun v37 =>
some v37)
def ref_Ways : Nat → (List (List Int)) → Option Int
  | 0 => fun _ => none
  | fuel + 1 => fun a0 => ref_Ways_step (ref_Ways fuel) fuel a0
theorem ref_Ways_step_ok {rf_ref_Ways : (List (List Int)) → Option Int} (ih_ref_Ways : ∀ {a0 : (List (List Int))} {r : Int}, rf_ref_Ways a0 = some r → FnC Try.prog 31 [aD (.slice (.slice tI)) a0] [] (aI r) []) {fuel : Nat} {a0 : (List (List Int))} {r : Int} (h : ref_Ways_step rf_ref_Ways fuel a0 = some r) : FnC Try.prog 31 [aD (.slice (.slice tI)) a0] [] (aI r) [] := by
  refine fnC_of_W (B := bodyOf Try.f31) (n := 28) Try.func31 (by kernel_rfl) (by kernel_rfl) (by kernel_rfl) (by kernel_rfl) (by kernel_rfl) ?_
  intro K
  refine W_seq (by kernel_rfl) ?_
  refine W_run 1 [] [0] [] (fr' := [(0, aD (.slice (.slice tI)) a0)]) (L' := []) (obs := []) (by kernel_rfl) (by kernel_rfl) (by kernel_rfl) allP0 ?_
  refine seqQ_norm ?_
  refine W_seq (by kernel_rfl) ?_
  refine W_seq (by kernel_rfl) ?_
  refine W_run 3 [] [0, 7] [] (fr' := [(0, aD (.slice (.slice tI)) a0), (7, aB ((List.length a0 : Int) == (0 : Int)))]) (L' := []) (obs := []) (by kernel_rfl) (by kernel_rfl) (by kernel_rfl) allP0 ?_
  refine seqQ_norm ?_
  refine W_cond (o := .tmp 7) (b := (List.length a0 : Int) == (0 : Int)) (by kernel_rfl) (by kernel_rfl) (fun h1 => ?_) (fun h1 => ?_)
  · replace h := ofT h1 h
    refine W_seq (by kernel_rfl) ?_
    refine W_run 1 [] [2] [] (fr' := [(2, aI (1 : Int))]) (L' := []) (obs := []) (by kernel_rfl) (by kernel_rfl) (by kernel_rfl) allP0 ?_
    refine seqQ_norm ?_
    obtain rfl := Option.some.inj h
    refine W_ret [2] [] (fr' := [(2, aI (1 : Int))]) (L' := []) (by kernel_rfl) (by kernel_rfl) ?_
    refine seqQ_ret ?_
    exact retQ_mk (by kernel_rfl) (by kernel_rfl) (by kernel_rfl)
  · replace h := ofF h1 h
    refine W_skip [0] [] (fr' := [(0, aD (.slice (.slice tI)) a0)]) (L' := []) (by kernel_rfl) (by kernel_rfl) ?_
    refine seqQ_norm ?_
    refine W_seq (by kernel_rfl) ?_
    refine W_run 1 [] [0, 3] [] (fr' := [(0, aD (.slice (.slice tI)) a0), (3, aI (0 : Int))]) (L' := []) (obs := []) (by kernel_rfl) (by kernel_rfl) (by kernel_rfl) allP0 ?_
    refine seqQ_norm ?_
    refine W_seq (by kernel_rfl) ?_
    refine W_seq (by kernel_rfl) ?_
    refine W_run 1 [] [0, 3, 4] [] (fr' := [(0, aD (.slice (.slice tI)) a0), (3, aI (0 : Int)), (4, aI (0 : Int))]) (L' := []) (obs := []) (by kernel_rfl) (by kernel_rfl) (by kernel_rfl) allP0 ?_
    refine seqQ_norm ?_
    refine W_block (id := 0) (by kernel_rfl) ?_
    obtain ⟨v37, h38, h⟩ := bind_of h
    refine W_len (t := 0) (u := (.slice tI)) (xs := a0) (by kernel_rfl) (fun h41 => ?_)
    obtain ⟨h39, h40⟩ := forL_iter h41 h38
    refine W_weaken [0, 3, 4] [] (fr' := ((ref_Ways_s2 a0) ((0 : Int), (0 : Int))).1) (L' := ((ref_Ways_s2 a0) ((0 : Int), (0 : Int))).2) (by kernel_rfl) ?_
    refine W_cutK (W_loop (S := (ref_Ways_s2 a0)) (J := (exQ (.exit 0) ref_Ways_s3)) (by kernel_rfl) ?_ h39 _ v37 h40) ?_
    · rintro ⟨i22, x23⟩ s h
      refine W_seq (by kernel_rfl) ?_
      refine W_seq (by kernel_rfl) ?_
      refine W_run 4 [] [0, 3, 4, 11] [] (fr' := [(0, aD (.slice (.slice tI)) a0), (3, aI x23), (4, aI i22), (11, aB (decide (i22 < (List.length a0 : Int))))]) (L' := []) (obs := []) (by kernel_rfl) (by kernel_rfl) (by kernel_rfl) allP0 ?_
      refine seqQ_norm ?_
      refine W_cond (o := .tmp 11) (b := decide (i22 < (List.length a0 : Int))) (by kernel_rfl) (by kernel_rfl) (fun h27 => ?_) (fun h27 => ?_)
      · replace h := stepL_true h27 h
        obtain ⟨v25, _, h26, h, rfl⟩ := h
        refine W_skip [0, 3, 4] [] (fr' := [(0, aD (.slice (.slice tI)) a0), (3, aI x23), (4, aI i22)]) (L' := []) (by kernel_rfl) (by kernel_rfl) ?_
        refine seqQ_norm ?_
        refine W_seq (by kernel_rfl) ?_
        refine W_block (id := 1) (by kernel_rfl) ?_
        obtain ⟨v28, h29, h⟩ := bind_of h
        obtain ⟨v30, h31, h⟩ := bind_of h
        obtain ⟨r32, h33, h⟩ := bind_of h
        obtain ⟨r34, h35, h⟩ := bind_of h
        refine W_draw2 13 [(5, .val (.dat (.slice tI) v28)), (11, .val (.dat tI v30))] [(9, [none, none], aD (.slice (.slice tI)) r32), (10, [none], aI r34)] [0, 3, 4] [] (fr' := [(0, aD (.slice (.slice tI)) a0), (3, aI (w64 (x23 + (w64 (v30 * r34))))), (4, aI i22)]) (L' := []) (out := [(14, aI x23), (15, aD (.slice (.slice tI)) a0), (16, .one (.dptr (.slice tI) v28)), (17, aD (.slice tI) v28), (18, aI i22), (19, .one (.dptr tI v30)), (20, aI v30), (21, aD (.slice (.slice tI)) a0), (22, aI i22), (23, aD (.slice (.slice tI)) r32), (24, aI r34), (25, aI (w64 (v30 * r34))), (26, aI (w64 (x23 + (w64 (v30 * r34)))))]) (obs := [Idx a0 (0 : Int) v28, Idx v28 i22 v30, True, True]) (obs2 := []) (calls := [(55, [aD (.slice (.slice tI)) a0, aI i22], aD (.slice (.slice tI)) r32), (31, [aD (.slice (.slice tI)) r32], aI r34)]) (by kernel_rfl) (by kernel_rfl) (by kernel_rfl) (by kernel_rfl) (allP2 (Idx.of h29) (allP2 (Idx.of h31) (allP2 trivial (allP1 trivial)))) (allC1 (by kernel_rfl) (ref_without_ok h33) (by kernel_rfl) (allC1 (by kernel_rfl) (ih_ref_Ways h35) (by kernel_rfl) allC0)) (by kernel_rfl) allP0 ?_
        refine blockQ_norm ?_
        refine seqQ_norm ?_
        obtain rfl := Option.some.inj h
        refine W_run 3 [] [0, 3, 4] [] (fr' := [(0, aD (.slice (.slice tI)) a0), (3, aI (w64 (x23 + (w64 (v30 * r34))))), (4, aI (w64 (i22 + (1 : Int))))]) (L' := []) (obs := []) (by kernel_rfl) (by kernel_rfl) (by kernel_rfl) allP0 ?_
        exact round_next' (by kernel_rfl) (by kernel_rfl)
      · obtain rfl := stepL_false h27 h
        refine W_exit (id := 0) [3] [] (fr' := [(3, aI x23)]) (L' := []) (by kernel_rfl) (by kernel_rfl) ?_
        refine seqQ_exit ?_
        refine round_exit ?_
        exact exQ_mk (by kernel_rfl) (by kernel_rfl)
    · intro e fr L hJ
      obtain ⟨rfl, rfl, rfl⟩ := hJ
      refine LT_keep [3] [] (fr' := [(3, aI v37)]) (L' := []) (by kernel_rfl) ?_
      refine blockQ_hit ?_
      refine seqQ_norm ?_
      refine W_seq (by kernel_rfl) ?_
      refine W_run 2 [] [2] [] (fr' := [(2, aI v37)]) (L' := []) (obs := []) (by kernel_rfl) (by kernel_rfl) (by kernel_rfl) allP0 ?_
      refine seqQ_norm ?_
      obtain rfl := Option.some.inj h
      refine W_ret [2] [] (fr' := [(2, aI v37)]) (L' := []) (by kernel_rfl) (by kernel_rfl) ?_
      exact retQ_mk (by kernel_rfl) (by kernel_rfl) (by kernel_rfl)
theorem ref_Ways_ok : ∀ {fuel : Nat} {a0 : (List (List Int))} {r : Int}, ref_Ways fuel a0 = some r → FnC Try.prog 31 [aD (.slice (.slice tI)) a0] [] (aI r) [] := by
  intro fuel
  induction fuel with
  | zero => intros a0 r h; cases h
  | succ fuel ih => intros a0 r h; exact ref_Ways_step_ok (fun h => ih h) (show ref_Ways_step (ref_Ways fuel) fuel a0 = some r from h)

@[reducible] def law_PairsWays_s1 (v : Bool) : Fr × LL := ([(2, aB v)], [])
def law_PairsWays (fuel : Nat) (a0 : (List (List Int))) : Option Bool :=
(pairs_Ways a0).bind fun r1 =>
(ref_SquareCheck a0).bind fun r3 =>
bif r3 != (0 : Int) then
(some ((r1.2 == r3) && (r1.1 == (0 : Int))))
else
((bif r1.2 == (0 : Int) then
((ref_Ways fuel a0).bind fun r13 =>
some (r1.1 == r13))
else
(some false)).bind fun v15 =>
some v15)
theorem law_PairsWays_ok {fuel : Nat} {a0 : (List (List Int))} {r : Bool} (h : law_PairsWays fuel a0 = some r) : FnC Try.prog 10 [aD (.slice (.slice tI)) a0] [] (aB r) [] := by
  refine fnC_of_W (B := bodyOf Try.f10) (n := 30) Try.func10 (by kernel_rfl) (by kernel_rfl) (by kernel_rfl) (by kernel_rfl) (by kernel_rfl) ?_
  intro K
  refine W_seq (by kernel_rfl) ?_
  refine W_run 1 [] [0] [] (fr' := [(0, aD (.slice (.slice tI)) a0)]) (L' := []) (obs := []) (by kernel_rfl) (by kernel_rfl) (by kernel_rfl) allP0 ?_
  refine seqQ_norm ?_
  refine W_seq (by kernel_rfl) ?_
  refine W_region (by kernel_rfl) ?_
  refine WO_run (j := 1) (k := 1) (orcs := []) (kF := [0, 7]) (kL := []) (fr' := [(0, aD (.slice (.slice tI)) a0), (7, aD (.slice (.slice tI)) a0)]) (L' := []) (obs := []) rfl (by kernel_rfl) allP0 ?_
  obtain ⟨r1, h2, h⟩ := bind_of h
  refine WO_call0 (us := [none]) (d := 8) (p := True) (j := 2) rfl ⟨by kernel_rfl, by kernel_rfl, by kernel_rfl⟩ trivial (pairs_Ways_ok h2) (by kernel_rfl) ?_
  refine WO_run (j := 7) (k := 5) (orcs := []) (kF := [0, 3, 4]) (kL := []) (fr' := [(0, aD (.slice (.slice tI)) a0), (3, aI r1.1), (4, aI r1.2)]) (L' := []) (obs := []) rfl (by kernel_rfl) allP0 ?_
  refine WO_fin [0, 3, 4] [] (fr' := [(0, aD (.slice (.slice tI)) a0), (3, aI r1.1), (4, aI r1.2)]) (L' := []) (by kernel_rfl) (by kernel_rfl) ?_
  refine seqQ_norm ?_
  refine W_seq (by kernel_rfl) ?_
  refine W_region (by kernel_rfl) ?_
  refine WO_run (j := 1) (k := 1) (orcs := []) (kF := [0, 3, 4, 11]) (kL := []) (fr' := [(0, aD (.slice (.slice tI)) a0), (3, aI r1.1), (4, aI r1.2), (11, aD (.slice (.slice tI)) a0)]) (L' := []) (obs := []) rfl (by kernel_rfl) allP0 ?_
  obtain ⟨r3, h4, h⟩ := bind_of h
  refine WO_call0 (us := [none]) (d := 12) (p := True) (j := 2) rfl ⟨by kernel_rfl, by kernel_rfl, by kernel_rfl⟩ trivial (ref_SquareCheck_ok h4) (by kernel_rfl) ?_
  refine WO_run (j := 3) (k := 1) (orcs := []) (kF := [0, 3, 4, 5]) (kL := []) (fr' := [(0, aD (.slice (.slice tI)) a0), (3, aI r1.1), (4, aI r1.2), (5, aI r3)]) (L' := []) (obs := []) rfl (by kernel_rfl) allP0 ?_
  refine WO_fin [0, 3, 4, 5] [] (fr' := [(0, aD (.slice (.slice tI)) a0), (3, aI r1.1), (4, aI r1.2), (5, aI r3)]) (L' := []) (by kernel_rfl) (by kernel_rfl) ?_
  refine seqQ_norm ?_
  refine W_seq (by kernel_rfl) ?_
  refine W_seq (by kernel_rfl) ?_
  refine W_run 2 [] [0, 3, 4, 5, 14] [] (fr' := [(0, aD (.slice (.slice tI)) a0), (3, aI r1.1), (4, aI r1.2), (5, aI r3), (14, aB (r3 != (0 : Int)))]) (L' := []) (obs := []) (by kernel_rfl) (by kernel_rfl) (by kernel_rfl) allP0 ?_
  refine seqQ_norm ?_
  refine W_cond (o := .tmp 14) (b := r3 != (0 : Int)) (by kernel_rfl) (by kernel_rfl) (fun h5 => ?_) (fun h5 => ?_)
  · replace h := ofT h5 h
    refine W_seq (by kernel_rfl) ?_
    refine W_run 8 [] [2] [] (fr' := [(2, aB ((r1.2 == r3) && (r1.1 == (0 : Int))))]) (L' := []) (obs := []) (by kernel_rfl) (by kernel_rfl) (by kernel_rfl) allP0 ?_
    refine seqQ_norm ?_
    obtain rfl := Option.some.inj h
    refine W_ret [2] [] (fr' := [(2, aB ((r1.2 == r3) && (r1.1 == (0 : Int))))]) (L' := []) (by kernel_rfl) (by kernel_rfl) ?_
    refine seqQ_ret ?_
    exact retQ_mk (by kernel_rfl) (by kernel_rfl) (by kernel_rfl)
  · replace h := ofF h5 h
    refine W_skip [0, 3, 4] [] (fr' := [(0, aD (.slice (.slice tI)) a0), (3, aI r1.1), (4, aI r1.2)]) (L' := []) (by kernel_rfl) (by kernel_rfl) ?_
    refine seqQ_norm ?_
    refine W_seq (by kernel_rfl) ?_
    obtain ⟨v15, h16, h⟩ := bind_of h
    refine W_cutK (Q' := (exQ .normal law_PairsWays_s1) v15) ?_ ?_
    · replace h := h16
      refine W_region (by kernel_rfl) ?_
      refine WO_run (j := 3) (k := 3) (orcs := []) (kF := [0, 3, 24]) (kL := []) (fr' := [(0, aD (.slice (.slice tI)) a0), (3, aI r1.1), (24, aB (r1.2 == (0 : Int)))]) (L' := []) (obs := []) rfl (by kernel_rfl) allP0 ?_
      rcases Bool.eq_false_or_eq_true (r1.2 == (0 : Int)) with h12 | h12
      · replace h := ofT h12 h
        refine WO_run (j := 5) (k := 2) (orcs := [(6, .known true), (8, .known true)]) (kF := [24, 25, 26]) (kL := []) (fr' := [(24, aB (r1.2 == (0 : Int))), (25, aI r1.1), (26, aD (.slice (.slice tI)) a0)]) (L' := []) (obs := [((r1.2 == (0 : Int)) = true), ((r1.2 == (0 : Int)) = true)]) rfl (by kernel_rfl) (allP2 h12 (allP1 h12)) ?_
        obtain ⟨r13, h14, h⟩ := bind_of h
        refine WO_call0 (us := [none]) (d := 27) (p := ((r1.2 == (0 : Int)) = true)) (j := 6) rfl ⟨by kernel_rfl, by kernel_rfl, by kernel_rfl⟩ h12 (ref_Ways_ok h14) (by kernel_rfl) ?_
        refine WO_run (j := 9) (k := 3) (orcs := [(12, .known true), (15, .val (.dat .bool true))]) (kF := [2]) (kL := []) (fr' := [(2, aB (r1.1 == r13))]) (L' := []) (obs := [((r1.2 == (0 : Int)) = true), ((r1.2 == (0 : Int)) = true)]) rfl (by kernel_rfl) (allP2 h12 (allP1 h12)) ?_
        obtain rfl := Option.some.inj h
        refine WO_fin [2] [] (fr' := [(2, aB (r1.1 == r13))]) (L' := []) (by kernel_rfl) (by kernel_rfl) ?_
        exact exQ_mk (by kernel_rfl) (by kernel_rfl)
      · replace h := ofF h12 h
        refine WO_run (j := 9) (k := 6) (orcs := [(6, .known false), (8, .known false), (10, .known false), (12, .known false), (15, .val (.dat .bool false))]) (kF := [2]) (kL := []) (fr' := [(2, aB false)]) (L' := []) (obs := [((r1.2 == (0 : Int)) = false), ((r1.2 == (0 : Int)) = false), ((r1.2 == (0 : Int)) = false), ((r1.2 == (0 : Int)) = false), ((r1.2 == (0 : Int)) = false)]) rfl (by kernel_rfl) (allP2 h12 (allP2 h12 (allP2 h12 (allP2 h12 (allP1 h12))))) ?_
        obtain rfl := Option.some.inj h
        refine WO_fin [2] [] (fr' := [(2, aB false)]) (L' := []) (by kernel_rfl) (by kernel_rfl) ?_
        exact exQ_mk (by kernel_rfl) (by kernel_rfl)
    · intro e fr L hJ
      obtain ⟨rfl, rfl, rfl⟩ := hJ
      refine LT_keep [2] [] (fr' := [(2, aB v15)]) (L' := []) (by kernel_rfl) ?_
      refine seqQ_norm ?_
      obtain rfl := Option.some.inj h
      refine W_ret [2] [] (fr' := [(2, aB v15)]) (L' := []) (by kernel_rfl) (by kernel_rfl) ?_
      exact retQ_mk (by kernel_rfl) (by kernel_rfl) (by kernel_rfl)
end Go.Proofs.Ytjghcbdfpcpahaa.pairsWays
