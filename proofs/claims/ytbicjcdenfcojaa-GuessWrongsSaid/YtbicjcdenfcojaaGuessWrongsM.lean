/- What the functions that GuessWrongs calls compute, as models, and that they compute it: written by a program of mine. -/
import Derived.Test.YtbicjcdenfcojaaProg
import Derived.Test.YtbicjcdenfcojaaSl4
set_option linter.all false
set_option maxRecDepth 100000
namespace Go.Proofs.Ytbicjcdenfcojaa.guessWrongs
open Go Go.Sl
def guess_wrong_1 (a0 : (List Int)) (c0 : Int) : Option Bool :=
some ((List.length a0 : Int) != c0)
theorem guess_wrong_1_ok {a0 : (List Int)} {c0 : Int} {r : Bool} (h : guess_wrong_1 a0 c0 = some r) : FnC Try.prog 59 [aD (.slice tI) a0, .one (.ptr 1000 0)] [(1000, .cells [.dat tI c0])] (aB r) [(1000, .cells [.dat tI c0])] := by
  refine fnC_of_W (B := bodyOf Try.f59) (n := 8) Try.func59 (by kernel_rfl) (by kernel_rfl) (by kernel_rfl) (by kernel_rfl) (by kernel_rfl) ?_
  intro K
  refine W_seq (by kernel_rfl) ?_
  refine W_run 1 [] [0, 1] [1000] (fr' := [(0, aD (.slice tI) a0), (1, .one (.ptr 1000 0))]) (L' := [(1000, .cells [.dat tI c0])]) (obs := []) (by kernel_rfl) (by kernel_rfl) (by kernel_rfl) allP0 ?_
  refine seqQ_norm ?_
  refine W_seq (by kernel_rfl) ?_
  refine W_run 5 [] [3] [1000] (fr' := [(3, aB ((List.length a0 : Int) != c0))]) (L' := [(1000, .cells [.dat tI c0])]) (obs := []) (by kernel_rfl) (by kernel_rfl) (by kernel_rfl) allP0 ?_
  refine seqQ_norm ?_
  obtain rfl := Option.some.inj h
  refine W_ret [3] [1000] (fr' := [(3, aB ((List.length a0 : Int) != c0))]) (L' := [(1000, .cells [.dat tI c0])]) (by kernel_rfl) (by kernel_rfl) ?_
  exact retQ_mk (by kernel_rfl) (by kernel_rfl) (by kernel_rfl)

def slices_IndexFunc_LLintLint_with_guess_wrong_1_b1 (c0 : Int) (i15 : Int) (v18 : (List Int)) (x16 : Unit) : Option (Flow Unit (Esc Int Unit)) :=
(guess_wrong_1 v18 c0).bind fun r21 =>
bif r21 then
(some (.done (.ret i15)))
else
(some (.next ()))
@[reducible] def slices_IndexFunc_LLintLint_with_guess_wrong_1_s2 (a0 : (List (List Int))) (c0 : Int) (v : Int × Unit) : Fr × LL := ([(0, aD (.slice (.slice tI)) a0), (1, .one (.fn 59 [(1000, 0)])), (7, aI (List.length a0 : Int)), (8, aI v.1)], [(1000, .cells [.dat tI c0])])
@[reducible] def slices_IndexFunc_LLintLint_with_guess_wrong_1_s3 (c0 : Int) (v : Int) : Fr × LL := ([(4, aI v)], [(1000, .cells [.dat tI c0])])
@[reducible] def slices_IndexFunc_LLintLint_with_guess_wrong_1_s4 (c0 : Int) (v : Unit) : Fr × LL := ([], [(1000, .cells [.dat tI c0])])
def slices_IndexFunc_LLintLint_with_guess_wrong_1 (a0 : (List (List Int))) (c0 : Int) : Option Int :=
(forL (slices_IndexFunc_LLintLint_with_guess_wrong_1_b1 c0) (fun x16 => (.brk ())) a0 0 ()).bind fun v25 =>
match v25 with
| .ret v30 =>
(some v30)
| .brk v31 =>
(some (-1 : Int))
theorem slices_IndexFunc_LLintLint_with_guess_wrong_1_ok {a0 : (List (List Int))} {c0 : Int} {r : Int} (h : slices_IndexFunc_LLintLint_with_guess_wrong_1 a0 c0 = some r) : FnC Try.prog 66 [aD (.slice (.slice tI)) a0, .one (.fn 59 [(1000, 0)])] [(1000, .cells [.dat tI c0])] (aI r) [(1000, .cells [.dat tI c0])] := by
  refine fnC_of_W (B := bodyOf Try.f66) (n := 19) Try.func66 (by kernel_rfl) (by kernel_rfl) (by kernel_rfl) (by kernel_rfl) (by kernel_rfl) ?_
  intro K
  refine W_seq (by kernel_rfl) ?_
  refine W_run 1 [] [0, 1] [1000] (fr' := [(0, aD (.slice (.slice tI)) a0), (1, .one (.fn 59 [(1000, 0)]))]) (L' := [(1000, .cells [.dat tI c0])]) (obs := []) (by kernel_rfl) (by kernel_rfl) (by kernel_rfl) allP0 ?_
  refine seqQ_norm ?_
  refine W_seq (by kernel_rfl) ?_
  refine W_seq (by kernel_rfl) ?_
  refine W_run 3 [] [0, 1, 7, 8] [1000] (fr' := [(0, aD (.slice (.slice tI)) a0), (1, .one (.fn 59 [(1000, 0)])), (7, aI (List.length a0 : Int)), (8, aI (0 : Int))]) (L' := [(1000, .cells [.dat tI c0])]) (obs := []) (by kernel_rfl) (by kernel_rfl) (by kernel_rfl) allP0 ?_
  refine seqQ_norm ?_
  refine W_block (id := 0) (by kernel_rfl) ?_
  obtain ⟨v25, h26, h⟩ := bind_of h
  refine W_len (t := 0) (u := (.slice tI)) (xs := a0) (by kernel_rfl) (fun h29 => ?_)
  obtain ⟨h27, h28⟩ := forL_iter h29 h26
  refine W_weaken [0, 1, 7, 8] [1000] (fr' := ((slices_IndexFunc_LLintLint_with_guess_wrong_1_s2 a0 c0) ((0 : Int), ())).1) (L' := ((slices_IndexFunc_LLintLint_with_guess_wrong_1_s2 a0 c0) ((0 : Int), ())).2) (by kernel_rfl) ?_
  refine W_cutK (W_loop (S := (slices_IndexFunc_LLintLint_with_guess_wrong_1_s2 a0 c0)) (J := (escQ (exQ .ret (slices_IndexFunc_LLintLint_with_guess_wrong_1_s3 c0)) (exQ (.exit 0) (slices_IndexFunc_LLintLint_with_guess_wrong_1_s4 c0)))) (by kernel_rfl) ?_ h27 _ v25 h28) ?_
  · rintro ⟨i15, x16⟩ s h
    refine W_seq (by kernel_rfl) ?_
    refine W_run 1 [] [0, 1, 7, 8, 9] [1000] (fr' := [(0, aD (.slice (.slice tI)) a0), (1, .one (.fn 59 [(1000, 0)])), (7, aI (List.length a0 : Int)), (8, aI i15), (9, aB (decide (i15 < (List.length a0 : Int))))]) (L' := [(1000, .cells [.dat tI c0])]) (obs := []) (by kernel_rfl) (by kernel_rfl) (by kernel_rfl) allP0 ?_
    refine seqQ_norm ?_
    refine W_seq (by kernel_rfl) ?_
    refine W_cond (o := .tmp 9) (b := decide (i15 < (List.length a0 : Int))) (by kernel_rfl) (by kernel_rfl) (fun h20 => ?_) (fun h20 => ?_)
    · replace h := stepL_true h20 h
      obtain ⟨v18, _, h19, h, rfl⟩ := h
      refine W_skip [0, 1, 7, 8] [1000] (fr' := [(0, aD (.slice (.slice tI)) a0), (1, .one (.fn 59 [(1000, 0)])), (7, aI (List.length a0 : Int)), (8, aI i15)]) (L' := [(1000, .cells [.dat tI c0])]) (by kernel_rfl) (by kernel_rfl) ?_
      refine seqQ_norm ?_
      refine W_seq (by kernel_rfl) ?_
      refine W_block (id := 1) (by kernel_rfl) ?_
      refine W_seq (by kernel_rfl) ?_
      refine W_run 2 [] [0, 1, 5, 7, 8] [1000] (fr' := [(0, aD (.slice (.slice tI)) a0), (1, .one (.fn 59 [(1000, 0)])), (5, aI i15), (7, aI (List.length a0 : Int)), (8, aI i15)]) (L' := [(1000, .cells [.dat tI c0])]) (obs := []) (by kernel_rfl) (by kernel_rfl) (by kernel_rfl) allP0 ?_
      refine seqQ_norm ?_
      refine W_seq (by kernel_rfl) ?_
      refine W_region (by kernel_rfl) ?_
      refine WO_run (j := 5) (k := 5) (orcs := [(7, .val (.dat (.slice tI) v18))]) (kF := [0, 1, 5, 7, 8, 11, 15]) (kL := [1000]) (fr' := [(0, aD (.slice (.slice tI)) a0), (1, .one (.fn 59 [(1000, 0)])), (5, aI i15), (7, aI (List.length a0 : Int)), (8, aI i15), (11, .one (.fn 59 [(1000, 0)])), (15, aD (.slice tI) v18)]) (L' := [(1000, .cells [.dat tI c0])]) (obs := [Idx a0 i15 v18]) rfl (by kernel_rfl) (allP1 (Idx.of h19)) ?_
      obtain ⟨r21, h22, h⟩ := bind_of h
      refine WO_lend [(1000, 1000)] (us := [none, none]) (d := 16) (p := True) (j := 6) rfl ⟨by kernel_rfl, by kernel_rfl, by kernel_rfl⟩ trivial (guess_wrong_1_ok h22) (by kernel_rfl) (by kernel_rfl) ?_
      refine WO_fin [0, 1, 5, 7, 8, 16] [1000] (fr' := [(0, aD (.slice (.slice tI)) a0), (1, .one (.fn 59 [(1000, 0)])), (5, aI i15), (7, aI (List.length a0 : Int)), (8, aI i15), (16, aB r21)]) (L' := [(1000, .cells [.dat tI c0])]) (by kernel_rfl) (by kernel_rfl) ?_
      refine seqQ_norm ?_
      refine W_cond (o := .tmp 16) (b := r21) (by kernel_rfl) (by kernel_rfl) (fun h23 => ?_) (fun h23 => ?_)
      · replace h := ofT h23 h
        refine W_seq (by kernel_rfl) ?_
        refine W_run 2 [] [4] [1000] (fr' := [(4, aI i15)]) (L' := [(1000, .cells [.dat tI c0])]) (obs := []) (by kernel_rfl) (by kernel_rfl) (by kernel_rfl) allP0 ?_
        refine seqQ_norm ?_
        obtain rfl := Option.some.inj h
        refine W_ret [4] [1000] (fr' := [(4, aI i15)]) (L' := [(1000, .cells [.dat tI c0])]) (by kernel_rfl) (by kernel_rfl) ?_
        refine blockQ_ret ?_
        refine seqQ_ret ?_
        refine round_ret ?_
        refine escQ_ret ?_
        exact exQ_mk (by kernel_rfl) (by kernel_rfl)
      · replace h := ofF h23 h
        refine W_skip [0, 1, 7, 8] [1000] (fr' := [(0, aD (.slice (.slice tI)) a0), (1, .one (.fn 59 [(1000, 0)])), (7, aI (List.length a0 : Int)), (8, aI i15)]) (L' := [(1000, .cells [.dat tI c0])]) (by kernel_rfl) (by kernel_rfl) ?_
        refine blockQ_norm ?_
        refine seqQ_norm ?_
        obtain rfl := Option.some.inj h
        refine W_run 2 [] [0, 1, 7, 8] [1000] (fr' := [(0, aD (.slice (.slice tI)) a0), (1, .one (.fn 59 [(1000, 0)])), (7, aI (List.length a0 : Int)), (8, aI (w64 (i15 + (1 : Int))))]) (L' := [(1000, .cells [.dat tI c0])]) (obs := []) (by kernel_rfl) (by kernel_rfl) (by kernel_rfl) allP0 ?_
        exact round_next' (by kernel_rfl) (by kernel_rfl)
    · obtain rfl := stepL_false h20 h
      refine W_exit (id := 0) [] [1000] (fr' := []) (L' := [(1000, .cells [.dat tI c0])]) (by kernel_rfl) (by kernel_rfl) ?_
      refine seqQ_exit ?_
      refine round_exit ?_
      refine escQ_brk ?_
      exact exQ_mk (by kernel_rfl) (by kernel_rfl)
  · intro e fr L hJ
    rcases v25 with v30 | v31
    · obtain ⟨rfl, rfl, rfl⟩ := hJ
      obtain rfl := Option.some.inj h
      refine LT_keep [4] [1000] (fr' := [(4, aI v30)]) (L' := [(1000, .cells [.dat tI c0])]) (by kernel_rfl) ?_
      refine blockQ_ret ?_
      refine seqQ_ret ?_
      exact retQ_mk (by kernel_rfl) (by kernel_rfl) (by kernel_rfl)
    · obtain ⟨rfl, rfl, rfl⟩ := hJ
      refine LT_keep [] [1000] (fr' := []) (L' := [(1000, .cells [.dat tI c0])]) (by kernel_rfl) ?_
      refine blockQ_hit ?_
      refine seqQ_norm ?_
      refine W_seq (by kernel_rfl) ?_
      refine W_run 1 [] [4] [1000] (fr' := [(4, aI (-1 : Int))]) (L' := [(1000, .cells [.dat tI c0])]) (obs := []) (by kernel_rfl) (by kernel_rfl) (by kernel_rfl) allP0 ?_
      refine seqQ_norm ?_
      obtain rfl := Option.some.inj h
      refine W_ret [4] [1000] (fr' := [(4, aI (-1 : Int))]) (L' := [(1000, .cells [.dat tI c0])]) (by kernel_rfl) (by kernel_rfl) ?_
      exact retQ_mk (by kernel_rfl) (by kernel_rfl) (by kernel_rfl)

def slices_ContainsFunc_LLintLint_with_guess_wrong_1 (a0 : (List (List Int))) (c0 : Int) : Option Bool :=
(slices_IndexFunc_LLintLint_with_guess_wrong_1 a0 c0).bind fun r1 =>
some (decide (r1 ≥ (0 : Int)))
theorem slices_ContainsFunc_LLintLint_with_guess_wrong_1_ok {a0 : (List (List Int))} {c0 : Int} {r : Bool} (h : slices_ContainsFunc_LLintLint_with_guess_wrong_1 a0 c0 = some r) : FnC Try.prog 58 [aD (.slice (.slice tI)) a0, .one (.fn 59 [(1000, 0)])] [(1000, .cells [.dat tI c0])] (aB r) [(1000, .cells [.dat tI c0])] := by
  refine fnC_of_W (B := bodyOf Try.f58) (n := 9) Try.func58 (by kernel_rfl) (by kernel_rfl) (by kernel_rfl) (by kernel_rfl) (by kernel_rfl) ?_
  intro K
  refine W_seq (by kernel_rfl) ?_
  refine W_run 1 [] [0, 1] [1000] (fr' := [(0, aD (.slice (.slice tI)) a0), (1, .one (.fn 59 [(1000, 0)]))]) (L' := [(1000, .cells [.dat tI c0])]) (obs := []) (by kernel_rfl) (by kernel_rfl) (by kernel_rfl) allP0 ?_
  refine seqQ_norm ?_
  refine W_seq (by kernel_rfl) ?_
  refine W_region (by kernel_rfl) ?_
  refine WO_run (j := 2) (k := 2) (orcs := []) (kF := [5, 6]) (kL := [1000]) (fr' := [(5, aD (.slice (.slice tI)) a0), (6, .one (.fn 59 [(1000, 0)]))]) (L' := [(1000, .cells [.dat tI c0])]) (obs := []) rfl (by kernel_rfl) allP0 ?_
  obtain ⟨r1, h2, h⟩ := bind_of h
  refine WO_lend [(1000, 1000)] (us := [none, none]) (d := 7) (p := True) (j := 3) rfl ⟨by kernel_rfl, by kernel_rfl, by kernel_rfl⟩ trivial (slices_IndexFunc_LLintLint_with_guess_wrong_1_ok h2) (by kernel_rfl) (by kernel_rfl) ?_
  refine WO_run (j := 5) (k := 2) (orcs := []) (kF := [4]) (kL := [1000]) (fr' := [(4, aB (decide (r1 ≥ (0 : Int))))]) (L' := [(1000, .cells [.dat tI c0])]) (obs := []) rfl (by kernel_rfl) allP0 ?_
  refine WO_fin [4] [1000] (fr' := [(4, aB (decide (r1 ≥ (0 : Int))))]) (L' := [(1000, .cells [.dat tI c0])]) (by kernel_rfl) (by kernel_rfl) ?_
  refine seqQ_norm ?_
  obtain rfl := Option.some.inj h
  refine W_ret [4] [1000] (fr' := [(4, aB (decide (r1 ≥ (0 : Int))))]) (L' := [(1000, .cells [.dat tI c0])]) (by kernel_rfl) (by kernel_rfl) ?_
  exact retQ_mk (by kernel_rfl) (by kernel_rfl) (by kernel_rfl)

@[reducible] def slices_Grow_LLintLint_s2 (v : (List (List Int))) : Fr × LL := ([(0, .one (.slc 22))], [(22, .seq (.slice tI) v)])
def slices_Grow_LLintLint (a1 : Int) : Option (List (List Int)) :=
bif decide (a1 < (0 : Int)) then
(none)
else
((bif decide ((w64 (a1 - (0 : Int))) > (0 : Int)) then
((ck (0 ≤ w64 (a1 - (0 : Int)) ∧ w64 (a1 - (0 : Int)) ≤ 4294967296)).bind fun _ =>
some [])
else
(some [])).bind fun v19 =>
some v19)
theorem slices_Grow_LLintLint_ok {a1 : Int} {r : (List (List Int))} (h : slices_Grow_LLintLint a1 = some r) : FnC Try.prog 68 [.one (.nilS), aI a1] [] (.one (.slc 22)) [(22, .seq (.slice tI) r)] := by
  refine fnC_of_W (B := bodyOf Try.f68) (n := 27) Try.func68 (by kernel_rfl) (by kernel_rfl) (by kernel_rfl) (by kernel_rfl) (by kernel_rfl) ?_
  intro K
  refine W_seq (by kernel_rfl) ?_
  refine W_run 1 [] [0, 1] [] (fr' := [(0, .one (.nilS)), (1, aI a1)]) (L' := []) (obs := []) (by kernel_rfl) (by kernel_rfl) (by kernel_rfl) allP0 ?_
  refine seqQ_norm ?_
  refine W_seq (by kernel_rfl) ?_
  refine W_seq (by kernel_rfl) ?_
  refine W_run 2 [] [0, 1, 6] [] (fr' := [(0, .one (.nilS)), (1, aI a1), (6, aB (decide (a1 < (0 : Int))))]) (L' := []) (obs := []) (by kernel_rfl) (by kernel_rfl) (by kernel_rfl) allP0 ?_
  refine seqQ_norm ?_
  refine W_cond (o := .tmp 6) (b := decide (a1 < (0 : Int))) (by kernel_rfl) (by kernel_rfl) (fun h12 => ?_) (fun h12 => ?_)
  · replace h := ofT h12 h
    cases h
  · replace h := ofF h12 h
    refine W_skip [0, 1] [] (fr' := [(0, .one (.nilS)), (1, aI a1)]) (L' := []) (by kernel_rfl) (by kernel_rfl) ?_
    refine seqQ_norm ?_
    refine W_seq (by kernel_rfl) ?_
    obtain ⟨v19, h20, h⟩ := bind_of h
    refine W_cutK (Q' := (exQ .normal slices_Grow_LLintLint_s2) v19) ?_ ?_
    · replace h := h20
      refine W_seq (by kernel_rfl) ?_
      refine W_region (by kernel_rfl) ?_
      refine WO_run (j := 2) (k := 2) (orcs := []) (kF := [0, 1, 8, 9]) (kL := []) (fr' := [(0, .one (.nilS)), (1, aI a1), (8, aI a1), (9, .one (.nilS))]) (L' := []) (obs := []) rfl (by kernel_rfl) allP0 ?_
      refine WO_g [0, 1, 8, 9, 10] [] (fr' := [(0, .one (.nilS)), (1, aI a1), (8, aI a1), (9, .one (.nilS)), (10, aI (0 : Int))]) (L' := []) (p := True) (j := 3) rfl (by kernel_rfl) trivial ?_
      refine WO_run (j := 8) (k := 5) (orcs := []) (kF := [0, 1]) (kL := []) (fr' := [(0, .one (.nilS)), (1, aI (w64 (a1 - (0 : Int))))]) (L' := []) (obs := []) rfl (by kernel_rfl) allP0 ?_
      refine WO_fin [0, 1] [] (fr' := [(0, .one (.nilS)), (1, aI (w64 (a1 - (0 : Int))))]) (L' := []) (by kernel_rfl) (by kernel_rfl) ?_
      refine seqQ_norm ?_
      refine W_seq (by kernel_rfl) ?_
      refine W_run 2 [] [0, 1, 16] [] (fr' := [(0, .one (.nilS)), (1, aI (w64 (a1 - (0 : Int)))), (16, aB (decide ((w64 (a1 - (0 : Int))) > (0 : Int))))]) (L' := []) (obs := []) (by kernel_rfl) (by kernel_rfl) (by kernel_rfl) allP0 ?_
      refine seqQ_norm ?_
      refine W_cond (o := .tmp 16) (b := decide ((w64 (a1 - (0 : Int))) > (0 : Int))) (by kernel_rfl) (by kernel_rfl) (fun h17 => ?_) (fun h17 => ?_)
      · replace h := ofT h17 h
        refine W_region (by kernel_rfl) ?_
        refine WO_run (j := 2) (k := 2) (orcs := []) (kF := [0, 1, 17, 18]) (kL := []) (fr' := [(0, .one (.nilS)), (1, aI (w64 (a1 - (0 : Int)))), (17, .one (.nilS)), (18, .one (.nilS))]) (L' := []) (obs := []) rfl (by kernel_rfl) allP0 ?_
        refine WO_g [0, 1, 17, 18, 19] [] (fr' := [(0, .one (.nilS)), (1, aI (w64 (a1 - (0 : Int)))), (17, .one (.nilS)), (18, .one (.nilS)), (19, aI (0 : Int))]) (L' := []) (p := True) (j := 3) rfl (by kernel_rfl) trivial ?_
        refine WO_g [0, 1, 17, 18, 19, 20] [] (fr' := [(0, .one (.nilS)), (1, aI (w64 (a1 - (0 : Int)))), (17, .one (.nilS)), (18, .one (.nilS)), (19, aI (0 : Int)), (20, .one (.nilS))]) (L' := []) (p := True) (j := 4) rfl (by kernel_rfl) trivial ?_
        obtain ⟨_, h18, h⟩ := bind_of h
        replace h18 := ck_some h18
        refine WO_run (j := 5) (k := 1) (orcs := []) (kF := [0, 20, 21]) (kL := []) (fr' := [(0, .one (.nilS)), (20, .one (.nilS)), (21, aI (w64 (a1 - (0 : Int))))]) (L' := []) (obs := []) rfl (by kernel_rfl) allP0 ?_
        refine WO_g [0, 20, 21, 22] [22] (fr' := [(0, .one (.nilS)), (20, .one (.nilS)), (21, aI (w64 (a1 - (0 : Int)))), (22, .one (.slc 22))]) (L' := [(22, .seq (.slice tI) (List.replicate (Int.toNat (w64 (a1 - (0 : Int)))) []))]) (p := 0 ≤ w64 (a1 - (0 : Int)) ∧ SmallLen (w64 (a1 - (0 : Int)))) (j := 6) rfl (by kernel_rfl) h18 ?_
        refine WO_run (j := 8) (k := 2) (orcs := []) (kF := [0, 22, 24]) (kL := [22]) (fr' := [(0, .one (.nilS)), (22, .one (.slc 22)), (24, aI (0 : Int))]) (L' := [(22, .seq (.slice tI) (List.replicate (Int.toNat (w64 (a1 - (0 : Int)))) []))]) (obs := []) rfl (by kernel_rfl) allP0 ?_
        refine WO_g [0, 24, 25] [22] (fr' := [(0, .one (.nilS)), (24, aI (0 : Int)), (25, .one (.slc 22))]) (L' := [(22, .seq (.slice tI) [])]) (p := 0 ≤ (0 : Int) ∧ (0 : Int) ≤ (List.length (List.replicate (Int.toNat (w64 (a1 - (0 : Int)))) [] : (List (List Int))) : Int)) (j := 9) rfl (by kernel_rfl) ⟨(by decide), (by omega)⟩ ?_
        refine WO_run (j := 10) (k := 1) (orcs := []) (kF := [0]) (kL := [22]) (fr' := [(0, .one (.slc 22))]) (L' := [(22, .seq (.slice tI) [])]) (obs := []) rfl (by kernel_rfl) allP0 ?_
        obtain rfl := Option.some.inj h
        refine WO_fin [0] [22] (fr' := [(0, .one (.slc 22))]) (L' := [(22, .seq (.slice tI) [])]) (by kernel_rfl) (by kernel_rfl) ?_
        exact exQ_mk (by kernel_rfl) (by kernel_rfl)
      · replace h := ofF h17 h
        obtain rfl := Option.some.inj h
        refine W_mine 0 22 (.slice tI) (by kernel_rfl) ?_
        refine W_skip [0] [22] (fr' := [(0, .one (.slc 22))]) (L' := [(22, .seq (.slice tI) [])]) (by kernel_rfl) (by kernel_rfl) ?_
        exact exQ_mk (by kernel_rfl) (by kernel_rfl)
    · intro e fr L hJ
      obtain ⟨rfl, rfl, rfl⟩ := hJ
      refine LT_keep [0] [22] (fr' := [(0, .one (.slc 22))]) (L' := [(22, .seq (.slice tI) v19)]) (by kernel_rfl) ?_
      refine seqQ_norm ?_
      refine W_seq (by kernel_rfl) ?_
      refine W_run 2 [] [4] [22] (fr' := [(4, .one (.slc 22))]) (L' := [(22, .seq (.slice tI) v19)]) (obs := []) (by kernel_rfl) (by kernel_rfl) (by kernel_rfl) allP0 ?_
      refine seqQ_norm ?_
      obtain rfl := Option.some.inj h
      refine W_ret [4] [22] (fr' := [(4, .one (.slc 22))]) (L' := [(22, .seq (.slice tI) v19)]) (by kernel_rfl) (by kernel_rfl) ?_
      exact retQ_mk (by kernel_rfl) (by kernel_rfl) (by kernel_rfl)

def slices_Concat_LLintLint_b7 (i72 : Int) (v75 : (List (List Int))) (x73 : Int) : Option (Flow Int Int) :=
bif decide ((w64 (x73 + (List.length v75 : Int))) < (0 : Int)) then
(none)
else
(some (.next (w64 (x73 + (List.length v75 : Int)))))
@[reducible] def slices_Concat_LLintLint_s8 (a0 : (List (List (List Int)))) (v : Int × Int) : Fr × LL := ([(0, aD (.slice (.slice (.slice tI))) a0), (3, aI v.2), (9, aD (.slice (.slice (.slice tI))) a0), (10, aI (List.length a0 : Int)), (11, aI v.1)], [])
@[reducible] def slices_Concat_LLintLint_s9 (a0 : (List (List (List Int)))) (v : Int) : Fr × LL := ([(0, aD (.slice (.slice (.slice tI))) a0), (3, aI v)], [])
def slices_Concat_LLintLint_b10 (i98 : Int) (v101 : (List (List Int))) (x99 : (List (List Int))) : Option (Flow (List (List Int)) (List (List Int))) :=
(ck ((List.length x99 : Int) + (List.length v101 : Int) ≤ 4294967296)).bind fun _ =>
some (.next (x99 ++ v101))
@[reducible] def slices_Concat_LLintLint_s11 (a0 : (List (List (List Int)))) (v : Int × (List (List Int))) : Fr × LL := ([(6, .one (.slc 24)), (25, aD (.slice (.slice (.slice tI))) a0), (26, aI (List.length a0 : Int)), (27, aI v.1)], [(24, .seq (.slice tI) v.2)])
@[reducible] def slices_Concat_LLintLint_s12 (v : (List (List Int))) : Fr × LL := ([(6, .one (.slc 24))], [(24, .seq (.slice tI) v)])
def slices_Concat_LLintLint (a0 : (List (List (List Int)))) : Option (List (List Int)) :=
(forL slices_Concat_LLintLint_b7 (fun x73 => x73) a0 0 (0 : Int)).bind fun v81 =>
(slices_Grow_LLintLint v81).bind fun r86 =>
(forL slices_Concat_LLintLint_b10 (fun x99 => x99) a0 0 r86).bind fun v106 =>
some v106
theorem slices_Concat_LLintLint_ok {a0 : (List (List (List Int)))} {r : (List (List Int))} (h : slices_Concat_LLintLint a0 = some r) : FnC Try.prog 61 [aD (.slice (.slice (.slice tI))) a0] [] (.one (.slc 24)) [(24, .seq (.slice tI) r)] := by
  refine fnC_of_W (B := bodyOf Try.f61) (n := 36) Try.func61 (by kernel_rfl) (by kernel_rfl) (by kernel_rfl) (by kernel_rfl) (by kernel_rfl) ?_
  intro K
  refine W_seq (by kernel_rfl) ?_
  refine W_run 1 [] [0] [] (fr' := [(0, aD (.slice (.slice (.slice tI))) a0)]) (L' := []) (obs := []) (by kernel_rfl) (by kernel_rfl) (by kernel_rfl) allP0 ?_
  refine seqQ_norm ?_
  refine W_seq (by kernel_rfl) ?_
  refine W_run 1 [] [0, 3] [] (fr' := [(0, aD (.slice (.slice (.slice tI))) a0), (3, aI (0 : Int))]) (L' := []) (obs := []) (by kernel_rfl) (by kernel_rfl) (by kernel_rfl) allP0 ?_
  refine seqQ_norm ?_
  refine W_seq (by kernel_rfl) ?_
  refine W_seq (by kernel_rfl) ?_
  refine W_run 3 [] [0, 3, 9, 10, 11] [] (fr' := [(0, aD (.slice (.slice (.slice tI))) a0), (3, aI (0 : Int)), (9, aD (.slice (.slice (.slice tI))) a0), (10, aI (List.length a0 : Int)), (11, aI (0 : Int))]) (L' := []) (obs := []) (by kernel_rfl) (by kernel_rfl) (by kernel_rfl) allP0 ?_
  refine seqQ_norm ?_
  refine W_block (id := 0) (by kernel_rfl) ?_
  obtain ⟨v81, h82, h⟩ := bind_of h
  refine W_len (t := 9) (u := (.slice (.slice tI))) (xs := a0) (by kernel_rfl) (fun h85 => ?_)
  obtain ⟨h83, h84⟩ := forL_iter h85 h82
  refine W_weaken [0, 3, 9, 10, 11] [] (fr' := ((slices_Concat_LLintLint_s8 a0) ((0 : Int), (0 : Int))).1) (L' := ((slices_Concat_LLintLint_s8 a0) ((0 : Int), (0 : Int))).2) (by kernel_rfl) ?_
  refine W_cutK (W_loop (S := (slices_Concat_LLintLint_s8 a0)) (J := (exQ (.exit 0) (slices_Concat_LLintLint_s9 a0))) (by kernel_rfl) ?_ h83 _ v81 h84) ?_
  · rintro ⟨i72, x73⟩ s h
    refine W_seq (by kernel_rfl) ?_
    refine W_run 1 [] [0, 3, 9, 10, 11, 12] [] (fr' := [(0, aD (.slice (.slice (.slice tI))) a0), (3, aI x73), (9, aD (.slice (.slice (.slice tI))) a0), (10, aI (List.length a0 : Int)), (11, aI i72), (12, aB (decide (i72 < (List.length a0 : Int))))]) (L' := []) (obs := []) (by kernel_rfl) (by kernel_rfl) (by kernel_rfl) allP0 ?_
    refine seqQ_norm ?_
    refine W_seq (by kernel_rfl) ?_
    refine W_cond (o := .tmp 12) (b := decide (i72 < (List.length a0 : Int))) (by kernel_rfl) (by kernel_rfl) (fun h77 => ?_) (fun h77 => ?_)
    · replace h := stepL_true h77 h
      obtain ⟨v75, _, h76, h, rfl⟩ := h
      refine W_skip [0, 3, 9, 10, 11] [] (fr' := [(0, aD (.slice (.slice (.slice tI))) a0), (3, aI x73), (9, aD (.slice (.slice (.slice tI))) a0), (10, aI (List.length a0 : Int)), (11, aI i72)]) (L' := []) (by kernel_rfl) (by kernel_rfl) ?_
      refine seqQ_norm ?_
      refine W_seq (by kernel_rfl) ?_
      refine W_block (id := 1) (by kernel_rfl) ?_
      refine W_seq (by kernel_rfl) ?_
      refine W_run 3 [(1, .val (.dat (.slice (.slice tI)) v75))] [0, 3, 5, 9, 10, 11] [] (fr' := [(0, aD (.slice (.slice (.slice tI))) a0), (3, aI x73), (5, aD (.slice (.slice tI)) v75), (9, aD (.slice (.slice (.slice tI))) a0), (10, aI (List.length a0 : Int)), (11, aI i72)]) (L' := []) (obs := [Idx a0 i72 v75]) (by kernel_rfl) (by kernel_rfl) (by kernel_rfl) (allP1 (Idx.of h76)) ?_
      refine seqQ_norm ?_
      refine W_seq (by kernel_rfl) ?_
      refine W_run 5 [] [0, 3, 9, 10, 11] [] (fr' := [(0, aD (.slice (.slice (.slice tI))) a0), (3, aI (w64 (x73 + (List.length v75 : Int)))), (9, aD (.slice (.slice (.slice tI))) a0), (10, aI (List.length a0 : Int)), (11, aI i72)]) (L' := []) (obs := []) (by kernel_rfl) (by kernel_rfl) (by kernel_rfl) allP0 ?_
      refine seqQ_norm ?_
      refine W_seq (by kernel_rfl) ?_
      refine W_run 2 [] [0, 3, 9, 10, 11, 20] [] (fr' := [(0, aD (.slice (.slice (.slice tI))) a0), (3, aI (w64 (x73 + (List.length v75 : Int)))), (9, aD (.slice (.slice (.slice tI))) a0), (10, aI (List.length a0 : Int)), (11, aI i72), (20, aB (decide ((w64 (x73 + (List.length v75 : Int))) < (0 : Int))))]) (L' := []) (obs := []) (by kernel_rfl) (by kernel_rfl) (by kernel_rfl) allP0 ?_
      refine seqQ_norm ?_
      refine W_cond (o := .tmp 20) (b := decide ((w64 (x73 + (List.length v75 : Int))) < (0 : Int))) (by kernel_rfl) (by kernel_rfl) (fun h79 => ?_) (fun h79 => ?_)
      · replace h := ofT h79 h
        cases h
      · replace h := ofF h79 h
        refine W_skip [0, 3, 9, 10, 11] [] (fr' := [(0, aD (.slice (.slice (.slice tI))) a0), (3, aI (w64 (x73 + (List.length v75 : Int)))), (9, aD (.slice (.slice (.slice tI))) a0), (10, aI (List.length a0 : Int)), (11, aI i72)]) (L' := []) (by kernel_rfl) (by kernel_rfl) ?_
        refine blockQ_norm ?_
        refine seqQ_norm ?_
        obtain rfl := Option.some.inj h
        refine W_run 2 [] [0, 3, 9, 10, 11] [] (fr' := [(0, aD (.slice (.slice (.slice tI))) a0), (3, aI (w64 (x73 + (List.length v75 : Int)))), (9, aD (.slice (.slice (.slice tI))) a0), (10, aI (List.length a0 : Int)), (11, aI (w64 (i72 + (1 : Int))))]) (L' := []) (obs := []) (by kernel_rfl) (by kernel_rfl) (by kernel_rfl) allP0 ?_
        exact round_next' (by kernel_rfl) (by kernel_rfl)
    · obtain rfl := stepL_false h77 h
      refine W_exit (id := 0) [0, 3] [] (fr' := [(0, aD (.slice (.slice (.slice tI))) a0), (3, aI x73)]) (L' := []) (by kernel_rfl) (by kernel_rfl) ?_
      refine seqQ_exit ?_
      refine round_exit ?_
      exact exQ_mk (by kernel_rfl) (by kernel_rfl)
  · intro e fr L hJ
    obtain ⟨rfl, rfl, rfl⟩ := hJ
    refine LT_keep [0, 3] [] (fr' := [(0, aD (.slice (.slice (.slice tI))) a0), (3, aI v81)]) (L' := []) (by kernel_rfl) ?_
    refine blockQ_hit ?_
    refine seqQ_norm ?_
    refine W_seq (by kernel_rfl) ?_
    refine W_region (by kernel_rfl) ?_
    refine WO_run (j := 1) (k := 1) (orcs := []) (kF := [0, 23]) (kL := []) (fr' := [(0, aD (.slice (.slice (.slice tI))) a0), (23, aI v81)]) (L' := []) (obs := []) rfl (by kernel_rfl) allP0 ?_
    obtain ⟨r86, h87, h⟩ := bind_of h
    refine WO_call1 (us := [none, none]) (d := 24) (t := 24) (p := True) (j := 2) rfl ⟨by kernel_rfl, by kernel_rfl, by kernel_rfl⟩ trivial (slices_Grow_LLintLint_ok h87) (by kernel_rfl) ?_
    refine WO_run (j := 3) (k := 1) (orcs := []) (kF := [0, 6]) (kL := [24]) (fr' := [(0, aD (.slice (.slice (.slice tI))) a0), (6, .one (.slc 24))]) (L' := [(24, .seq (.slice tI) r86)]) (obs := []) rfl (by kernel_rfl) allP0 ?_
    refine WO_fin [0, 6] [24] (fr' := [(0, aD (.slice (.slice (.slice tI))) a0), (6, .one (.slc 24))]) (L' := [(24, .seq (.slice tI) r86)]) (by kernel_rfl) (by kernel_rfl) ?_
    refine seqQ_norm ?_
    refine W_seq (by kernel_rfl) ?_
    refine W_seq (by kernel_rfl) ?_
    refine W_run 3 [] [6, 25, 26, 27] [24] (fr' := [(6, .one (.slc 24)), (25, aD (.slice (.slice (.slice tI))) a0), (26, aI (List.length a0 : Int)), (27, aI (0 : Int))]) (L' := [(24, .seq (.slice tI) r86)]) (obs := []) (by kernel_rfl) (by kernel_rfl) (by kernel_rfl) allP0 ?_
    refine seqQ_norm ?_
    refine W_block (id := 2) (by kernel_rfl) ?_
    obtain ⟨v106, h107, h⟩ := bind_of h
    refine W_len (t := 25) (u := (.slice (.slice tI))) (xs := a0) (by kernel_rfl) (fun h110 => ?_)
    obtain ⟨h108, h109⟩ := forL_iter h110 h107
    refine W_weaken [6, 25, 26, 27] [24] (fr' := ((slices_Concat_LLintLint_s11 a0) ((0 : Int), r86)).1) (L' := ((slices_Concat_LLintLint_s11 a0) ((0 : Int), r86)).2) (by kernel_rfl) ?_
    refine W_cutK (W_loop (S := (slices_Concat_LLintLint_s11 a0)) (J := (exQ (.exit 2) slices_Concat_LLintLint_s12)) (by kernel_rfl) ?_ h108 _ v106 h109) ?_
    · rintro ⟨i98, x99⟩ s h
      refine W_seq (by kernel_rfl) ?_
      refine W_run 1 [] [6, 25, 26, 27, 28] [24] (fr' := [(6, .one (.slc 24)), (25, aD (.slice (.slice (.slice tI))) a0), (26, aI (List.length a0 : Int)), (27, aI i98), (28, aB (decide (i98 < (List.length a0 : Int))))]) (L' := [(24, .seq (.slice tI) x99)]) (obs := []) (by kernel_rfl) (by kernel_rfl) (by kernel_rfl) allP0 ?_
      refine seqQ_norm ?_
      refine W_seq (by kernel_rfl) ?_
      refine W_cond (o := .tmp 28) (b := decide (i98 < (List.length a0 : Int))) (by kernel_rfl) (by kernel_rfl) (fun h103 => ?_) (fun h103 => ?_)
      · replace h := stepL_true h103 h
        obtain ⟨v101, _, h102, h, rfl⟩ := h
        refine W_skip [6, 25, 26, 27] [24] (fr' := [(6, .one (.slc 24)), (25, aD (.slice (.slice (.slice tI))) a0), (26, aI (List.length a0 : Int)), (27, aI i98)]) (L' := [(24, .seq (.slice tI) x99)]) (by kernel_rfl) (by kernel_rfl) ?_
        refine seqQ_norm ?_
        refine W_seq (by kernel_rfl) ?_
        refine W_block (id := 3) (by kernel_rfl) ?_
        refine W_seq (by kernel_rfl) ?_
        refine W_run 3 [(1, .val (.dat (.slice (.slice tI)) v101))] [6, 8, 25, 26, 27] [24] (fr' := [(6, .one (.slc 24)), (8, aD (.slice (.slice tI)) v101), (25, aD (.slice (.slice (.slice tI))) a0), (26, aI (List.length a0 : Int)), (27, aI i98)]) (L' := [(24, .seq (.slice tI) x99)]) (obs := [Idx a0 i98 v101]) (by kernel_rfl) (by kernel_rfl) (by kernel_rfl) (allP1 (Idx.of h102)) ?_
        refine seqQ_norm ?_
        obtain ⟨_, h104, h⟩ := bind_of h
        replace h104 := ck_some h104
        refine W_run 4 [] [6, 25, 26, 27] [24] (fr' := [(6, .one (.slc 24)), (25, aD (.slice (.slice (.slice tI))) a0), (26, aI (List.length a0 : Int)), (27, aI i98)]) (L' := [(24, .seq (.slice tI) (x99 ++ v101))]) (obs := [SmallLen (List.length x99 + List.length v101)]) (by kernel_rfl) (by kernel_rfl) (by kernel_rfl) (allP1 h104) ?_
        refine blockQ_norm ?_
        refine seqQ_norm ?_
        obtain rfl := Option.some.inj h
        refine W_run 2 [] [6, 25, 26, 27] [24] (fr' := [(6, .one (.slc 24)), (25, aD (.slice (.slice (.slice tI))) a0), (26, aI (List.length a0 : Int)), (27, aI (w64 (i98 + (1 : Int))))]) (L' := [(24, .seq (.slice tI) (x99 ++ v101))]) (obs := []) (by kernel_rfl) (by kernel_rfl) (by kernel_rfl) allP0 ?_
        exact round_next' (by kernel_rfl) (by kernel_rfl)
      · obtain rfl := stepL_false h103 h
        refine W_exit (id := 2) [6] [24] (fr' := [(6, .one (.slc 24))]) (L' := [(24, .seq (.slice tI) x99)]) (by kernel_rfl) (by kernel_rfl) ?_
        refine seqQ_exit ?_
        refine round_exit ?_
        exact exQ_mk (by kernel_rfl) (by kernel_rfl)
    · intro e fr L hJ
      obtain ⟨rfl, rfl, rfl⟩ := hJ
      refine LT_keep [6] [24] (fr' := [(6, .one (.slc 24))]) (L' := [(24, .seq (.slice tI) v106)]) (by kernel_rfl) ?_
      refine blockQ_hit ?_
      refine seqQ_norm ?_
      refine W_seq (by kernel_rfl) ?_
      refine W_run 2 [] [2] [24] (fr' := [(2, .one (.slc 24))]) (L' := [(24, .seq (.slice tI) v106)]) (obs := []) (by kernel_rfl) (by kernel_rfl) (by kernel_rfl) allP0 ?_
      refine seqQ_norm ?_
      obtain rfl := Option.some.inj h
      refine W_ret [2] [24] (fr' := [(2, .one (.slc 24))]) (L' := [(24, .seq (.slice tI) v106)]) (by kernel_rfl) (by kernel_rfl) ?_
      exact retQ_mk (by kernel_rfl) (by kernel_rfl) (by kernel_rfl)

@[reducible] def slices_Grow_Lintint_s2 (v : (List Int)) : Fr × LL := ([(0, .one (.slc 22))], [(22, .seq tI v)])
def slices_Grow_Lintint (a1 : Int) : Option (List Int) :=
bif decide (a1 < (0 : Int)) then
(none)
else
((bif decide ((w64 (a1 - (0 : Int))) > (0 : Int)) then
((ck (0 ≤ w64 (a1 - (0 : Int)) ∧ w64 (a1 - (0 : Int)) ≤ 4294967296)).bind fun _ =>
some [])
else
(some [])).bind fun v19 =>
some v19)
theorem slices_Grow_Lintint_ok {a1 : Int} {r : (List Int)} (h : slices_Grow_Lintint a1 = some r) : FnC Try.prog 67 [.one (.nilS), aI a1] [] (.one (.slc 22)) [(22, .seq tI r)] := by
  refine fnC_of_W (B := bodyOf Try.f67) (n := 27) Try.func67 (by kernel_rfl) (by kernel_rfl) (by kernel_rfl) (by kernel_rfl) (by kernel_rfl) ?_
  intro K
  refine W_seq (by kernel_rfl) ?_
  refine W_run 1 [] [0, 1] [] (fr' := [(0, .one (.nilS)), (1, aI a1)]) (L' := []) (obs := []) (by kernel_rfl) (by kernel_rfl) (by kernel_rfl) allP0 ?_
  refine seqQ_norm ?_
  refine W_seq (by kernel_rfl) ?_
  refine W_seq (by kernel_rfl) ?_
  refine W_run 2 [] [0, 1, 6] [] (fr' := [(0, .one (.nilS)), (1, aI a1), (6, aB (decide (a1 < (0 : Int))))]) (L' := []) (obs := []) (by kernel_rfl) (by kernel_rfl) (by kernel_rfl) allP0 ?_
  refine seqQ_norm ?_
  refine W_cond (o := .tmp 6) (b := decide (a1 < (0 : Int))) (by kernel_rfl) (by kernel_rfl) (fun h12 => ?_) (fun h12 => ?_)
  · replace h := ofT h12 h
    cases h
  · replace h := ofF h12 h
    refine W_skip [0, 1] [] (fr' := [(0, .one (.nilS)), (1, aI a1)]) (L' := []) (by kernel_rfl) (by kernel_rfl) ?_
    refine seqQ_norm ?_
    refine W_seq (by kernel_rfl) ?_
    obtain ⟨v19, h20, h⟩ := bind_of h
    refine W_cutK (Q' := (exQ .normal slices_Grow_Lintint_s2) v19) ?_ ?_
    · replace h := h20
      refine W_seq (by kernel_rfl) ?_
      refine W_region (by kernel_rfl) ?_
      refine WO_run (j := 2) (k := 2) (orcs := []) (kF := [0, 1, 8, 9]) (kL := []) (fr' := [(0, .one (.nilS)), (1, aI a1), (8, aI a1), (9, .one (.nilS))]) (L' := []) (obs := []) rfl (by kernel_rfl) allP0 ?_
      refine WO_g [0, 1, 8, 9, 10] [] (fr' := [(0, .one (.nilS)), (1, aI a1), (8, aI a1), (9, .one (.nilS)), (10, aI (0 : Int))]) (L' := []) (p := True) (j := 3) rfl (by kernel_rfl) trivial ?_
      refine WO_run (j := 8) (k := 5) (orcs := []) (kF := [0, 1]) (kL := []) (fr' := [(0, .one (.nilS)), (1, aI (w64 (a1 - (0 : Int))))]) (L' := []) (obs := []) rfl (by kernel_rfl) allP0 ?_
      refine WO_fin [0, 1] [] (fr' := [(0, .one (.nilS)), (1, aI (w64 (a1 - (0 : Int))))]) (L' := []) (by kernel_rfl) (by kernel_rfl) ?_
      refine seqQ_norm ?_
      refine W_seq (by kernel_rfl) ?_
      refine W_run 2 [] [0, 1, 16] [] (fr' := [(0, .one (.nilS)), (1, aI (w64 (a1 - (0 : Int)))), (16, aB (decide ((w64 (a1 - (0 : Int))) > (0 : Int))))]) (L' := []) (obs := []) (by kernel_rfl) (by kernel_rfl) (by kernel_rfl) allP0 ?_
      refine seqQ_norm ?_
      refine W_cond (o := .tmp 16) (b := decide ((w64 (a1 - (0 : Int))) > (0 : Int))) (by kernel_rfl) (by kernel_rfl) (fun h17 => ?_) (fun h17 => ?_)
      · replace h := ofT h17 h
        refine W_region (by kernel_rfl) ?_
        refine WO_run (j := 2) (k := 2) (orcs := []) (kF := [0, 1, 17, 18]) (kL := []) (fr' := [(0, .one (.nilS)), (1, aI (w64 (a1 - (0 : Int)))), (17, .one (.nilS)), (18, .one (.nilS))]) (L' := []) (obs := []) rfl (by kernel_rfl) allP0 ?_
        refine WO_g [0, 1, 17, 18, 19] [] (fr' := [(0, .one (.nilS)), (1, aI (w64 (a1 - (0 : Int)))), (17, .one (.nilS)), (18, .one (.nilS)), (19, aI (0 : Int))]) (L' := []) (p := True) (j := 3) rfl (by kernel_rfl) trivial ?_
        refine WO_g [0, 1, 17, 18, 19, 20] [] (fr' := [(0, .one (.nilS)), (1, aI (w64 (a1 - (0 : Int)))), (17, .one (.nilS)), (18, .one (.nilS)), (19, aI (0 : Int)), (20, .one (.nilS))]) (L' := []) (p := True) (j := 4) rfl (by kernel_rfl) trivial ?_
        obtain ⟨_, h18, h⟩ := bind_of h
        replace h18 := ck_some h18
        refine WO_run (j := 5) (k := 1) (orcs := []) (kF := [0, 20, 21]) (kL := []) (fr' := [(0, .one (.nilS)), (20, .one (.nilS)), (21, aI (w64 (a1 - (0 : Int))))]) (L' := []) (obs := []) rfl (by kernel_rfl) allP0 ?_
        refine WO_g [0, 20, 21, 22] [22] (fr' := [(0, .one (.nilS)), (20, .one (.nilS)), (21, aI (w64 (a1 - (0 : Int)))), (22, .one (.slc 22))]) (L' := [(22, .seq tI (List.replicate (Int.toNat (w64 (a1 - (0 : Int)))) (0 : Int)))]) (p := 0 ≤ w64 (a1 - (0 : Int)) ∧ SmallLen (w64 (a1 - (0 : Int)))) (j := 6) rfl (by kernel_rfl) h18 ?_
        refine WO_run (j := 8) (k := 2) (orcs := []) (kF := [0, 22, 24]) (kL := [22]) (fr' := [(0, .one (.nilS)), (22, .one (.slc 22)), (24, aI (0 : Int))]) (L' := [(22, .seq tI (List.replicate (Int.toNat (w64 (a1 - (0 : Int)))) (0 : Int)))]) (obs := []) rfl (by kernel_rfl) allP0 ?_
        refine WO_g [0, 24, 25] [22] (fr' := [(0, .one (.nilS)), (24, aI (0 : Int)), (25, .one (.slc 22))]) (L' := [(22, .seq tI [])]) (p := 0 ≤ (0 : Int) ∧ (0 : Int) ≤ (List.length (List.replicate (Int.toNat (w64 (a1 - (0 : Int)))) (0 : Int) : (List Int)) : Int)) (j := 9) rfl (by kernel_rfl) ⟨(by decide), (by omega)⟩ ?_
        refine WO_run (j := 10) (k := 1) (orcs := []) (kF := [0]) (kL := [22]) (fr' := [(0, .one (.slc 22))]) (L' := [(22, .seq tI [])]) (obs := []) rfl (by kernel_rfl) allP0 ?_
        obtain rfl := Option.some.inj h
        refine WO_fin [0] [22] (fr' := [(0, .one (.slc 22))]) (L' := [(22, .seq tI [])]) (by kernel_rfl) (by kernel_rfl) ?_
        exact exQ_mk (by kernel_rfl) (by kernel_rfl)
      · replace h := ofF h17 h
        obtain rfl := Option.some.inj h
        refine W_mine 0 22 tI (by kernel_rfl) ?_
        refine W_skip [0] [22] (fr' := [(0, .one (.slc 22))]) (L' := [(22, .seq tI [])]) (by kernel_rfl) (by kernel_rfl) ?_
        exact exQ_mk (by kernel_rfl) (by kernel_rfl)
    · intro e fr L hJ
      obtain ⟨rfl, rfl, rfl⟩ := hJ
      refine LT_keep [0] [22] (fr' := [(0, .one (.slc 22))]) (L' := [(22, .seq tI v19)]) (by kernel_rfl) ?_
      refine seqQ_norm ?_
      refine W_seq (by kernel_rfl) ?_
      refine W_run 2 [] [4] [22] (fr' := [(4, .one (.slc 22))]) (L' := [(22, .seq tI v19)]) (obs := []) (by kernel_rfl) (by kernel_rfl) (by kernel_rfl) allP0 ?_
      refine seqQ_norm ?_
      obtain rfl := Option.some.inj h
      refine W_ret [4] [22] (fr' := [(4, .one (.slc 22))]) (L' := [(22, .seq tI v19)]) (by kernel_rfl) (by kernel_rfl) ?_
      exact retQ_mk (by kernel_rfl) (by kernel_rfl) (by kernel_rfl)

def slices_Concat_Lintint_b7 (i72 : Int) (v75 : (List Int)) (x73 : Int) : Option (Flow Int Int) :=
bif decide ((w64 (x73 + (List.length v75 : Int))) < (0 : Int)) then
(none)
else
(some (.next (w64 (x73 + (List.length v75 : Int)))))
@[reducible] def slices_Concat_Lintint_s8 (a0 : (List (List Int))) (v : Int × Int) : Fr × LL := ([(0, aD (.slice (.slice tI)) a0), (3, aI v.2), (9, aD (.slice (.slice tI)) a0), (10, aI (List.length a0 : Int)), (11, aI v.1)], [])
@[reducible] def slices_Concat_Lintint_s9 (a0 : (List (List Int))) (v : Int) : Fr × LL := ([(0, aD (.slice (.slice tI)) a0), (3, aI v)], [])
def slices_Concat_Lintint_b10 (i98 : Int) (v101 : (List Int)) (x99 : (List Int)) : Option (Flow (List Int) (List Int)) :=
(ck ((List.length x99 : Int) + (List.length v101 : Int) ≤ 4294967296)).bind fun _ =>
some (.next (x99 ++ v101))
@[reducible] def slices_Concat_Lintint_s11 (a0 : (List (List Int))) (v : Int × (List Int)) : Fr × LL := ([(6, .one (.slc 24)), (25, aD (.slice (.slice tI)) a0), (26, aI (List.length a0 : Int)), (27, aI v.1)], [(24, .seq tI v.2)])
@[reducible] def slices_Concat_Lintint_s12 (v : (List Int)) : Fr × LL := ([(6, .one (.slc 24))], [(24, .seq tI v)])
def slices_Concat_Lintint (a0 : (List (List Int))) : Option (List Int) :=
(forL slices_Concat_Lintint_b7 (fun x73 => x73) a0 0 (0 : Int)).bind fun v81 =>
(slices_Grow_Lintint v81).bind fun r86 =>
(forL slices_Concat_Lintint_b10 (fun x99 => x99) a0 0 r86).bind fun v106 =>
some v106
theorem slices_Concat_Lintint_ok {a0 : (List (List Int))} {r : (List Int)} (h : slices_Concat_Lintint a0 = some r) : FnC Try.prog 60 [aD (.slice (.slice tI)) a0] [] (.one (.slc 24)) [(24, .seq tI r)] := by
  refine fnC_of_W (B := bodyOf Try.f60) (n := 36) Try.func60 (by kernel_rfl) (by kernel_rfl) (by kernel_rfl) (by kernel_rfl) (by kernel_rfl) ?_
  intro K
  refine W_seq (by kernel_rfl) ?_
  refine W_run 1 [] [0] [] (fr' := [(0, aD (.slice (.slice tI)) a0)]) (L' := []) (obs := []) (by kernel_rfl) (by kernel_rfl) (by kernel_rfl) allP0 ?_
  refine seqQ_norm ?_
  refine W_seq (by kernel_rfl) ?_
  refine W_run 1 [] [0, 3] [] (fr' := [(0, aD (.slice (.slice tI)) a0), (3, aI (0 : Int))]) (L' := []) (obs := []) (by kernel_rfl) (by kernel_rfl) (by kernel_rfl) allP0 ?_
  refine seqQ_norm ?_
  refine W_seq (by kernel_rfl) ?_
  refine W_seq (by kernel_rfl) ?_
  refine W_run 3 [] [0, 3, 9, 10, 11] [] (fr' := [(0, aD (.slice (.slice tI)) a0), (3, aI (0 : Int)), (9, aD (.slice (.slice tI)) a0), (10, aI (List.length a0 : Int)), (11, aI (0 : Int))]) (L' := []) (obs := []) (by kernel_rfl) (by kernel_rfl) (by kernel_rfl) allP0 ?_
  refine seqQ_norm ?_
  refine W_block (id := 0) (by kernel_rfl) ?_
  obtain ⟨v81, h82, h⟩ := bind_of h
  refine W_len (t := 9) (u := (.slice tI)) (xs := a0) (by kernel_rfl) (fun h85 => ?_)
  obtain ⟨h83, h84⟩ := forL_iter h85 h82
  refine W_weaken [0, 3, 9, 10, 11] [] (fr' := ((slices_Concat_Lintint_s8 a0) ((0 : Int), (0 : Int))).1) (L' := ((slices_Concat_Lintint_s8 a0) ((0 : Int), (0 : Int))).2) (by kernel_rfl) ?_
  refine W_cutK (W_loop (S := (slices_Concat_Lintint_s8 a0)) (J := (exQ (.exit 0) (slices_Concat_Lintint_s9 a0))) (by kernel_rfl) ?_ h83 _ v81 h84) ?_
  · rintro ⟨i72, x73⟩ s h
    refine W_seq (by kernel_rfl) ?_
    refine W_run 1 [] [0, 3, 9, 10, 11, 12] [] (fr' := [(0, aD (.slice (.slice tI)) a0), (3, aI x73), (9, aD (.slice (.slice tI)) a0), (10, aI (List.length a0 : Int)), (11, aI i72), (12, aB (decide (i72 < (List.length a0 : Int))))]) (L' := []) (obs := []) (by kernel_rfl) (by kernel_rfl) (by kernel_rfl) allP0 ?_
    refine seqQ_norm ?_
    refine W_seq (by kernel_rfl) ?_
    refine W_cond (o := .tmp 12) (b := decide (i72 < (List.length a0 : Int))) (by kernel_rfl) (by kernel_rfl) (fun h77 => ?_) (fun h77 => ?_)
    · replace h := stepL_true h77 h
      obtain ⟨v75, _, h76, h, rfl⟩ := h
      refine W_skip [0, 3, 9, 10, 11] [] (fr' := [(0, aD (.slice (.slice tI)) a0), (3, aI x73), (9, aD (.slice (.slice tI)) a0), (10, aI (List.length a0 : Int)), (11, aI i72)]) (L' := []) (by kernel_rfl) (by kernel_rfl) ?_
      refine seqQ_norm ?_
      refine W_seq (by kernel_rfl) ?_
      refine W_block (id := 1) (by kernel_rfl) ?_
      refine W_seq (by kernel_rfl) ?_
      refine W_run 3 [(1, .val (.dat (.slice tI) v75))] [0, 3, 5, 9, 10, 11] [] (fr' := [(0, aD (.slice (.slice tI)) a0), (3, aI x73), (5, aD (.slice tI) v75), (9, aD (.slice (.slice tI)) a0), (10, aI (List.length a0 : Int)), (11, aI i72)]) (L' := []) (obs := [Idx a0 i72 v75]) (by kernel_rfl) (by kernel_rfl) (by kernel_rfl) (allP1 (Idx.of h76)) ?_
      refine seqQ_norm ?_
      refine W_seq (by kernel_rfl) ?_
      refine W_run 5 [] [0, 3, 9, 10, 11] [] (fr' := [(0, aD (.slice (.slice tI)) a0), (3, aI (w64 (x73 + (List.length v75 : Int)))), (9, aD (.slice (.slice tI)) a0), (10, aI (List.length a0 : Int)), (11, aI i72)]) (L' := []) (obs := []) (by kernel_rfl) (by kernel_rfl) (by kernel_rfl) allP0 ?_
      refine seqQ_norm ?_
      refine W_seq (by kernel_rfl) ?_
      refine W_run 2 [] [0, 3, 9, 10, 11, 20] [] (fr' := [(0, aD (.slice (.slice tI)) a0), (3, aI (w64 (x73 + (List.length v75 : Int)))), (9, aD (.slice (.slice tI)) a0), (10, aI (List.length a0 : Int)), (11, aI i72), (20, aB (decide ((w64 (x73 + (List.length v75 : Int))) < (0 : Int))))]) (L' := []) (obs := []) (by kernel_rfl) (by kernel_rfl) (by kernel_rfl) allP0 ?_
      refine seqQ_norm ?_
      refine W_cond (o := .tmp 20) (b := decide ((w64 (x73 + (List.length v75 : Int))) < (0 : Int))) (by kernel_rfl) (by kernel_rfl) (fun h79 => ?_) (fun h79 => ?_)
      · replace h := ofT h79 h
        cases h
      · replace h := ofF h79 h
        refine W_skip [0, 3, 9, 10, 11] [] (fr' := [(0, aD (.slice (.slice tI)) a0), (3, aI (w64 (x73 + (List.length v75 : Int)))), (9, aD (.slice (.slice tI)) a0), (10, aI (List.length a0 : Int)), (11, aI i72)]) (L' := []) (by kernel_rfl) (by kernel_rfl) ?_
        refine blockQ_norm ?_
        refine seqQ_norm ?_
        obtain rfl := Option.some.inj h
        refine W_run 2 [] [0, 3, 9, 10, 11] [] (fr' := [(0, aD (.slice (.slice tI)) a0), (3, aI (w64 (x73 + (List.length v75 : Int)))), (9, aD (.slice (.slice tI)) a0), (10, aI (List.length a0 : Int)), (11, aI (w64 (i72 + (1 : Int))))]) (L' := []) (obs := []) (by kernel_rfl) (by kernel_rfl) (by kernel_rfl) allP0 ?_
        exact round_next' (by kernel_rfl) (by kernel_rfl)
    · obtain rfl := stepL_false h77 h
      refine W_exit (id := 0) [0, 3] [] (fr' := [(0, aD (.slice (.slice tI)) a0), (3, aI x73)]) (L' := []) (by kernel_rfl) (by kernel_rfl) ?_
      refine seqQ_exit ?_
      refine round_exit ?_
      exact exQ_mk (by kernel_rfl) (by kernel_rfl)
  · intro e fr L hJ
    obtain ⟨rfl, rfl, rfl⟩ := hJ
    refine LT_keep [0, 3] [] (fr' := [(0, aD (.slice (.slice tI)) a0), (3, aI v81)]) (L' := []) (by kernel_rfl) ?_
    refine blockQ_hit ?_
    refine seqQ_norm ?_
    refine W_seq (by kernel_rfl) ?_
    refine W_region (by kernel_rfl) ?_
    refine WO_run (j := 1) (k := 1) (orcs := []) (kF := [0, 23]) (kL := []) (fr' := [(0, aD (.slice (.slice tI)) a0), (23, aI v81)]) (L' := []) (obs := []) rfl (by kernel_rfl) allP0 ?_
    obtain ⟨r86, h87, h⟩ := bind_of h
    refine WO_call1 (us := [none, none]) (d := 24) (t := 24) (p := True) (j := 2) rfl ⟨by kernel_rfl, by kernel_rfl, by kernel_rfl⟩ trivial (slices_Grow_Lintint_ok h87) (by kernel_rfl) ?_
    refine WO_run (j := 3) (k := 1) (orcs := []) (kF := [0, 6]) (kL := [24]) (fr' := [(0, aD (.slice (.slice tI)) a0), (6, .one (.slc 24))]) (L' := [(24, .seq tI r86)]) (obs := []) rfl (by kernel_rfl) allP0 ?_
    refine WO_fin [0, 6] [24] (fr' := [(0, aD (.slice (.slice tI)) a0), (6, .one (.slc 24))]) (L' := [(24, .seq tI r86)]) (by kernel_rfl) (by kernel_rfl) ?_
    refine seqQ_norm ?_
    refine W_seq (by kernel_rfl) ?_
    refine W_seq (by kernel_rfl) ?_
    refine W_run 3 [] [6, 25, 26, 27] [24] (fr' := [(6, .one (.slc 24)), (25, aD (.slice (.slice tI)) a0), (26, aI (List.length a0 : Int)), (27, aI (0 : Int))]) (L' := [(24, .seq tI r86)]) (obs := []) (by kernel_rfl) (by kernel_rfl) (by kernel_rfl) allP0 ?_
    refine seqQ_norm ?_
    refine W_block (id := 2) (by kernel_rfl) ?_
    obtain ⟨v106, h107, h⟩ := bind_of h
    refine W_len (t := 25) (u := (.slice tI)) (xs := a0) (by kernel_rfl) (fun h110 => ?_)
    obtain ⟨h108, h109⟩ := forL_iter h110 h107
    refine W_weaken [6, 25, 26, 27] [24] (fr' := ((slices_Concat_Lintint_s11 a0) ((0 : Int), r86)).1) (L' := ((slices_Concat_Lintint_s11 a0) ((0 : Int), r86)).2) (by kernel_rfl) ?_
    refine W_cutK (W_loop (S := (slices_Concat_Lintint_s11 a0)) (J := (exQ (.exit 2) slices_Concat_Lintint_s12)) (by kernel_rfl) ?_ h108 _ v106 h109) ?_
    · rintro ⟨i98, x99⟩ s h
      refine W_seq (by kernel_rfl) ?_
      refine W_run 1 [] [6, 25, 26, 27, 28] [24] (fr' := [(6, .one (.slc 24)), (25, aD (.slice (.slice tI)) a0), (26, aI (List.length a0 : Int)), (27, aI i98), (28, aB (decide (i98 < (List.length a0 : Int))))]) (L' := [(24, .seq tI x99)]) (obs := []) (by kernel_rfl) (by kernel_rfl) (by kernel_rfl) allP0 ?_
      refine seqQ_norm ?_
      refine W_seq (by kernel_rfl) ?_
      refine W_cond (o := .tmp 28) (b := decide (i98 < (List.length a0 : Int))) (by kernel_rfl) (by kernel_rfl) (fun h103 => ?_) (fun h103 => ?_)
      · replace h := stepL_true h103 h
        obtain ⟨v101, _, h102, h, rfl⟩ := h
        refine W_skip [6, 25, 26, 27] [24] (fr' := [(6, .one (.slc 24)), (25, aD (.slice (.slice tI)) a0), (26, aI (List.length a0 : Int)), (27, aI i98)]) (L' := [(24, .seq tI x99)]) (by kernel_rfl) (by kernel_rfl) ?_
        refine seqQ_norm ?_
        refine W_seq (by kernel_rfl) ?_
        refine W_block (id := 3) (by kernel_rfl) ?_
        refine W_seq (by kernel_rfl) ?_
        refine W_run 3 [(1, .val (.dat (.slice tI) v101))] [6, 8, 25, 26, 27] [24] (fr' := [(6, .one (.slc 24)), (8, aD (.slice tI) v101), (25, aD (.slice (.slice tI)) a0), (26, aI (List.length a0 : Int)), (27, aI i98)]) (L' := [(24, .seq tI x99)]) (obs := [Idx a0 i98 v101]) (by kernel_rfl) (by kernel_rfl) (by kernel_rfl) (allP1 (Idx.of h102)) ?_
        refine seqQ_norm ?_
        obtain ⟨_, h104, h⟩ := bind_of h
        replace h104 := ck_some h104
        refine W_run 4 [] [6, 25, 26, 27] [24] (fr' := [(6, .one (.slc 24)), (25, aD (.slice (.slice tI)) a0), (26, aI (List.length a0 : Int)), (27, aI i98)]) (L' := [(24, .seq tI (x99 ++ v101))]) (obs := [SmallLen (List.length x99 + List.length v101)]) (by kernel_rfl) (by kernel_rfl) (by kernel_rfl) (allP1 h104) ?_
        refine blockQ_norm ?_
        refine seqQ_norm ?_
        obtain rfl := Option.some.inj h
        refine W_run 2 [] [6, 25, 26, 27] [24] (fr' := [(6, .one (.slc 24)), (25, aD (.slice (.slice tI)) a0), (26, aI (List.length a0 : Int)), (27, aI (w64 (i98 + (1 : Int))))]) (L' := [(24, .seq tI (x99 ++ v101))]) (obs := []) (by kernel_rfl) (by kernel_rfl) (by kernel_rfl) allP0 ?_
        exact round_next' (by kernel_rfl) (by kernel_rfl)
      · obtain rfl := stepL_false h103 h
        refine W_exit (id := 2) [6] [24] (fr' := [(6, .one (.slc 24))]) (L' := [(24, .seq tI x99)]) (by kernel_rfl) (by kernel_rfl) ?_
        refine seqQ_exit ?_
        refine round_exit ?_
        exact exQ_mk (by kernel_rfl) (by kernel_rfl)
    · intro e fr L hJ
      obtain ⟨rfl, rfl, rfl⟩ := hJ
      refine LT_keep [6] [24] (fr' := [(6, .one (.slc 24))]) (L' := [(24, .seq tI v106)]) (by kernel_rfl) ?_
      refine blockQ_hit ?_
      refine seqQ_norm ?_
      refine W_seq (by kernel_rfl) ?_
      refine W_run 2 [] [2] [24] (fr' := [(2, .one (.slc 24))]) (L' := [(24, .seq tI v106)]) (obs := []) (by kernel_rfl) (by kernel_rfl) (by kernel_rfl) allP0 ?_
      refine seqQ_norm ?_
      obtain rfl := Option.some.inj h
      refine W_ret [2] [24] (fr' := [(2, .one (.slc 24))]) (L' := [(24, .seq tI v106)]) (by kernel_rfl) (by kernel_rfl) ?_
      exact retQ_mk (by kernel_rfl) (by kernel_rfl) (by kernel_rfl)

def guess_wrong_2 (a0 : Int) : Option Bool :=
some ((decide (a0 < (0 : Int))) || (decide (a0 ≥ (7 : Int))))
theorem guess_wrong_2_ok {a0 : Int} {r : Bool} (h : guess_wrong_2 a0 = some r) : FnC Try.prog 62 [aI a0] [] (aB r) [] := by
  refine fnC_of_W (B := bodyOf Try.f62) (n := 9) Try.func62 (by kernel_rfl) (by kernel_rfl) (by kernel_rfl) (by kernel_rfl) (by kernel_rfl) ?_
  intro K
  refine W_seq (by kernel_rfl) ?_
  refine W_run 1 [] [0] [] (fr' := [(0, aI a0)]) (L' := []) (obs := []) (by kernel_rfl) (by kernel_rfl) (by kernel_rfl) allP0 ?_
  refine seqQ_norm ?_
  refine W_seq (by kernel_rfl) ?_
  refine W_run 7 [] [2] [] (fr' := [(2, aB ((decide (a0 < (0 : Int))) || (decide (a0 ≥ (7 : Int)))))]) (L' := []) (obs := []) (by kernel_rfl) (by kernel_rfl) (by kernel_rfl) allP0 ?_
  refine seqQ_norm ?_
  obtain rfl := Option.some.inj h
  refine W_ret [2] [] (fr' := [(2, aB ((decide (a0 < (0 : Int))) || (decide (a0 ≥ (7 : Int)))))]) (L' := []) (by kernel_rfl) (by kernel_rfl) ?_
  exact retQ_mk (by kernel_rfl) (by kernel_rfl) (by kernel_rfl)

def slices_IndexFunc_Lintint_with_guess_wrong_2_b1 (i15 : Int) (v18 : Int) (x16 : Unit) : Option (Flow Unit (Esc Int Unit)) :=
(guess_wrong_2 v18).bind fun r21 =>
bif r21 then
(some (.done (.ret i15)))
else
(some (.next ()))
@[reducible] def slices_IndexFunc_Lintint_with_guess_wrong_2_s2 (a0 : (List Int)) (v : Int × Unit) : Fr × LL := ([(0, aD (.slice tI) a0), (1, .one (.fn 62 [])), (7, aI (List.length a0 : Int)), (8, aI v.1)], [])
@[reducible] def slices_IndexFunc_Lintint_with_guess_wrong_2_s3 (v : Int) : Fr × LL := ([(4, aI v)], [])
@[reducible] def slices_IndexFunc_Lintint_with_guess_wrong_2_s4 (v : Unit) : Fr × LL := ([], [])
def slices_IndexFunc_Lintint_with_guess_wrong_2 (a0 : (List Int)) : Option Int :=
(forL slices_IndexFunc_Lintint_with_guess_wrong_2_b1 (fun x16 => (.brk ())) a0 0 ()).bind fun v25 =>
match v25 with
| .ret v30 =>
(some v30)
| .brk v31 =>
(some (-1 : Int))
theorem slices_IndexFunc_Lintint_with_guess_wrong_2_ok {a0 : (List Int)} {r : Int} (h : slices_IndexFunc_Lintint_with_guess_wrong_2 a0 = some r) : FnC Try.prog 52 [aD (.slice tI) a0, .one (.fn 62 [])] [] (aI r) [] := by
  refine fnC_of_W (B := bodyOf Try.f52) (n := 19) Try.func52 (by kernel_rfl) (by kernel_rfl) (by kernel_rfl) (by kernel_rfl) (by kernel_rfl) ?_
  intro K
  refine W_seq (by kernel_rfl) ?_
  refine W_run 1 [] [0, 1] [] (fr' := [(0, aD (.slice tI) a0), (1, .one (.fn 62 []))]) (L' := []) (obs := []) (by kernel_rfl) (by kernel_rfl) (by kernel_rfl) allP0 ?_
  refine seqQ_norm ?_
  refine W_seq (by kernel_rfl) ?_
  refine W_seq (by kernel_rfl) ?_
  refine W_run 3 [] [0, 1, 7, 8] [] (fr' := [(0, aD (.slice tI) a0), (1, .one (.fn 62 [])), (7, aI (List.length a0 : Int)), (8, aI (0 : Int))]) (L' := []) (obs := []) (by kernel_rfl) (by kernel_rfl) (by kernel_rfl) allP0 ?_
  refine seqQ_norm ?_
  refine W_block (id := 0) (by kernel_rfl) ?_
  obtain ⟨v25, h26, h⟩ := bind_of h
  refine W_len (t := 0) (u := tI) (xs := a0) (by kernel_rfl) (fun h29 => ?_)
  obtain ⟨h27, h28⟩ := forL_iter h29 h26
  refine W_weaken [0, 1, 7, 8] [] (fr' := ((slices_IndexFunc_Lintint_with_guess_wrong_2_s2 a0) ((0 : Int), ())).1) (L' := ((slices_IndexFunc_Lintint_with_guess_wrong_2_s2 a0) ((0 : Int), ())).2) (by kernel_rfl) ?_
  refine W_cutK (W_loop (S := (slices_IndexFunc_Lintint_with_guess_wrong_2_s2 a0)) (J := (escQ (exQ .ret slices_IndexFunc_Lintint_with_guess_wrong_2_s3) (exQ (.exit 0) slices_IndexFunc_Lintint_with_guess_wrong_2_s4))) (by kernel_rfl) ?_ h27 _ v25 h28) ?_
  · rintro ⟨i15, x16⟩ s h
    refine W_seq (by kernel_rfl) ?_
    refine W_run 1 [] [0, 1, 7, 8, 9] [] (fr' := [(0, aD (.slice tI) a0), (1, .one (.fn 62 [])), (7, aI (List.length a0 : Int)), (8, aI i15), (9, aB (decide (i15 < (List.length a0 : Int))))]) (L' := []) (obs := []) (by kernel_rfl) (by kernel_rfl) (by kernel_rfl) allP0 ?_
    refine seqQ_norm ?_
    refine W_seq (by kernel_rfl) ?_
    refine W_cond (o := .tmp 9) (b := decide (i15 < (List.length a0 : Int))) (by kernel_rfl) (by kernel_rfl) (fun h20 => ?_) (fun h20 => ?_)
    · replace h := stepL_true h20 h
      obtain ⟨v18, _, h19, h, rfl⟩ := h
      refine W_skip [0, 1, 7, 8] [] (fr' := [(0, aD (.slice tI) a0), (1, .one (.fn 62 [])), (7, aI (List.length a0 : Int)), (8, aI i15)]) (L' := []) (by kernel_rfl) (by kernel_rfl) ?_
      refine seqQ_norm ?_
      refine W_seq (by kernel_rfl) ?_
      refine W_block (id := 1) (by kernel_rfl) ?_
      refine W_seq (by kernel_rfl) ?_
      refine W_run 2 [] [0, 1, 5, 7, 8] [] (fr' := [(0, aD (.slice tI) a0), (1, .one (.fn 62 [])), (5, aI i15), (7, aI (List.length a0 : Int)), (8, aI i15)]) (L' := []) (obs := []) (by kernel_rfl) (by kernel_rfl) (by kernel_rfl) allP0 ?_
      refine seqQ_norm ?_
      refine W_seq (by kernel_rfl) ?_
      refine W_region (by kernel_rfl) ?_
      refine WO_run (j := 5) (k := 5) (orcs := [(7, .val (.dat tI v18))]) (kF := [0, 1, 5, 7, 8, 11, 15]) (kL := []) (fr' := [(0, aD (.slice tI) a0), (1, .one (.fn 62 [])), (5, aI i15), (7, aI (List.length a0 : Int)), (8, aI i15), (11, .one (.fn 62 [])), (15, aI v18)]) (L' := []) (obs := [Idx a0 i15 v18]) rfl (by kernel_rfl) (allP1 (Idx.of h19)) ?_
      obtain ⟨r21, h22, h⟩ := bind_of h
      refine WO_call0 (us := [none]) (d := 16) (p := True) (j := 6) rfl ⟨by kernel_rfl, by kernel_rfl, by kernel_rfl⟩ trivial (guess_wrong_2_ok h22) (by kernel_rfl) ?_
      refine WO_fin [0, 1, 5, 7, 8, 16] [] (fr' := [(0, aD (.slice tI) a0), (1, .one (.fn 62 [])), (5, aI i15), (7, aI (List.length a0 : Int)), (8, aI i15), (16, aB r21)]) (L' := []) (by kernel_rfl) (by kernel_rfl) ?_
      refine seqQ_norm ?_
      refine W_cond (o := .tmp 16) (b := r21) (by kernel_rfl) (by kernel_rfl) (fun h23 => ?_) (fun h23 => ?_)
      · replace h := ofT h23 h
        refine W_seq (by kernel_rfl) ?_
        refine W_run 2 [] [4] [] (fr' := [(4, aI i15)]) (L' := []) (obs := []) (by kernel_rfl) (by kernel_rfl) (by kernel_rfl) allP0 ?_
        refine seqQ_norm ?_
        obtain rfl := Option.some.inj h
        refine W_ret [4] [] (fr' := [(4, aI i15)]) (L' := []) (by kernel_rfl) (by kernel_rfl) ?_
        refine blockQ_ret ?_
        refine seqQ_ret ?_
        refine round_ret ?_
        refine escQ_ret ?_
        exact exQ_mk (by kernel_rfl) (by kernel_rfl)
      · replace h := ofF h23 h
        refine W_skip [0, 1, 7, 8] [] (fr' := [(0, aD (.slice tI) a0), (1, .one (.fn 62 [])), (7, aI (List.length a0 : Int)), (8, aI i15)]) (L' := []) (by kernel_rfl) (by kernel_rfl) ?_
        refine blockQ_norm ?_
        refine seqQ_norm ?_
        obtain rfl := Option.some.inj h
        refine W_run 2 [] [0, 1, 7, 8] [] (fr' := [(0, aD (.slice tI) a0), (1, .one (.fn 62 [])), (7, aI (List.length a0 : Int)), (8, aI (w64 (i15 + (1 : Int))))]) (L' := []) (obs := []) (by kernel_rfl) (by kernel_rfl) (by kernel_rfl) allP0 ?_
        exact round_next' (by kernel_rfl) (by kernel_rfl)
    · obtain rfl := stepL_false h20 h
      refine W_exit (id := 0) [] [] (fr' := []) (L' := []) (by kernel_rfl) (by kernel_rfl) ?_
      refine seqQ_exit ?_
      refine round_exit ?_
      refine escQ_brk ?_
      exact exQ_mk (by kernel_rfl) (by kernel_rfl)
  · intro e fr L hJ
    rcases v25 with v30 | v31
    · obtain ⟨rfl, rfl, rfl⟩ := hJ
      obtain rfl := Option.some.inj h
      refine LT_keep [4] [] (fr' := [(4, aI v30)]) (L' := []) (by kernel_rfl) ?_
      refine blockQ_ret ?_
      refine seqQ_ret ?_
      exact retQ_mk (by kernel_rfl) (by kernel_rfl) (by kernel_rfl)
    · obtain ⟨rfl, rfl, rfl⟩ := hJ
      refine LT_keep [] [] (fr' := []) (L' := []) (by kernel_rfl) ?_
      refine blockQ_hit ?_
      refine seqQ_norm ?_
      refine W_seq (by kernel_rfl) ?_
      refine W_run 1 [] [4] [] (fr' := [(4, aI (-1 : Int))]) (L' := []) (obs := []) (by kernel_rfl) (by kernel_rfl) (by kernel_rfl) allP0 ?_
      refine seqQ_norm ?_
      obtain rfl := Option.some.inj h
      refine W_ret [4] [] (fr' := [(4, aI (-1 : Int))]) (L' := []) (by kernel_rfl) (by kernel_rfl) ?_
      exact retQ_mk (by kernel_rfl) (by kernel_rfl) (by kernel_rfl)

def slices_ContainsFunc_Lintint_with_guess_wrong_2 (a0 : (List Int)) : Option Bool :=
(slices_IndexFunc_Lintint_with_guess_wrong_2 a0).bind fun r1 =>
some (decide (r1 ≥ (0 : Int)))
theorem slices_ContainsFunc_Lintint_with_guess_wrong_2_ok {a0 : (List Int)} {r : Bool} (h : slices_ContainsFunc_Lintint_with_guess_wrong_2 a0 = some r) : FnC Try.prog 31 [aD (.slice tI) a0, .one (.fn 62 [])] [] (aB r) [] := by
  refine fnC_of_W (B := bodyOf Try.f31) (n := 9) Try.func31 (by kernel_rfl) (by kernel_rfl) (by kernel_rfl) (by kernel_rfl) (by kernel_rfl) ?_
  intro K
  refine W_seq (by kernel_rfl) ?_
  refine W_run 1 [] [0, 1] [] (fr' := [(0, aD (.slice tI) a0), (1, .one (.fn 62 []))]) (L' := []) (obs := []) (by kernel_rfl) (by kernel_rfl) (by kernel_rfl) allP0 ?_
  refine seqQ_norm ?_
  refine W_seq (by kernel_rfl) ?_
  refine W_region (by kernel_rfl) ?_
  refine WO_run (j := 2) (k := 2) (orcs := []) (kF := [5, 6]) (kL := []) (fr' := [(5, aD (.slice tI) a0), (6, .one (.fn 62 []))]) (L' := []) (obs := []) rfl (by kernel_rfl) allP0 ?_
  obtain ⟨r1, h2, h⟩ := bind_of h
  refine WO_call0 (us := [none, none]) (d := 7) (p := True) (j := 3) rfl ⟨by kernel_rfl, by kernel_rfl, by kernel_rfl⟩ trivial (slices_IndexFunc_Lintint_with_guess_wrong_2_ok h2) (by kernel_rfl) ?_
  refine WO_run (j := 5) (k := 2) (orcs := []) (kF := [4]) (kL := []) (fr' := [(4, aB (decide (r1 ≥ (0 : Int))))]) (L' := []) (obs := []) rfl (by kernel_rfl) allP0 ?_
  refine WO_fin [4] [] (fr' := [(4, aB (decide (r1 ≥ (0 : Int))))]) (L' := []) (by kernel_rfl) (by kernel_rfl) ?_
  refine seqQ_norm ?_
  obtain rfl := Option.some.inj h
  refine W_ret [4] [] (fr' := [(4, aB (decide (r1 ≥ (0 : Int))))]) (L' := []) (by kernel_rfl) (by kernel_rfl) ?_
  exact retQ_mk (by kernel_rfl) (by kernel_rfl) (by kernel_rfl)

def guess_wrong_g5 (v1 : (List (List Int))) (v37 : (List (List Int))) : Option Bool :=
bif (List.length v37 : Int) != (List.length v1 : Int) then
(some true)
else
((slices_ContainsFunc_LLintLint_with_guess_wrong_1 v37 (List.length v1 : Int)).bind fun r47 =>
some r47)
@[reducible] def guess_wrong_s6 (a0 : (List (List (List Int)))) (v1 : (List (List Int))) (i34 : Int) (v : Bool) : Fr × LL := ([(0, aD (.slice (.slice (.slice tI))) a0), (3, .one (.ptr 3 0)), (16, aD (.slice (.slice (.slice tI))) a0), (17, aI (List.length a0 : Int)), (18, aI i34), (30, aB v)], [(3, .cells [.dat tI (List.length v1 : Int)])])
def guess_wrong_b7 (v1 : (List (List Int))) (i34 : Int) (v37 : (List (List Int))) (x35 : Unit) : Option (Flow Unit (Esc Int Unit)) :=
(guess_wrong_g5 v1 v37).bind fun v49 =>
bif v49 then
(some (.done (.ret (3 : Int))))
else
(some (.next ()))
@[reducible] def guess_wrong_s8 (a0 : (List (List (List Int)))) (v1 : (List (List Int))) (v : Int × Unit) : Fr × LL := ([(0, aD (.slice (.slice (.slice tI))) a0), (3, .one (.ptr 3 0)), (16, aD (.slice (.slice (.slice tI))) a0), (17, aI (List.length a0 : Int)), (18, aI v.1)], [(3, .cells [.dat tI (List.length v1 : Int)])])
@[reducible] def guess_wrong_s9 (v : Int) : Fr × LL := ([(2, aI v)], [])
@[reducible] def guess_wrong_s10 (a0 : (List (List (List Int)))) (v : Unit) : Fr × LL := ([(0, aD (.slice (.slice (.slice tI))) a0)], [])
def guess_wrong (a0 : (List (List (List Int)))) : Option Int :=
(idx a0 (0 : Int)).bind fun v1 =>
bif (decide ((List.length v1 : Int) < (1 : Int))) || (decide ((List.length v1 : Int) > (4 : Int))) then
(some (1 : Int))
else
((forL (guess_wrong_b7 v1) (fun x35 => (.brk ())) a0 0 ()).bind fun v53 =>
match v53 with
| .ret v58 =>
(some v58)
| .brk v59 =>
((slices_Concat_LLintLint a0).bind fun r60 =>
(slices_Concat_Lintint r60).bind fun r62 =>
(slices_ContainsFunc_Lintint_with_guess_wrong_2 r62).bind fun r64 =>
bif r64 then
(some (4 : Int))
else
(some (0 : Int))))
theorem guess_wrong_ok {a0 : (List (List (List Int)))} {r : Int} (h : guess_wrong a0 = some r) : FnC Try.prog 46 [aD (.slice (.slice (.slice tI))) a0] [] (aI r) [] := by
  refine fnC_of_W (B := bodyOf Try.f46) (n := 36) Try.func46 (by kernel_rfl) (by kernel_rfl) (by kernel_rfl) (by kernel_rfl) (by kernel_rfl) ?_
  intro K
  refine W_seq (by kernel_rfl) ?_
  refine W_run 1 [] [0] [] (fr' := [(0, aD (.slice (.slice (.slice tI))) a0)]) (L' := []) (obs := []) (by kernel_rfl) (by kernel_rfl) (by kernel_rfl) allP0 ?_
  refine seqQ_norm ?_
  refine W_seq (by kernel_rfl) ?_
  obtain ⟨v1, h2, h⟩ := bind_of h
  refine W_run 6 [(3, .val (.dat (.slice (.slice tI)) v1))] [0, 3] [3] (fr' := [(0, aD (.slice (.slice (.slice tI))) a0), (3, .one (.ptr 3 0))]) (L' := [(3, .cells [.dat tI (List.length v1 : Int)])]) (obs := [Idx a0 (0 : Int) v1, True]) (by kernel_rfl) (by kernel_rfl) (by kernel_rfl) (allP2 (Idx.of h2) (allP1 trivial)) ?_
  refine seqQ_norm ?_
  refine W_seq (by kernel_rfl) ?_
  refine W_seq (by kernel_rfl) ?_
  refine W_run 6 [] [0, 3, 15] [3] (fr' := [(0, aD (.slice (.slice (.slice tI))) a0), (3, .one (.ptr 3 0)), (15, aB ((decide ((List.length v1 : Int) < (1 : Int))) || (decide ((List.length v1 : Int) > (4 : Int)))))]) (L' := [(3, .cells [.dat tI (List.length v1 : Int)])]) (obs := []) (by kernel_rfl) (by kernel_rfl) (by kernel_rfl) allP0 ?_
  refine seqQ_norm ?_
  refine W_cond (o := .tmp 15) (b := (decide ((List.length v1 : Int) < (1 : Int))) || (decide ((List.length v1 : Int) > (4 : Int)))) (by kernel_rfl) (by kernel_rfl) (fun h3 => ?_) (fun h3 => ?_)
  · replace h := ofT h3 h
    refine W_seq (by kernel_rfl) ?_
    refine W_run 1 [] [2] [] (fr' := [(2, aI (1 : Int))]) (L' := []) (obs := []) (by kernel_rfl) (by kernel_rfl) (by kernel_rfl) allP0 ?_
    refine seqQ_norm ?_
    obtain rfl := Option.some.inj h
    refine W_ret [2] [] (fr' := [(2, aI (1 : Int))]) (L' := []) (by kernel_rfl) (by kernel_rfl) ?_
    refine seqQ_ret ?_
    exact retQ_mk (by kernel_rfl) (by kernel_rfl) (by kernel_rfl)
  · replace h := ofF h3 h
    refine W_skip [0, 3] [3] (fr' := [(0, aD (.slice (.slice (.slice tI))) a0), (3, .one (.ptr 3 0))]) (L' := [(3, .cells [.dat tI (List.length v1 : Int)])]) (by kernel_rfl) (by kernel_rfl) ?_
    refine seqQ_norm ?_
    refine W_seq (by kernel_rfl) ?_
    refine W_seq (by kernel_rfl) ?_
    refine W_run 3 [] [0, 3, 16, 17, 18] [3] (fr' := [(0, aD (.slice (.slice (.slice tI))) a0), (3, .one (.ptr 3 0)), (16, aD (.slice (.slice (.slice tI))) a0), (17, aI (List.length a0 : Int)), (18, aI (0 : Int))]) (L' := [(3, .cells [.dat tI (List.length v1 : Int)])]) (obs := []) (by kernel_rfl) (by kernel_rfl) (by kernel_rfl) allP0 ?_
    refine seqQ_norm ?_
    refine W_block (id := 0) (by kernel_rfl) ?_
    obtain ⟨v53, h54, h⟩ := bind_of h
    refine W_len (t := 16) (u := (.slice (.slice tI))) (xs := a0) (by kernel_rfl) (fun h57 => ?_)
    obtain ⟨h55, h56⟩ := forL_iter h57 h54
    refine W_weaken [0, 3, 16, 17, 18] [3] (fr' := ((guess_wrong_s8 a0 v1) ((0 : Int), ())).1) (L' := ((guess_wrong_s8 a0 v1) ((0 : Int), ())).2) (by kernel_rfl) ?_
    refine W_cutK (W_loop (S := (guess_wrong_s8 a0 v1)) (J := (escQ (exQ .ret guess_wrong_s9) (exQ (.exit 0) (guess_wrong_s10 a0)))) (by kernel_rfl) ?_ h55 _ v53 h56) ?_
    · rintro ⟨i34, x35⟩ s h
      refine W_seq (by kernel_rfl) ?_
      refine W_run 1 [] [0, 3, 16, 17, 18, 19] [3] (fr' := [(0, aD (.slice (.slice (.slice tI))) a0), (3, .one (.ptr 3 0)), (16, aD (.slice (.slice (.slice tI))) a0), (17, aI (List.length a0 : Int)), (18, aI i34), (19, aB (decide (i34 < (List.length a0 : Int))))]) (L' := [(3, .cells [.dat tI (List.length v1 : Int)])]) (obs := []) (by kernel_rfl) (by kernel_rfl) (by kernel_rfl) allP0 ?_
      refine seqQ_norm ?_
      refine W_seq (by kernel_rfl) ?_
      refine W_cond (o := .tmp 19) (b := decide (i34 < (List.length a0 : Int))) (by kernel_rfl) (by kernel_rfl) (fun h39 => ?_) (fun h39 => ?_)
      · replace h := stepL_true h39 h
        obtain ⟨v37, _, h38, h, rfl⟩ := h
        refine W_skip [0, 3, 16, 17, 18] [3] (fr' := [(0, aD (.slice (.slice (.slice tI))) a0), (3, .one (.ptr 3 0)), (16, aD (.slice (.slice (.slice tI))) a0), (17, aI (List.length a0 : Int)), (18, aI i34)]) (L' := [(3, .cells [.dat tI (List.length v1 : Int)])]) (by kernel_rfl) (by kernel_rfl) ?_
        refine seqQ_norm ?_
        refine W_seq (by kernel_rfl) ?_
        refine W_block (id := 1) (by kernel_rfl) ?_
        refine W_seq (by kernel_rfl) ?_
        refine W_run 3 [(1, .val (.dat (.slice (.slice tI)) v37))] [0, 3, 5, 16, 17, 18] [3] (fr' := [(0, aD (.slice (.slice (.slice tI))) a0), (3, .one (.ptr 3 0)), (5, aD (.slice (.slice tI)) v37), (16, aD (.slice (.slice (.slice tI))) a0), (17, aI (List.length a0 : Int)), (18, aI i34)]) (L' := [(3, .cells [.dat tI (List.length v1 : Int)])]) (obs := [Idx a0 i34 v37]) (by kernel_rfl) (by kernel_rfl) (by kernel_rfl) (allP1 (Idx.of h38)) ?_
        refine seqQ_norm ?_
        refine W_seq (by kernel_rfl) ?_
        obtain ⟨v49, h50, h⟩ := bind_of h
        refine W_cutK (Q' := (exQ .normal (guess_wrong_s6 a0 v1 i34)) v49) ?_ ?_
        · replace h := h50
          refine W_region (by kernel_rfl) ?_
          refine WO_run (j := 5) (k := 5) (orcs := []) (kF := [0, 3, 5, 16, 17, 18, 26]) (kL := [3]) (fr' := [(0, aD (.slice (.slice (.slice tI))) a0), (3, .one (.ptr 3 0)), (5, aD (.slice (.slice tI)) v37), (16, aD (.slice (.slice (.slice tI))) a0), (17, aI (List.length a0 : Int)), (18, aI i34), (26, aB ((List.length v37 : Int) != (List.length v1 : Int)))]) (L' := [(3, .cells [.dat tI (List.length v1 : Int)])]) (obs := []) rfl (by kernel_rfl) allP0 ?_
          rcases Bool.eq_false_or_eq_true ((List.length v37 : Int) != (List.length v1 : Int)) with h46 | h46
          · replace h := ofT h46 h
            refine WO_run (j := 9) (k := 4) (orcs := [(10, .known true), (12, .known true), (14, .known true), (17, .val (.dat .bool true))]) (kF := [0, 3, 16, 17, 18, 30]) (kL := [3]) (fr' := [(0, aD (.slice (.slice (.slice tI))) a0), (3, .one (.ptr 3 0)), (16, aD (.slice (.slice (.slice tI))) a0), (17, aI (List.length a0 : Int)), (18, aI i34), (30, aB true)]) (L' := [(3, .cells [.dat tI (List.length v1 : Int)])]) (obs := [(((List.length v37 : Int) != (List.length v1 : Int)) = true), (((List.length v37 : Int) != (List.length v1 : Int)) = true), (((List.length v37 : Int) != (List.length v1 : Int)) = true), (((List.length v37 : Int) != (List.length v1 : Int)) = true)]) rfl (by kernel_rfl) (allP2 h46 (allP2 h46 (allP2 h46 (allP1 h46)))) ?_
            obtain rfl := Option.some.inj h
            refine WO_fin [0, 3, 16, 17, 18, 30] [3] (fr' := [(0, aD (.slice (.slice (.slice tI))) a0), (3, .one (.ptr 3 0)), (16, aD (.slice (.slice (.slice tI))) a0), (17, aI (List.length a0 : Int)), (18, aI i34), (30, aB true)]) (L' := [(3, .cells [.dat tI (List.length v1 : Int)])]) (by kernel_rfl) (by kernel_rfl) ?_
            exact exQ_mk (by kernel_rfl) (by kernel_rfl)
          · replace h := ofF h46 h
            refine WO_run (j := 7) (k := 2) (orcs := [(10, .known false), (12, .known false)]) (kF := [0, 3, 16, 17, 18, 26, 27, 28]) (kL := [3]) (fr' := [(0, aD (.slice (.slice (.slice tI))) a0), (3, .one (.ptr 3 0)), (16, aD (.slice (.slice (.slice tI))) a0), (17, aI (List.length a0 : Int)), (18, aI i34), (26, aB ((List.length v37 : Int) != (List.length v1 : Int))), (27, aD (.slice (.slice tI)) v37), (28, .one (.fn 59 [(3, 0)]))]) (L' := [(3, .cells [.dat tI (List.length v1 : Int)])]) (obs := [(((List.length v37 : Int) != (List.length v1 : Int)) = false), (((List.length v37 : Int) != (List.length v1 : Int)) = false)]) rfl (by kernel_rfl) (allP2 h46 (allP1 h46)) ?_
            obtain ⟨r47, h48, h⟩ := bind_of h
            refine WO_lend [(1000, 3)] (us := [none, none]) (d := 29) (p := (((List.length v37 : Int) != (List.length v1 : Int)) = false)) (j := 8) rfl ⟨by kernel_rfl, by kernel_rfl, by kernel_rfl⟩ h46 (slices_ContainsFunc_LLintLint_with_guess_wrong_1_ok h48) (by kernel_rfl) (by kernel_rfl) ?_
            refine WO_run (j := 9) (k := 1) (orcs := [(17, .val (.dat .bool false))]) (kF := [0, 3, 16, 17, 18, 30]) (kL := [3]) (fr' := [(0, aD (.slice (.slice (.slice tI))) a0), (3, .one (.ptr 3 0)), (16, aD (.slice (.slice (.slice tI))) a0), (17, aI (List.length a0 : Int)), (18, aI i34), (30, aB r47)]) (L' := [(3, .cells [.dat tI (List.length v1 : Int)])]) (obs := [(((List.length v37 : Int) != (List.length v1 : Int)) = false)]) rfl (by kernel_rfl) (allP1 h46) ?_
            obtain rfl := Option.some.inj h
            refine WO_fin [0, 3, 16, 17, 18, 30] [3] (fr' := [(0, aD (.slice (.slice (.slice tI))) a0), (3, .one (.ptr 3 0)), (16, aD (.slice (.slice (.slice tI))) a0), (17, aI (List.length a0 : Int)), (18, aI i34), (30, aB r47)]) (L' := [(3, .cells [.dat tI (List.length v1 : Int)])]) (by kernel_rfl) (by kernel_rfl) ?_
            exact exQ_mk (by kernel_rfl) (by kernel_rfl)
        · intro e fr L hJ
          obtain ⟨rfl, rfl, rfl⟩ := hJ
          refine LT_keep [0, 3, 16, 17, 18, 30] [3] (fr' := [(0, aD (.slice (.slice (.slice tI))) a0), (3, .one (.ptr 3 0)), (16, aD (.slice (.slice (.slice tI))) a0), (17, aI (List.length a0 : Int)), (18, aI i34), (30, aB v49)]) (L' := [(3, .cells [.dat tI (List.length v1 : Int)])]) (by kernel_rfl) ?_
          refine seqQ_norm ?_
          refine W_cond (o := .tmp 30) (b := v49) (by kernel_rfl) (by kernel_rfl) (fun h51 => ?_) (fun h51 => ?_)
          · replace h := ofT h51 h
            refine W_seq (by kernel_rfl) ?_
            refine W_run 1 [] [2] [] (fr' := [(2, aI (3 : Int))]) (L' := []) (obs := []) (by kernel_rfl) (by kernel_rfl) (by kernel_rfl) allP0 ?_
            refine seqQ_norm ?_
            obtain rfl := Option.some.inj h
            refine W_ret [2] [] (fr' := [(2, aI (3 : Int))]) (L' := []) (by kernel_rfl) (by kernel_rfl) ?_
            refine blockQ_ret ?_
            refine seqQ_ret ?_
            refine round_ret ?_
            refine escQ_ret ?_
            exact exQ_mk (by kernel_rfl) (by kernel_rfl)
          · replace h := ofF h51 h
            refine W_skip [0, 3, 16, 17, 18] [3] (fr' := [(0, aD (.slice (.slice (.slice tI))) a0), (3, .one (.ptr 3 0)), (16, aD (.slice (.slice (.slice tI))) a0), (17, aI (List.length a0 : Int)), (18, aI i34)]) (L' := [(3, .cells [.dat tI (List.length v1 : Int)])]) (by kernel_rfl) (by kernel_rfl) ?_
            refine blockQ_norm ?_
            refine seqQ_norm ?_
            obtain rfl := Option.some.inj h
            refine W_run 2 [] [0, 3, 16, 17, 18] [3] (fr' := [(0, aD (.slice (.slice (.slice tI))) a0), (3, .one (.ptr 3 0)), (16, aD (.slice (.slice (.slice tI))) a0), (17, aI (List.length a0 : Int)), (18, aI (w64 (i34 + (1 : Int))))]) (L' := [(3, .cells [.dat tI (List.length v1 : Int)])]) (obs := []) (by kernel_rfl) (by kernel_rfl) (by kernel_rfl) allP0 ?_
            exact round_next' (by kernel_rfl) (by kernel_rfl)
      · obtain rfl := stepL_false h39 h
        refine W_exit (id := 0) [0] [] (fr' := [(0, aD (.slice (.slice (.slice tI))) a0)]) (L' := []) (by kernel_rfl) (by kernel_rfl) ?_
        refine seqQ_exit ?_
        refine round_exit ?_
        refine escQ_brk ?_
        exact exQ_mk (by kernel_rfl) (by kernel_rfl)
    · intro e fr L hJ
      rcases v53 with v58 | v59
      · obtain ⟨rfl, rfl, rfl⟩ := hJ
        obtain rfl := Option.some.inj h
        refine LT_keep [2] [] (fr' := [(2, aI v58)]) (L' := []) (by kernel_rfl) ?_
        refine blockQ_ret ?_
        refine seqQ_ret ?_
        exact retQ_mk (by kernel_rfl) (by kernel_rfl) (by kernel_rfl)
      · obtain ⟨rfl, rfl, rfl⟩ := hJ
        refine LT_keep [0] [] (fr' := [(0, aD (.slice (.slice (.slice tI))) a0)]) (L' := []) (by kernel_rfl) ?_
        refine blockQ_hit ?_
        refine seqQ_norm ?_
        refine W_seq (by kernel_rfl) ?_
        refine W_seq (by kernel_rfl) ?_
        refine W_region (by kernel_rfl) ?_
        refine WO_run (j := 1) (k := 1) (orcs := []) (kF := [32]) (kL := []) (fr' := [(32, aD (.slice (.slice (.slice tI))) a0)]) (L' := []) (obs := []) rfl (by kernel_rfl) allP0 ?_
        obtain ⟨r60, h61, h⟩ := bind_of h
        refine WO_call1 (us := [none]) (d := 33) (t := 33) (p := True) (j := 2) rfl ⟨by kernel_rfl, by kernel_rfl, by kernel_rfl⟩ trivial (slices_Concat_LLintLint_ok h61) (by kernel_rfl) ?_
        obtain ⟨r62, h63, h⟩ := bind_of h
        refine WO_frz 33 (by kernel_rfl) ?_
        refine WO_call1 (us := [none]) (d := 34) (t := 34) (p := True) (j := 3) rfl ⟨by kernel_rfl, by kernel_rfl, by kernel_rfl⟩ trivial (slices_Concat_Lintint_ok h63) (by kernel_rfl) ?_
        obtain ⟨r64, h65, h⟩ := bind_of h
        refine WO_frz 34 (by kernel_rfl) ?_
        refine WO_call0 (us := [none, none]) (d := 35) (p := True) (j := 4) rfl ⟨by kernel_rfl, by kernel_rfl, by kernel_rfl⟩ trivial (slices_ContainsFunc_Lintint_with_guess_wrong_2_ok h65) (by kernel_rfl) ?_
        refine WO_fin [35] [] (fr' := [(35, aB r64)]) (L' := []) (by kernel_rfl) (by kernel_rfl) ?_
        refine seqQ_norm ?_
        refine W_cond (o := .tmp 35) (b := r64) (by kernel_rfl) (by kernel_rfl) (fun h66 => ?_) (fun h66 => ?_)
        · replace h := ofT h66 h
          refine W_seq (by kernel_rfl) ?_
          refine W_run 1 [] [2] [] (fr' := [(2, aI (4 : Int))]) (L' := []) (obs := []) (by kernel_rfl) (by kernel_rfl) (by kernel_rfl) allP0 ?_
          refine seqQ_norm ?_
          obtain rfl := Option.some.inj h
          refine W_ret [2] [] (fr' := [(2, aI (4 : Int))]) (L' := []) (by kernel_rfl) (by kernel_rfl) ?_
          refine seqQ_ret ?_
          exact retQ_mk (by kernel_rfl) (by kernel_rfl) (by kernel_rfl)
        · replace h := ofF h66 h
          refine W_skip [] [] (fr' := []) (L' := []) (by kernel_rfl) (by kernel_rfl) ?_
          refine seqQ_norm ?_
          refine W_seq (by kernel_rfl) ?_
          refine W_run 1 [] [2] [] (fr' := [(2, aI (0 : Int))]) (L' := []) (obs := []) (by kernel_rfl) (by kernel_rfl) (by kernel_rfl) allP0 ?_
          refine seqQ_norm ?_
          obtain rfl := Option.some.inj h
          refine W_ret [2] [] (fr' := [(2, aI (0 : Int))]) (L' := []) (by kernel_rfl) (by kernel_rfl) ?_
          exact retQ_mk (by kernel_rfl) (by kernel_rfl) (by kernel_rfl)

def guess_times_b7 (a1 : (List Int)) (i80 : Int) (v83 : Int) (x81 : Int) : Option (Flow Int Int) :=
(idx a1 i80).bind fun v86 =>
some (.next (w64 (x81 + (w64 (v83 * v86)))))
@[reducible] def guess_times_s8 (a0 : (List (List Int))) (a1 : (List Int)) (i62 : Int) (x63 : (List Int)) (v65 : (List Int)) (v : Int × Int) : Fr × LL := ([(1, aD (.slice tI) a1), (5, .one (.slc 37)), (8, aI v.2), (11, aD (.slice (.slice tI)) a0), (12, aI (List.length a0 : Int)), (13, aI i62), (17, aD (.slice tI) v65), (18, aI (List.length v65 : Int)), (19, aI v.1)], [(37, .seq tI x63)])
@[reducible] def guess_times_s9 (a0 : (List (List Int))) (a1 : (List Int)) (i62 : Int) (x63 : (List Int)) (v : Int) : Fr × LL := ([(1, aD (.slice tI) a1), (5, .one (.slc 37)), (8, aI v), (11, aD (.slice (.slice tI)) a0), (12, aI (List.length a0 : Int)), (13, aI i62)], [(37, .seq tI x63)])
def guess_times_b10 (a1 : (List Int)) (i62 : Int) (v65 : (List Int)) (x63 : (List Int)) : Option (Flow (List Int) (List Int)) :=
(forL (guess_times_b7 a1) (fun x81 => x81) v65 0 (0 : Int)).bind fun v89 =>
(ck ((List.length x63 : Int) + 1 ≤ 4294967296)).bind fun _ =>
some (.next (x63 ++ [Int.tmod v89 (7 : Int)]))
@[reducible] def guess_times_s11 (a0 : (List (List Int))) (a1 : (List Int)) (v : Int × (List Int)) : Fr × LL := ([(1, aD (.slice tI) a1), (5, .one (.slc 37)), (11, aD (.slice (.slice tI)) a0), (12, aI (List.length a0 : Int)), (13, aI v.1)], [(37, .seq tI v.2)])
@[reducible] def guess_times_s12 (v : (List Int)) : Fr × LL := ([(5, .one (.slc 37))], [(37, .seq tI v)])
def guess_times (a0 : (List (List Int))) (a1 : (List Int)) : Option (List Int) :=
(forL (guess_times_b10 a1) (fun x63 => x63) a0 0 []).bind fun v96 =>
some v96
theorem guess_times_ok {a0 : (List (List Int))} {a1 : (List Int)} {r : (List Int)} (h : guess_times a0 a1 = some r) : FnC Try.prog 64 [aD (.slice (.slice tI)) a0, aD (.slice tI) a1] [] (aD (.slice tI) r) [] := by
  refine fnC_of_W (B := bodyOf Try.f64) (n := 40) Try.func64 (by kernel_rfl) (by kernel_rfl) (by kernel_rfl) (by kernel_rfl) (by kernel_rfl) ?_
  intro K
  refine W_seq (by kernel_rfl) ?_
  refine W_run 1 [] [0, 1] [] (fr' := [(0, aD (.slice (.slice tI)) a0), (1, aD (.slice tI) a1)]) (L' := []) (obs := []) (by kernel_rfl) (by kernel_rfl) (by kernel_rfl) allP0 ?_
  refine seqQ_norm ?_
  refine W_seq (by kernel_rfl) ?_
  refine W_run 1 [] [0, 1, 5] [] (fr' := [(0, aD (.slice (.slice tI)) a0), (1, aD (.slice tI) a1), (5, .one (.nilS))]) (L' := []) (obs := []) (by kernel_rfl) (by kernel_rfl) (by kernel_rfl) allP0 ?_
  refine seqQ_norm ?_
  refine W_seq (by kernel_rfl) ?_
  refine W_seq (by kernel_rfl) ?_
  refine W_run 3 [] [1, 5, 11, 12, 13] [] (fr' := [(1, aD (.slice tI) a1), (5, .one (.nilS)), (11, aD (.slice (.slice tI)) a0), (12, aI (List.length a0 : Int)), (13, aI (0 : Int))]) (L' := []) (obs := []) (by kernel_rfl) (by kernel_rfl) (by kernel_rfl) allP0 ?_
  refine seqQ_norm ?_
  refine W_block (id := 0) (by kernel_rfl) ?_
  obtain ⟨v96, h97, h⟩ := bind_of h
  refine W_len (t := 11) (u := (.slice tI)) (xs := a0) (by kernel_rfl) (fun h100 => ?_)
  obtain ⟨h98, h99⟩ := forL_iter h100 h97
  refine W_mine 5 37 tI (by kernel_rfl) ?_
  refine W_weaken [1, 5, 11, 12, 13] [37] (fr' := ((guess_times_s11 a0 a1) ((0 : Int), [])).1) (L' := ((guess_times_s11 a0 a1) ((0 : Int), [])).2) (by kernel_rfl) ?_
  refine W_cutK (W_loop (S := (guess_times_s11 a0 a1)) (J := (exQ (.exit 0) guess_times_s12)) (by kernel_rfl) ?_ h98 _ v96 h99) ?_
  · rintro ⟨i62, x63⟩ s h
    refine W_seq (by kernel_rfl) ?_
    refine W_run 1 [] [1, 5, 11, 12, 13, 14] [37] (fr' := [(1, aD (.slice tI) a1), (5, .one (.slc 37)), (11, aD (.slice (.slice tI)) a0), (12, aI (List.length a0 : Int)), (13, aI i62), (14, aB (decide (i62 < (List.length a0 : Int))))]) (L' := [(37, .seq tI x63)]) (obs := []) (by kernel_rfl) (by kernel_rfl) (by kernel_rfl) allP0 ?_
    refine seqQ_norm ?_
    refine W_seq (by kernel_rfl) ?_
    refine W_cond (o := .tmp 14) (b := decide (i62 < (List.length a0 : Int))) (by kernel_rfl) (by kernel_rfl) (fun h67 => ?_) (fun h67 => ?_)
    · replace h := stepL_true h67 h
      obtain ⟨v65, _, h66, h, rfl⟩ := h
      refine W_skip [1, 5, 11, 12, 13] [37] (fr' := [(1, aD (.slice tI) a1), (5, .one (.slc 37)), (11, aD (.slice (.slice tI)) a0), (12, aI (List.length a0 : Int)), (13, aI i62)]) (L' := [(37, .seq tI x63)]) (by kernel_rfl) (by kernel_rfl) ?_
      refine seqQ_norm ?_
      refine W_seq (by kernel_rfl) ?_
      refine W_block (id := 1) (by kernel_rfl) ?_
      refine W_seq (by kernel_rfl) ?_
      refine W_run 3 [(1, .val (.dat (.slice tI) v65))] [1, 5, 7, 11, 12, 13] [37] (fr' := [(1, aD (.slice tI) a1), (5, .one (.slc 37)), (7, aD (.slice tI) v65), (11, aD (.slice (.slice tI)) a0), (12, aI (List.length a0 : Int)), (13, aI i62)]) (L' := [(37, .seq tI x63)]) (obs := [Idx a0 i62 v65]) (by kernel_rfl) (by kernel_rfl) (by kernel_rfl) (allP1 (Idx.of h66)) ?_
      refine seqQ_norm ?_
      refine W_seq (by kernel_rfl) ?_
      refine W_run 1 [] [1, 5, 7, 8, 11, 12, 13] [37] (fr' := [(1, aD (.slice tI) a1), (5, .one (.slc 37)), (7, aD (.slice tI) v65), (8, aI (0 : Int)), (11, aD (.slice (.slice tI)) a0), (12, aI (List.length a0 : Int)), (13, aI i62)]) (L' := [(37, .seq tI x63)]) (obs := []) (by kernel_rfl) (by kernel_rfl) (by kernel_rfl) allP0 ?_
      refine seqQ_norm ?_
      refine W_seq (by kernel_rfl) ?_
      refine W_seq (by kernel_rfl) ?_
      refine W_run 3 [] [1, 5, 8, 11, 12, 13, 17, 18, 19] [37] (fr' := [(1, aD (.slice tI) a1), (5, .one (.slc 37)), (8, aI (0 : Int)), (11, aD (.slice (.slice tI)) a0), (12, aI (List.length a0 : Int)), (13, aI i62), (17, aD (.slice tI) v65), (18, aI (List.length v65 : Int)), (19, aI (0 : Int))]) (L' := [(37, .seq tI x63)]) (obs := []) (by kernel_rfl) (by kernel_rfl) (by kernel_rfl) allP0 ?_
      refine seqQ_norm ?_
      refine W_block (id := 2) (by kernel_rfl) ?_
      obtain ⟨v89, h90, h⟩ := bind_of h
      refine W_len (t := 17) (u := tI) (xs := v65) (by kernel_rfl) (fun h93 => ?_)
      obtain ⟨h91, h92⟩ := forL_iter h93 h90
      refine W_weaken [1, 5, 8, 11, 12, 13, 17, 18, 19] [37] (fr' := ((guess_times_s8 a0 a1 i62 x63 v65) ((0 : Int), (0 : Int))).1) (L' := ((guess_times_s8 a0 a1 i62 x63 v65) ((0 : Int), (0 : Int))).2) (by kernel_rfl) ?_
      refine W_cutK (W_loop (S := (guess_times_s8 a0 a1 i62 x63 v65)) (J := (exQ (.exit 2) (guess_times_s9 a0 a1 i62 x63))) (by kernel_rfl) ?_ h91 _ v89 h92) ?_
      · rintro ⟨i80, x81⟩ s h
        refine W_seq (by kernel_rfl) ?_
        refine W_run 1 [] [1, 5, 8, 11, 12, 13, 17, 18, 19, 20] [37] (fr' := [(1, aD (.slice tI) a1), (5, .one (.slc 37)), (8, aI x81), (11, aD (.slice (.slice tI)) a0), (12, aI (List.length a0 : Int)), (13, aI i62), (17, aD (.slice tI) v65), (18, aI (List.length v65 : Int)), (19, aI i80), (20, aB (decide (i80 < (List.length v65 : Int))))]) (L' := [(37, .seq tI x63)]) (obs := []) (by kernel_rfl) (by kernel_rfl) (by kernel_rfl) allP0 ?_
        refine seqQ_norm ?_
        refine W_seq (by kernel_rfl) ?_
        refine W_cond (o := .tmp 20) (b := decide (i80 < (List.length v65 : Int))) (by kernel_rfl) (by kernel_rfl) (fun h85 => ?_) (fun h85 => ?_)
        · replace h := stepL_true h85 h
          obtain ⟨v83, _, h84, h, rfl⟩ := h
          refine W_skip [1, 5, 8, 11, 12, 13, 17, 18, 19] [37] (fr' := [(1, aD (.slice tI) a1), (5, .one (.slc 37)), (8, aI x81), (11, aD (.slice (.slice tI)) a0), (12, aI (List.length a0 : Int)), (13, aI i62), (17, aD (.slice tI) v65), (18, aI (List.length v65 : Int)), (19, aI i80)]) (L' := [(37, .seq tI x63)]) (by kernel_rfl) (by kernel_rfl) ?_
          refine seqQ_norm ?_
          refine W_seq (by kernel_rfl) ?_
          refine W_block (id := 3) (by kernel_rfl) ?_
          refine W_seq (by kernel_rfl) ?_
          refine W_run 5 [(3, .val (.dat tI v83))] [1, 5, 8, 9, 10, 11, 12, 13, 17, 18, 19] [37] (fr' := [(1, aD (.slice tI) a1), (5, .one (.slc 37)), (8, aI x81), (9, aI i80), (10, aI v83), (11, aD (.slice (.slice tI)) a0), (12, aI (List.length a0 : Int)), (13, aI i62), (17, aD (.slice tI) v65), (18, aI (List.length v65 : Int)), (19, aI i80)]) (L' := [(37, .seq tI x63)]) (obs := [Idx v65 i80 v83]) (by kernel_rfl) (by kernel_rfl) (by kernel_rfl) (allP1 (Idx.of h84)) ?_
          refine seqQ_norm ?_
          obtain ⟨v86, h87, h⟩ := bind_of h
          refine W_run 9 [(9, .val (.dat tI v86))] [1, 5, 8, 11, 12, 13, 17, 18, 19] [37] (fr' := [(1, aD (.slice tI) a1), (5, .one (.slc 37)), (8, aI (w64 (x81 + (w64 (v83 * v86))))), (11, aD (.slice (.slice tI)) a0), (12, aI (List.length a0 : Int)), (13, aI i62), (17, aD (.slice tI) v65), (18, aI (List.length v65 : Int)), (19, aI i80)]) (L' := [(37, .seq tI x63)]) (obs := [Idx a1 i80 v86]) (by kernel_rfl) (by kernel_rfl) (by kernel_rfl) (allP1 (Idx.of h87)) ?_
          refine blockQ_norm ?_
          refine seqQ_norm ?_
          obtain rfl := Option.some.inj h
          refine W_run 2 [] [1, 5, 8, 11, 12, 13, 17, 18, 19] [37] (fr' := [(1, aD (.slice tI) a1), (5, .one (.slc 37)), (8, aI (w64 (x81 + (w64 (v83 * v86))))), (11, aD (.slice (.slice tI)) a0), (12, aI (List.length a0 : Int)), (13, aI i62), (17, aD (.slice tI) v65), (18, aI (List.length v65 : Int)), (19, aI (w64 (i80 + (1 : Int))))]) (L' := [(37, .seq tI x63)]) (obs := []) (by kernel_rfl) (by kernel_rfl) (by kernel_rfl) allP0 ?_
          exact round_next' (by kernel_rfl) (by kernel_rfl)
        · obtain rfl := stepL_false h85 h
          refine W_exit (id := 2) [1, 5, 8, 11, 12, 13] [37] (fr' := [(1, aD (.slice tI) a1), (5, .one (.slc 37)), (8, aI x81), (11, aD (.slice (.slice tI)) a0), (12, aI (List.length a0 : Int)), (13, aI i62)]) (L' := [(37, .seq tI x63)]) (by kernel_rfl) (by kernel_rfl) ?_
          refine seqQ_exit ?_
          refine round_exit ?_
          exact exQ_mk (by kernel_rfl) (by kernel_rfl)
      · intro e fr L hJ
        obtain ⟨rfl, rfl, rfl⟩ := hJ
        refine LT_keep [1, 5, 8, 11, 12, 13] [37] (fr' := [(1, aD (.slice tI) a1), (5, .one (.slc 37)), (8, aI v89), (11, aD (.slice (.slice tI)) a0), (12, aI (List.length a0 : Int)), (13, aI i62)]) (L' := [(37, .seq tI x63)]) (by kernel_rfl) ?_
        refine blockQ_hit ?_
        refine seqQ_norm ?_
        obtain ⟨_, h94, h⟩ := bind_of h
        replace h94 := ck_some h94
        refine W_run 6 [] [1, 5, 11, 12, 13] [37] (fr' := [(1, aD (.slice tI) a1), (5, .one (.slc 37)), (11, aD (.slice (.slice tI)) a0), (12, aI (List.length a0 : Int)), (13, aI i62)]) (L' := [(37, .seq tI (x63 ++ [Int.tmod v89 (7 : Int)]))]) (obs := [((7 : Int) ≠ 0), SmallLen (List.length x63 + List.length [Int.tmod v89 (7 : Int)])]) (by kernel_rfl) (by kernel_rfl) (by kernel_rfl) (allP2 (by decide) (allP1 h94)) ?_
        refine blockQ_norm ?_
        refine seqQ_norm ?_
        obtain rfl := Option.some.inj h
        refine W_run 2 [] [1, 5, 11, 12, 13] [37] (fr' := [(1, aD (.slice tI) a1), (5, .one (.slc 37)), (11, aD (.slice (.slice tI)) a0), (12, aI (List.length a0 : Int)), (13, aI (w64 (i62 + (1 : Int))))]) (L' := [(37, .seq tI (x63 ++ [Int.tmod v89 (7 : Int)]))]) (obs := []) (by kernel_rfl) (by kernel_rfl) (by kernel_rfl) allP0 ?_
        exact round_next' (by kernel_rfl) (by kernel_rfl)
    · obtain rfl := stepL_false h67 h
      refine W_exit (id := 0) [5] [37] (fr' := [(5, .one (.slc 37))]) (L' := [(37, .seq tI x63)]) (by kernel_rfl) (by kernel_rfl) ?_
      refine seqQ_exit ?_
      refine round_exit ?_
      exact exQ_mk (by kernel_rfl) (by kernel_rfl)
  · intro e fr L hJ
    obtain ⟨rfl, rfl, rfl⟩ := hJ
    refine LT_keep [5] [37] (fr' := [(5, .one (.slc 37))]) (L' := [(37, .seq tI v96)]) (by kernel_rfl) ?_
    refine blockQ_hit ?_
    refine seqQ_norm ?_
    refine W_seq (by kernel_rfl) ?_
    refine W_run 2 [] [4] [37] (fr' := [(4, .one (.slc 37))]) (L' := [(37, .seq tI v96)]) (obs := []) (by kernel_rfl) (by kernel_rfl) (by kernel_rfl) allP0 ?_
    refine seqQ_norm ?_
    obtain rfl := Option.some.inj h
    refine W_frz 37 (by kernel_rfl) ?_
    refine W_ret [4] [] (fr' := [(4, aD (.slice tI) v96)]) (L' := []) (by kernel_rfl) (by kernel_rfl) ?_
    exact retQ_mk (by kernel_rfl) (by kernel_rfl) (by kernel_rfl)

def slices_Equal_Lintint_b1 (a1 : (List Int)) (i16 : Int) (v19 : Int) (x17 : Unit) : Option (Flow Unit (Esc Bool Unit)) :=
(idx a1 i16).bind fun v22 =>
bif v19 != v22 then
(some (.done (.ret false)))
else
(some (.next ()))
@[reducible] def slices_Equal_Lintint_s2 (a0 : (List Int)) (a1 : (List Int)) (v : Int × Unit) : Fr × LL := ([(0, aD (.slice tI) a0), (1, aD (.slice tI) a1), (12, aI (List.length a0 : Int)), (13, aI v.1)], [])
@[reducible] def slices_Equal_Lintint_s3 (v : Bool) : Fr × LL := ([(4, aB v)], [])
@[reducible] def slices_Equal_Lintint_s4 (v : Unit) : Fr × LL := ([], [])
def slices_Equal_Lintint (a0 : (List Int)) (a1 : (List Int)) : Option Bool :=
bif (List.length a0 : Int) != (List.length a1 : Int) then
(some false)
else
((forL (slices_Equal_Lintint_b1 a1) (fun x17 => (.brk ())) a0 0 ()).bind fun v26 =>
match v26 with
| .ret v31 =>
(some v31)
| .brk v32 =>
(some true))
theorem slices_Equal_Lintint_ok {a0 : (List Int)} {a1 : (List Int)} {r : Bool} (h : slices_Equal_Lintint a0 a1 = some r) : FnC Try.prog 63 [aD (.slice tI) a0, aD (.slice tI) a1] [] (aB r) [] := by
  refine fnC_of_W (B := bodyOf Try.f63) (n := 26) Try.func63 (by kernel_rfl) (by kernel_rfl) (by kernel_rfl) (by kernel_rfl) (by kernel_rfl) ?_
  intro K
  refine W_seq (by kernel_rfl) ?_
  refine W_run 1 [] [0, 1] [] (fr' := [(0, aD (.slice tI) a0), (1, aD (.slice tI) a1)]) (L' := []) (obs := []) (by kernel_rfl) (by kernel_rfl) (by kernel_rfl) allP0 ?_
  refine seqQ_norm ?_
  refine W_seq (by kernel_rfl) ?_
  refine W_seq (by kernel_rfl) ?_
  refine W_run 5 [] [0, 1, 10] [] (fr' := [(0, aD (.slice tI) a0), (1, aD (.slice tI) a1), (10, aB ((List.length a0 : Int) != (List.length a1 : Int)))]) (L' := []) (obs := []) (by kernel_rfl) (by kernel_rfl) (by kernel_rfl) allP0 ?_
  refine seqQ_norm ?_
  refine W_cond (o := .tmp 10) (b := (List.length a0 : Int) != (List.length a1 : Int)) (by kernel_rfl) (by kernel_rfl) (fun h1 => ?_) (fun h1 => ?_)
  · replace h := ofT h1 h
    refine W_seq (by kernel_rfl) ?_
    refine W_run 1 [] [4] [] (fr' := [(4, aB false)]) (L' := []) (obs := []) (by kernel_rfl) (by kernel_rfl) (by kernel_rfl) allP0 ?_
    refine seqQ_norm ?_
    obtain rfl := Option.some.inj h
    refine W_ret [4] [] (fr' := [(4, aB false)]) (L' := []) (by kernel_rfl) (by kernel_rfl) ?_
    refine seqQ_ret ?_
    exact retQ_mk (by kernel_rfl) (by kernel_rfl) (by kernel_rfl)
  · replace h := ofF h1 h
    refine W_skip [0, 1] [] (fr' := [(0, aD (.slice tI) a0), (1, aD (.slice tI) a1)]) (L' := []) (by kernel_rfl) (by kernel_rfl) ?_
    refine seqQ_norm ?_
    refine W_seq (by kernel_rfl) ?_
    refine W_seq (by kernel_rfl) ?_
    refine W_run 3 [] [0, 1, 12, 13] [] (fr' := [(0, aD (.slice tI) a0), (1, aD (.slice tI) a1), (12, aI (List.length a0 : Int)), (13, aI (0 : Int))]) (L' := []) (obs := []) (by kernel_rfl) (by kernel_rfl) (by kernel_rfl) allP0 ?_
    refine seqQ_norm ?_
    refine W_block (id := 0) (by kernel_rfl) ?_
    obtain ⟨v26, h27, h⟩ := bind_of h
    refine W_len (t := 0) (u := tI) (xs := a0) (by kernel_rfl) (fun h30 => ?_)
    obtain ⟨h28, h29⟩ := forL_iter h30 h27
    refine W_weaken [0, 1, 12, 13] [] (fr' := ((slices_Equal_Lintint_s2 a0 a1) ((0 : Int), ())).1) (L' := ((slices_Equal_Lintint_s2 a0 a1) ((0 : Int), ())).2) (by kernel_rfl) ?_
    refine W_cutK (W_loop (S := (slices_Equal_Lintint_s2 a0 a1)) (J := (escQ (exQ .ret slices_Equal_Lintint_s3) (exQ (.exit 0) slices_Equal_Lintint_s4))) (by kernel_rfl) ?_ h28 _ v26 h29) ?_
    · rintro ⟨i16, x17⟩ s h
      refine W_seq (by kernel_rfl) ?_
      refine W_run 1 [] [0, 1, 12, 13, 14] [] (fr' := [(0, aD (.slice tI) a0), (1, aD (.slice tI) a1), (12, aI (List.length a0 : Int)), (13, aI i16), (14, aB (decide (i16 < (List.length a0 : Int))))]) (L' := []) (obs := []) (by kernel_rfl) (by kernel_rfl) (by kernel_rfl) allP0 ?_
      refine seqQ_norm ?_
      refine W_seq (by kernel_rfl) ?_
      refine W_cond (o := .tmp 14) (b := decide (i16 < (List.length a0 : Int))) (by kernel_rfl) (by kernel_rfl) (fun h21 => ?_) (fun h21 => ?_)
      · replace h := stepL_true h21 h
        obtain ⟨v19, _, h20, h, rfl⟩ := h
        refine W_skip [0, 1, 12, 13] [] (fr' := [(0, aD (.slice tI) a0), (1, aD (.slice tI) a1), (12, aI (List.length a0 : Int)), (13, aI i16)]) (L' := []) (by kernel_rfl) (by kernel_rfl) ?_
        refine seqQ_norm ?_
        refine W_seq (by kernel_rfl) ?_
        refine W_block (id := 1) (by kernel_rfl) ?_
        refine W_seq (by kernel_rfl) ?_
        refine W_run 2 [] [0, 1, 5, 12, 13] [] (fr' := [(0, aD (.slice tI) a0), (1, aD (.slice tI) a1), (5, aI i16), (12, aI (List.length a0 : Int)), (13, aI i16)]) (L' := []) (obs := []) (by kernel_rfl) (by kernel_rfl) (by kernel_rfl) allP0 ?_
        refine seqQ_norm ?_
        refine W_seq (by kernel_rfl) ?_
        obtain ⟨v22, h23, h⟩ := bind_of h
        refine W_draw2 9 [(5, .val (.dat tI v19)), (13, .val (.dat tI v22))] [] [0, 1, 12, 13, 24] [] (fr' := [(0, aD (.slice tI) a0), (1, aD (.slice tI) a1), (12, aI (List.length a0 : Int)), (13, aI i16), (24, aB (v19 != v22))]) (L' := []) (out := [(16, aD (.slice tI) a0), (17, aI i16), (18, .one (.dptr tI v19)), (19, aI v19), (20, aD (.slice tI) a1), (21, aI i16), (22, .one (.dptr tI v22)), (23, aI v22), (24, aB (v19 != v22))]) (obs := [Idx a0 i16 v19, Idx a1 i16 v22]) (obs2 := []) (calls := []) (by kernel_rfl) (by kernel_rfl) (by kernel_rfl) (by kernel_rfl) (allP2 (Idx.of h20) (allP1 (Idx.of h23))) allC0 (by kernel_rfl) allP0 ?_
        refine seqQ_norm ?_
        refine W_cond (o := .tmp 24) (b := v19 != v22) (by kernel_rfl) (by kernel_rfl) (fun h24 => ?_) (fun h24 => ?_)
        · replace h := ofT h24 h
          refine W_seq (by kernel_rfl) ?_
          refine W_run 1 [] [4] [] (fr' := [(4, aB false)]) (L' := []) (obs := []) (by kernel_rfl) (by kernel_rfl) (by kernel_rfl) allP0 ?_
          refine seqQ_norm ?_
          obtain rfl := Option.some.inj h
          refine W_ret [4] [] (fr' := [(4, aB false)]) (L' := []) (by kernel_rfl) (by kernel_rfl) ?_
          refine blockQ_ret ?_
          refine seqQ_ret ?_
          refine round_ret ?_
          refine escQ_ret ?_
          exact exQ_mk (by kernel_rfl) (by kernel_rfl)
        · replace h := ofF h24 h
          refine W_skip [0, 1, 12, 13] [] (fr' := [(0, aD (.slice tI) a0), (1, aD (.slice tI) a1), (12, aI (List.length a0 : Int)), (13, aI i16)]) (L' := []) (by kernel_rfl) (by kernel_rfl) ?_
          refine blockQ_norm ?_
          refine seqQ_norm ?_
          obtain rfl := Option.some.inj h
          refine W_run 2 [] [0, 1, 12, 13] [] (fr' := [(0, aD (.slice tI) a0), (1, aD (.slice tI) a1), (12, aI (List.length a0 : Int)), (13, aI (w64 (i16 + (1 : Int))))]) (L' := []) (obs := []) (by kernel_rfl) (by kernel_rfl) (by kernel_rfl) allP0 ?_
          exact round_next' (by kernel_rfl) (by kernel_rfl)
      · obtain rfl := stepL_false h21 h
        refine W_exit (id := 0) [] [] (fr' := []) (L' := []) (by kernel_rfl) (by kernel_rfl) ?_
        refine seqQ_exit ?_
        refine round_exit ?_
        refine escQ_brk ?_
        exact exQ_mk (by kernel_rfl) (by kernel_rfl)
    · intro e fr L hJ
      rcases v26 with v31 | v32
      · obtain ⟨rfl, rfl, rfl⟩ := hJ
        obtain rfl := Option.some.inj h
        refine LT_keep [4] [] (fr' := [(4, aB v31)]) (L' := []) (by kernel_rfl) ?_
        refine blockQ_ret ?_
        refine seqQ_ret ?_
        exact retQ_mk (by kernel_rfl) (by kernel_rfl) (by kernel_rfl)
      · obtain ⟨rfl, rfl, rfl⟩ := hJ
        refine LT_keep [] [] (fr' := []) (L' := []) (by kernel_rfl) ?_
        refine blockQ_hit ?_
        refine seqQ_norm ?_
        refine W_seq (by kernel_rfl) ?_
        refine W_run 1 [] [4] [] (fr' := [(4, aB true)]) (L' := []) (obs := []) (by kernel_rfl) (by kernel_rfl) (by kernel_rfl) allP0 ?_
        refine seqQ_norm ?_
        obtain rfl := Option.some.inj h
        refine W_ret [4] [] (fr' := [(4, aB true)]) (L' := []) (by kernel_rfl) (by kernel_rfl) ?_
        exact retQ_mk (by kernel_rfl) (by kernel_rfl) (by kernel_rfl)

def guess_product (a0 : (List (List Int))) (a1 : (List (List Int))) (a2 : (List (List Int))) (a3 : (List Int)) : Option Bool :=
(guess_times a1 a3).bind fun r1 =>
(guess_times a0 r1).bind fun r3 =>
(guess_times a2 a3).bind fun r5 =>
(slices_Equal_Lintint r3 r5).bind fun r7 =>
some r7
theorem guess_product_ok {a0 : (List (List Int))} {a1 : (List (List Int))} {a2 : (List (List Int))} {a3 : (List Int)} {r : Bool} (h : guess_product a0 a1 a2 a3 = some r) : FnC Try.prog 47 [aD (.slice (.slice tI)) a0, aD (.slice (.slice tI)) a1, aD (.slice (.slice tI)) a2, aD (.slice tI) a3] [] (aB r) [] := by
  refine fnC_of_W (B := bodyOf Try.f47) (n := 18) Try.func47 (by kernel_rfl) (by kernel_rfl) (by kernel_rfl) (by kernel_rfl) (by kernel_rfl) ?_
  intro K
  refine W_seq (by kernel_rfl) ?_
  refine W_run 1 [] [0, 1, 2, 3] [] (fr' := [(0, aD (.slice (.slice tI)) a0), (1, aD (.slice (.slice tI)) a1), (2, aD (.slice (.slice tI)) a2), (3, aD (.slice tI) a3)]) (L' := []) (obs := []) (by kernel_rfl) (by kernel_rfl) (by kernel_rfl) allP0 ?_
  refine seqQ_norm ?_
  refine W_seq (by kernel_rfl) ?_
  refine W_region (by kernel_rfl) ?_
  refine WO_run (j := 3) (k := 3) (orcs := []) (kF := [2, 3, 9, 10, 11]) (kL := []) (fr' := [(2, aD (.slice (.slice tI)) a2), (3, aD (.slice tI) a3), (9, aD (.slice (.slice tI)) a0), (10, aD (.slice (.slice tI)) a1), (11, aD (.slice tI) a3)]) (L' := []) (obs := []) rfl (by kernel_rfl) allP0 ?_
  obtain ⟨r1, h2, h⟩ := bind_of h
  refine WO_call0 (us := [none, none]) (d := 12) (p := True) (j := 4) rfl ⟨by kernel_rfl, by kernel_rfl, by kernel_rfl⟩ trivial (guess_times_ok h2) (by kernel_rfl) ?_
  obtain ⟨r3, h4, h⟩ := bind_of h
  refine WO_call0 (us := [none, none]) (d := 13) (p := True) (j := 5) rfl ⟨by kernel_rfl, by kernel_rfl, by kernel_rfl⟩ trivial (guess_times_ok h4) (by kernel_rfl) ?_
  refine WO_run (j := 7) (k := 2) (orcs := []) (kF := [13, 14, 15]) (kL := []) (fr' := [(13, aD (.slice tI) r3), (14, aD (.slice (.slice tI)) a2), (15, aD (.slice tI) a3)]) (L' := []) (obs := []) rfl (by kernel_rfl) allP0 ?_
  obtain ⟨r5, h6, h⟩ := bind_of h
  refine WO_call0 (us := [none, none]) (d := 16) (p := True) (j := 8) rfl ⟨by kernel_rfl, by kernel_rfl, by kernel_rfl⟩ trivial (guess_times_ok h6) (by kernel_rfl) ?_
  obtain ⟨r7, h8, h⟩ := bind_of h
  refine WO_call0 (us := [none, none]) (d := 17) (p := True) (j := 9) rfl ⟨by kernel_rfl, by kernel_rfl, by kernel_rfl⟩ trivial (slices_Equal_Lintint_ok h8) (by kernel_rfl) ?_
  refine WO_run (j := 10) (k := 1) (orcs := []) (kF := [8]) (kL := []) (fr' := [(8, aB r7)]) (L' := []) (obs := []) rfl (by kernel_rfl) allP0 ?_
  refine WO_fin [8] [] (fr' := [(8, aB r7)]) (L' := []) (by kernel_rfl) (by kernel_rfl) ?_
  refine seqQ_norm ?_
  obtain rfl := Option.some.inj h
  refine W_ret [8] [] (fr' := [(8, aB r7)]) (L' := []) (by kernel_rfl) (by kernel_rfl) ?_
  exact retQ_mk (by kernel_rfl) (by kernel_rfl) (by kernel_rfl)

def guess_Wrong_b29 (i181 : Int) (i251 : Int) (v254 : Int) (x252 : (List Int)) : Option (Flow (List Int) (List Int)) :=
(ck (0 ≤ i251)).bind fun _ =>
(idx x252 i251).bind fun v258 =>
some (.next (List.set x252 (Int.toNat i251) (bAnd .i64 (bShr .i64 i181 i251) (1 : Int))))
@[reducible] def guess_Wrong_s30 (a0 : (List (List Int))) (a1 : (List (List Int))) (a2 : (List (List Int))) (i181 : Int) (x182 : Int) (v : Int × (List Int)) : Fr × LL := ([(0, aD (.slice (.slice tI)) a0), (1, aD (.slice (.slice tI)) a1), (2, aD (.slice (.slice tI)) a2), (9, aI x182), (10, aI i181), (11, .one (.slc 29)), (23, aI (bShl .i64 (1 : Int) (List.length a0 : Int))), (24, aI i181), (31, aI (List.length (List.replicate (Int.toNat (List.length a0 : Int)) (0 : Int)) : Int)), (32, aI v.1)], [(29, .seq tI v.2)])
@[reducible] def guess_Wrong_s31 (a0 : (List (List Int))) (a1 : (List (List Int))) (a2 : (List (List Int))) (i181 : Int) (x182 : Int) (v : (List Int)) : Fr × LL := ([(0, aD (.slice (.slice tI)) a0), (1, aD (.slice (.slice tI)) a1), (2, aD (.slice (.slice tI)) a2), (9, aI x182), (11, .one (.slc 29)), (23, aI (bShl .i64 (1 : Int) (List.length a0 : Int))), (24, aI i181)], [(29, .seq tI v)])
def guess_Wrong_g32 (a0 : (List (List Int))) (a1 : (List (List Int))) (a2 : (List (List Int))) (i181 : Int) (x182 : Int) : Option Int :=
(ck (0 ≤ (List.length a0 : Int) ∧ (List.length a0 : Int) = (List.length a0 : Int) ∧ (List.length a0 : Int) ≤ 4294967296)).bind fun _ =>
(forL (guess_Wrong_b29 i181) (fun x252 => x252) (List.replicate (Int.toNat (List.length a0 : Int)) (0 : Int)) 0 (List.replicate (Int.toNat (List.length a0 : Int)) (0 : Int))).bind fun v261 =>
(guess_product a0 a1 a2 v261).bind fun r266 =>
bif !r266 then
(some (w64 (x182 + (1 : Int))))
else
(some x182)
@[reducible] def guess_Wrong_s33 (a0 : (List (List Int))) (a1 : (List (List Int))) (a2 : (List (List Int))) (i181 : Int) (v : Int) : Fr × LL := ([(0, aD (.slice (.slice tI)) a0), (1, aD (.slice (.slice tI)) a1), (2, aD (.slice (.slice tI)) a2), (9, aI v), (23, aI (bShl .i64 (1 : Int) (List.length a0 : Int))), (24, aI i181)], [])
def guess_Wrong_b34 (a0 : (List (List Int))) (a1 : (List (List Int))) (a2 : (List (List Int))) (i181 : Int) (x182 : Int) : Option (Flow Int Int) :=
(guess_Wrong_g32 a0 a1 a2 i181 x182).bind fun v269 =>
some (.next v269)
@[reducible] def guess_Wrong_s35 (a0 : (List (List Int))) (a1 : (List (List Int))) (a2 : (List (List Int))) (v : Int × Int) : Fr × LL := ([(0, aD (.slice (.slice tI)) a0), (1, aD (.slice (.slice tI)) a1), (2, aD (.slice (.slice tI)) a2), (9, aI v.2), (23, aI (bShl .i64 (1 : Int) (List.length a0 : Int))), (24, aI v.1)], [])
@[reducible] def guess_Wrong_s36 (v : Int) : Fr × LL := ([(9, aI v)], [])
def guess_Wrong (a0 : (List (List Int))) (a1 : (List (List Int))) (a2 : (List (List Int))) : Option (Int × Int) :=
(guess_wrong [a0, a1, a2]).bind fun r1 =>
bif r1 != (0 : Int) then
(some ((0 : Int), r1))
else
((ck (0 ≤ (List.length a0 : Int))).bind fun _ =>
(forI (0 : Int) (bShl .i64 (1 : Int) (List.length a0 : Int)) (guess_Wrong_b34 a0 a1 a2) (fun x182 => x182) (0 : Int)).bind fun v272 =>
some (v272, (0 : Int)))
theorem guess_Wrong_ok {a0 : (List (List Int))} {a1 : (List (List Int))} {a2 : (List (List Int))} {r : (Int × Int)} (h : guess_Wrong a0 a1 a2 = some r) : FnC Try.prog 29 [aD (.slice (.slice tI)) a0, aD (.slice (.slice tI)) a1, aD (.slice (.slice tI)) a2] [] (.tup [.dat tI r.1, .dat tI r.2]) [] := by
  refine fnC_of_W (B := bodyOf Try.f29) (n := 53) Try.func29 (by kernel_rfl) (by kernel_rfl) (by kernel_rfl) (by kernel_rfl) (by kernel_rfl) ?_
  intro K
  refine W_seq (by kernel_rfl) ?_
  refine W_run 2 [] [0, 1, 2] [] (fr' := [(0, aD (.slice (.slice tI)) a0), (1, aD (.slice (.slice tI)) a1), (2, aD (.slice (.slice tI)) a2)]) (L' := []) (obs := []) (by kernel_rfl) (by kernel_rfl) (by kernel_rfl) allP0 ?_
  refine seqQ_norm ?_
  refine W_seq (by kernel_rfl) ?_
  refine W_seq (by kernel_rfl) ?_
  refine W_region (by kernel_rfl) ?_
  refine WO_run (j := 4) (k := 4) (orcs := []) (kF := [0, 1, 2, 16]) (kL := [16]) (fr' := [(0, aD (.slice (.slice tI)) a0), (1, aD (.slice (.slice tI)) a1), (2, aD (.slice (.slice tI)) a2), (16, .one (.slc 16))]) (L' := [(16, .seq (.slice (.slice tI)) [a0, a1, a2])]) (obs := []) rfl (by kernel_rfl) allP0 ?_
  obtain ⟨r1, h2, h⟩ := bind_of h
  refine WO_frz 16 (by kernel_rfl) ?_
  refine WO_call0 (us := [none]) (d := 17) (p := True) (j := 5) rfl ⟨by kernel_rfl, by kernel_rfl, by kernel_rfl⟩ trivial (guess_wrong_ok h2) (by kernel_rfl) ?_
  refine WO_run (j := 6) (k := 1) (orcs := []) (kF := [0, 1, 2, 8]) (kL := []) (fr' := [(0, aD (.slice (.slice tI)) a0), (1, aD (.slice (.slice tI)) a1), (2, aD (.slice (.slice tI)) a2), (8, aI r1)]) (L' := []) (obs := []) rfl (by kernel_rfl) allP0 ?_
  refine WO_fin [0, 1, 2, 8] [] (fr' := [(0, aD (.slice (.slice tI)) a0), (1, aD (.slice (.slice tI)) a1), (2, aD (.slice (.slice tI)) a2), (8, aI r1)]) (L' := []) (by kernel_rfl) (by kernel_rfl) ?_
  refine seqQ_norm ?_
  refine W_seq (by kernel_rfl) ?_
  refine W_run 2 [] [0, 1, 2, 8, 19] [] (fr' := [(0, aD (.slice (.slice tI)) a0), (1, aD (.slice (.slice tI)) a1), (2, aD (.slice (.slice tI)) a2), (8, aI r1), (19, aB (r1 != (0 : Int)))]) (L' := []) (obs := []) (by kernel_rfl) (by kernel_rfl) (by kernel_rfl) allP0 ?_
  refine seqQ_norm ?_
  refine W_cond (o := .tmp 19) (b := r1 != (0 : Int)) (by kernel_rfl) (by kernel_rfl) (fun h3 => ?_) (fun h3 => ?_)
  · replace h := ofT h3 h
    refine W_seq (by kernel_rfl) ?_
    refine W_run 3 [] [6, 7] [] (fr' := [(6, aI (0 : Int)), (7, aI r1)]) (L' := []) (obs := []) (by kernel_rfl) (by kernel_rfl) (by kernel_rfl) allP0 ?_
    refine seqQ_norm ?_
    obtain rfl := Option.some.inj h
    refine W_ret [6, 7] [] (fr' := [(6, aI (0 : Int)), (7, aI r1)]) (L' := []) (by kernel_rfl) (by kernel_rfl) ?_
    refine seqQ_ret ?_
    exact retQ_mk (by kernel_rfl) (by kernel_rfl) (by kernel_rfl)
  · replace h := ofF h3 h
    refine W_skip [0, 1, 2] [] (fr' := [(0, aD (.slice (.slice tI)) a0), (1, aD (.slice (.slice tI)) a1), (2, aD (.slice (.slice tI)) a2)]) (L' := []) (by kernel_rfl) (by kernel_rfl) ?_
    refine seqQ_norm ?_
    refine W_seq (by kernel_rfl) ?_
    refine W_run 1 [] [0, 1, 2, 9] [] (fr' := [(0, aD (.slice (.slice tI)) a0), (1, aD (.slice (.slice tI)) a1), (2, aD (.slice (.slice tI)) a2), (9, aI (0 : Int))]) (L' := []) (obs := []) (by kernel_rfl) (by kernel_rfl) (by kernel_rfl) allP0 ?_
    refine seqQ_norm ?_
    refine W_seq (by kernel_rfl) ?_
    refine W_seq (by kernel_rfl) ?_
    obtain ⟨_, h4, h⟩ := bind_of h
    replace h4 := ck_some h4
    refine W_run 4 [] [0, 1, 2, 9, 23, 24] [] (fr' := [(0, aD (.slice (.slice tI)) a0), (1, aD (.slice (.slice tI)) a1), (2, aD (.slice (.slice tI)) a2), (9, aI (0 : Int)), (23, aI (bShl .i64 (1 : Int) (List.length a0 : Int))), (24, aI (0 : Int))]) (L' := []) (obs := [(0 ≤ (List.length a0 : Int))]) (by kernel_rfl) (by kernel_rfl) (by kernel_rfl) (allP1 h4) ?_
    refine seqQ_norm ?_
    refine W_block (id := 0) (by kernel_rfl) ?_
    obtain ⟨v272, h273, h⟩ := bind_of h
    obtain ⟨h274, h275⟩ := forI_iter h273
    refine W_weaken [0, 1, 2, 9, 23, 24] [] (fr' := ((guess_Wrong_s35 a0 a1 a2) ((0 : Int), (0 : Int))).1) (L' := ((guess_Wrong_s35 a0 a1 a2) ((0 : Int), (0 : Int))).2) (by kernel_rfl) ?_
    refine W_cutK (W_loop (S := (guess_Wrong_s35 a0 a1 a2)) (J := (exQ (.exit 0) guess_Wrong_s36)) (by kernel_rfl) ?_ h274 _ v272 h275) ?_
    · rintro ⟨i181, x182⟩ s h
      refine W_seq (by kernel_rfl) ?_
      refine W_run 1 [] [0, 1, 2, 9, 23, 24, 25] [] (fr' := [(0, aD (.slice (.slice tI)) a0), (1, aD (.slice (.slice tI)) a1), (2, aD (.slice (.slice tI)) a2), (9, aI x182), (23, aI (bShl .i64 (1 : Int) (List.length a0 : Int))), (24, aI i181), (25, aB (decide (i181 < (bShl .i64 (1 : Int) (List.length a0 : Int)))))]) (L' := []) (obs := []) (by kernel_rfl) (by kernel_rfl) (by kernel_rfl) allP0 ?_
      refine seqQ_norm ?_
      refine W_seq (by kernel_rfl) ?_
      refine W_cond (o := .tmp 25) (b := decide (i181 < (bShl .i64 (1 : Int) (List.length a0 : Int)))) (by kernel_rfl) (by kernel_rfl) (fun h184 => ?_) (fun h184 => ?_)
      · replace h := stepI_true h184 h
        obtain ⟨_, h, rfl⟩ := h
        refine W_skip [0, 1, 2, 9, 23, 24] [] (fr' := [(0, aD (.slice (.slice tI)) a0), (1, aD (.slice (.slice tI)) a1), (2, aD (.slice (.slice tI)) a2), (9, aI x182), (23, aI (bShl .i64 (1 : Int) (List.length a0 : Int))), (24, aI i181)]) (L' := []) (by kernel_rfl) (by kernel_rfl) ?_
        refine seqQ_norm ?_
        refine W_seq (by kernel_rfl) ?_
        obtain ⟨v269, h270, h⟩ := bind_of h
        refine W_cutK (Q' := (exQ .normal (guess_Wrong_s33 a0 a1 a2 i181)) v269) ?_ ?_
        · replace h := h270
          refine W_block (id := 1) (by kernel_rfl) ?_
          refine W_seq (by kernel_rfl) ?_
          refine W_run 2 [] [0, 1, 2, 9, 10, 23, 24] [] (fr' := [(0, aD (.slice (.slice tI)) a0), (1, aD (.slice (.slice tI)) a1), (2, aD (.slice (.slice tI)) a2), (9, aI x182), (10, aI i181), (23, aI (bShl .i64 (1 : Int) (List.length a0 : Int))), (24, aI i181)]) (L' := []) (obs := []) (by kernel_rfl) (by kernel_rfl) (by kernel_rfl) allP0 ?_
          refine seqQ_norm ?_
          refine W_seq (by kernel_rfl) ?_
          obtain ⟨_, h241, h⟩ := bind_of h
          replace h241 := ck_some h241
          refine W_run 4 [] [0, 1, 2, 9, 10, 11, 23, 24] [29] (fr' := [(0, aD (.slice (.slice tI)) a0), (1, aD (.slice (.slice tI)) a1), (2, aD (.slice (.slice tI)) a2), (9, aI x182), (10, aI i181), (11, .one (.slc 29)), (23, aI (bShl .i64 (1 : Int) (List.length a0 : Int))), (24, aI i181)]) (L' := [(29, .seq tI (List.replicate (Int.toNat (List.length a0 : Int)) (0 : Int)))]) (obs := [0 ≤ (List.length a0 : Int) ∧ (List.length a0 : Int) = (List.length a0 : Int) ∧ SmallLen (List.length a0 : Int)]) (by kernel_rfl) (by kernel_rfl) (by kernel_rfl) (allP1 h241) ?_
          refine seqQ_norm ?_
          refine W_seq (by kernel_rfl) ?_
          refine W_seq (by kernel_rfl) ?_
          refine W_run 3 [] [0, 1, 2, 9, 10, 11, 23, 24, 31, 32] [29] (fr' := [(0, aD (.slice (.slice tI)) a0), (1, aD (.slice (.slice tI)) a1), (2, aD (.slice (.slice tI)) a2), (9, aI x182), (10, aI i181), (11, .one (.slc 29)), (23, aI (bShl .i64 (1 : Int) (List.length a0 : Int))), (24, aI i181), (31, aI (List.length (List.replicate (Int.toNat (List.length a0 : Int)) (0 : Int)) : Int)), (32, aI (0 : Int))]) (L' := [(29, .seq tI (List.replicate (Int.toNat (List.length a0 : Int)) (0 : Int)))]) (obs := []) (by kernel_rfl) (by kernel_rfl) (by kernel_rfl) allP0 ?_
          refine seqQ_norm ?_
          refine W_block (id := 2) (by kernel_rfl) ?_
          obtain ⟨v261, h262, h⟩ := bind_of h
          refine W_lenS (s := 29) (u := tI) (xs := List.replicate (Int.toNat (List.length a0 : Int)) (0 : Int)) (by kernel_rfl) (fun h265 => ?_)
          obtain ⟨h263, h264⟩ := forL_iter h265 h262
          refine W_weaken [0, 1, 2, 9, 10, 11, 23, 24, 31, 32] [29] (fr' := ((guess_Wrong_s30 a0 a1 a2 i181 x182) ((0 : Int), List.replicate (Int.toNat (List.length a0 : Int)) (0 : Int))).1) (L' := ((guess_Wrong_s30 a0 a1 a2 i181 x182) ((0 : Int), List.replicate (Int.toNat (List.length a0 : Int)) (0 : Int))).2) (by kernel_rfl) ?_
          refine W_cutK (W_loop (S := (guess_Wrong_s30 a0 a1 a2 i181 x182)) (J := (exQ (.exit 2) (guess_Wrong_s31 a0 a1 a2 i181 x182))) (by kernel_rfl) ?_ h263 _ v261 h264) ?_
          · rintro ⟨i251, x252⟩ s h
            refine W_seq (by kernel_rfl) ?_
            refine W_run 1 [] [0, 1, 2, 9, 10, 11, 23, 24, 31, 32, 33] [29] (fr' := [(0, aD (.slice (.slice tI)) a0), (1, aD (.slice (.slice tI)) a1), (2, aD (.slice (.slice tI)) a2), (9, aI x182), (10, aI i181), (11, .one (.slc 29)), (23, aI (bShl .i64 (1 : Int) (List.length a0 : Int))), (24, aI i181), (31, aI (List.length (List.replicate (Int.toNat (List.length a0 : Int)) (0 : Int)) : Int)), (32, aI i251), (33, aB (decide (i251 < (List.length (List.replicate (Int.toNat (List.length a0 : Int)) (0 : Int)) : Int))))]) (L' := [(29, .seq tI x252)]) (obs := []) (by kernel_rfl) (by kernel_rfl) (by kernel_rfl) allP0 ?_
            refine seqQ_norm ?_
            refine W_seq (by kernel_rfl) ?_
            refine W_cond (o := .tmp 33) (b := decide (i251 < (List.length (List.replicate (Int.toNat (List.length a0 : Int)) (0 : Int)) : Int))) (by kernel_rfl) (by kernel_rfl) (fun h256 => ?_) (fun h256 => ?_)
            · replace h := stepL_true h256 h
              obtain ⟨v254, _, h255, h, rfl⟩ := h
              refine W_skip [0, 1, 2, 9, 10, 11, 23, 24, 31, 32] [29] (fr' := [(0, aD (.slice (.slice tI)) a0), (1, aD (.slice (.slice tI)) a1), (2, aD (.slice (.slice tI)) a2), (9, aI x182), (10, aI i181), (11, .one (.slc 29)), (23, aI (bShl .i64 (1 : Int) (List.length a0 : Int))), (24, aI i181), (31, aI (List.length (List.replicate (Int.toNat (List.length a0 : Int)) (0 : Int)) : Int)), (32, aI i251)]) (L' := [(29, .seq tI x252)]) (by kernel_rfl) (by kernel_rfl) ?_
              refine seqQ_norm ?_
              refine W_seq (by kernel_rfl) ?_
              refine W_block (id := 3) (by kernel_rfl) ?_
              refine W_seq (by kernel_rfl) ?_
              refine W_run 2 [] [0, 1, 2, 9, 10, 11, 12, 23, 24, 31, 32] [29] (fr' := [(0, aD (.slice (.slice tI)) a0), (1, aD (.slice (.slice tI)) a1), (2, aD (.slice (.slice tI)) a2), (9, aI x182), (10, aI i181), (11, .one (.slc 29)), (12, aI i251), (23, aI (bShl .i64 (1 : Int) (List.length a0 : Int))), (24, aI i181), (31, aI (List.length (List.replicate (Int.toNat (List.length a0 : Int)) (0 : Int)) : Int)), (32, aI i251)]) (L' := [(29, .seq tI x252)]) (obs := []) (by kernel_rfl) (by kernel_rfl) (by kernel_rfl) allP0 ?_
              refine seqQ_norm ?_
              obtain ⟨_, h257, h⟩ := bind_of h
              replace h257 := ck_some h257
              obtain ⟨v258, h259, h⟩ := bind_of h
              refine W_run 8 [] [0, 1, 2, 9, 10, 11, 23, 24, 31, 32] [29] (fr' := [(0, aD (.slice (.slice tI)) a0), (1, aD (.slice (.slice tI)) a1), (2, aD (.slice (.slice tI)) a2), (9, aI x182), (10, aI i181), (11, .one (.slc 29)), (23, aI (bShl .i64 (1 : Int) (List.length a0 : Int))), (24, aI i181), (31, aI (List.length (List.replicate (Int.toNat (List.length a0 : Int)) (0 : Int)) : Int)), (32, aI i251)]) (L' := [(29, .seq tI (List.set x252 (Int.toNat i251) (bAnd .i64 (bShr .i64 i181 i251) (1 : Int))))]) (obs := [(0 ≤ i251), InR i251 (List.length x252), InR i251 (List.length x252)]) (by kernel_rfl) (by kernel_rfl) (by kernel_rfl) (allP2 h257 (allP2 (InR.of h259) (allP1 (InR.of h259)))) ?_
              refine blockQ_norm ?_
              refine seqQ_norm ?_
              obtain rfl := Option.some.inj h
              refine W_run 2 [] [0, 1, 2, 9, 10, 11, 23, 24, 31, 32] [29] (fr' := [(0, aD (.slice (.slice tI)) a0), (1, aD (.slice (.slice tI)) a1), (2, aD (.slice (.slice tI)) a2), (9, aI x182), (10, aI i181), (11, .one (.slc 29)), (23, aI (bShl .i64 (1 : Int) (List.length a0 : Int))), (24, aI i181), (31, aI (List.length (List.replicate (Int.toNat (List.length a0 : Int)) (0 : Int)) : Int)), (32, aI (w64 (i251 + (1 : Int))))]) (L' := [(29, .seq tI (List.set x252 (Int.toNat i251) (bAnd .i64 (bShr .i64 i181 i251) (1 : Int))))]) (obs := []) (by kernel_rfl) (by kernel_rfl) (by kernel_rfl) allP0 ?_
              exact round_next' (by kernel_rfl) (by kernel_rfl)
            · obtain rfl := stepL_false h256 h
              refine W_exit (id := 2) [0, 1, 2, 9, 11, 23, 24] [29] (fr' := [(0, aD (.slice (.slice tI)) a0), (1, aD (.slice (.slice tI)) a1), (2, aD (.slice (.slice tI)) a2), (9, aI x182), (11, .one (.slc 29)), (23, aI (bShl .i64 (1 : Int) (List.length a0 : Int))), (24, aI i181)]) (L' := [(29, .seq tI x252)]) (by kernel_rfl) (by kernel_rfl) ?_
              refine seqQ_exit ?_
              refine round_exit ?_
              exact exQ_mk (by kernel_rfl) (by kernel_rfl)
          · intro e fr L hJ
            obtain ⟨rfl, rfl, rfl⟩ := hJ
            refine LT_keep [0, 1, 2, 9, 11, 23, 24] [29] (fr' := [(0, aD (.slice (.slice tI)) a0), (1, aD (.slice (.slice tI)) a1), (2, aD (.slice (.slice tI)) a2), (9, aI x182), (11, .one (.slc 29)), (23, aI (bShl .i64 (1 : Int) (List.length a0 : Int))), (24, aI i181)]) (L' := [(29, .seq tI v261)]) (by kernel_rfl) ?_
            refine blockQ_hit ?_
            refine seqQ_norm ?_
            refine W_seq (by kernel_rfl) ?_
            refine W_region (by kernel_rfl) ?_
            refine WO_run (j := 4) (k := 4) (orcs := []) (kF := [0, 1, 2, 9, 23, 24, 43, 44, 45, 46]) (kL := [29]) (fr' := [(0, aD (.slice (.slice tI)) a0), (1, aD (.slice (.slice tI)) a1), (2, aD (.slice (.slice tI)) a2), (9, aI x182), (23, aI (bShl .i64 (1 : Int) (List.length a0 : Int))), (24, aI i181), (43, aD (.slice (.slice tI)) a0), (44, aD (.slice (.slice tI)) a1), (45, aD (.slice (.slice tI)) a2), (46, .one (.slc 29))]) (L' := [(29, .seq tI v261)]) (obs := []) rfl (by kernel_rfl) allP0 ?_
            obtain ⟨r266, h267, h⟩ := bind_of h
            refine WO_frz 29 (by kernel_rfl) ?_
            refine WO_call0 (us := [none, none, none, none]) (d := 47) (p := True) (j := 5) rfl ⟨by kernel_rfl, by kernel_rfl, by kernel_rfl⟩ trivial (guess_product_ok h267) (by kernel_rfl) ?_
            refine WO_run (j := 6) (k := 1) (orcs := []) (kF := [0, 1, 2, 9, 23, 24, 48]) (kL := []) (fr' := [(0, aD (.slice (.slice tI)) a0), (1, aD (.slice (.slice tI)) a1), (2, aD (.slice (.slice tI)) a2), (9, aI x182), (23, aI (bShl .i64 (1 : Int) (List.length a0 : Int))), (24, aI i181), (48, aB (!r266))]) (L' := []) (obs := []) rfl (by kernel_rfl) allP0 ?_
            refine WO_fin [0, 1, 2, 9, 23, 24, 48] [] (fr' := [(0, aD (.slice (.slice tI)) a0), (1, aD (.slice (.slice tI)) a1), (2, aD (.slice (.slice tI)) a2), (9, aI x182), (23, aI (bShl .i64 (1 : Int) (List.length a0 : Int))), (24, aI i181), (48, aB (!r266))]) (L' := []) (by kernel_rfl) (by kernel_rfl) ?_
            refine seqQ_norm ?_
            refine W_cond (o := .tmp 48) (b := !r266) (by kernel_rfl) (by kernel_rfl) (fun h268 => ?_) (fun h268 => ?_)
            · replace h := ofT h268 h
              obtain rfl := Option.some.inj h
              refine W_run 3 [] [0, 1, 2, 9, 23, 24] [] (fr' := [(0, aD (.slice (.slice tI)) a0), (1, aD (.slice (.slice tI)) a1), (2, aD (.slice (.slice tI)) a2), (9, aI (w64 (x182 + (1 : Int)))), (23, aI (bShl .i64 (1 : Int) (List.length a0 : Int))), (24, aI i181)]) (L' := []) (obs := []) (by kernel_rfl) (by kernel_rfl) (by kernel_rfl) allP0 ?_
              refine blockQ_norm ?_
              exact exQ_mk (by kernel_rfl) (by kernel_rfl)
            · replace h := ofF h268 h
              obtain rfl := Option.some.inj h
              refine W_skip [0, 1, 2, 9, 23, 24] [] (fr' := [(0, aD (.slice (.slice tI)) a0), (1, aD (.slice (.slice tI)) a1), (2, aD (.slice (.slice tI)) a2), (9, aI x182), (23, aI (bShl .i64 (1 : Int) (List.length a0 : Int))), (24, aI i181)]) (L' := []) (by kernel_rfl) (by kernel_rfl) ?_
              refine blockQ_norm ?_
              exact exQ_mk (by kernel_rfl) (by kernel_rfl)
        · intro e fr L hJ
          obtain ⟨rfl, rfl, rfl⟩ := hJ
          refine LT_keep [0, 1, 2, 9, 23, 24] [] (fr' := [(0, aD (.slice (.slice tI)) a0), (1, aD (.slice (.slice tI)) a1), (2, aD (.slice (.slice tI)) a2), (9, aI v269), (23, aI (bShl .i64 (1 : Int) (List.length a0 : Int))), (24, aI i181)]) (L' := []) (by kernel_rfl) ?_
          refine seqQ_norm ?_
          obtain rfl := Option.some.inj h
          refine W_run 2 [] [0, 1, 2, 9, 23, 24] [] (fr' := [(0, aD (.slice (.slice tI)) a0), (1, aD (.slice (.slice tI)) a1), (2, aD (.slice (.slice tI)) a2), (9, aI v269), (23, aI (bShl .i64 (1 : Int) (List.length a0 : Int))), (24, aI (w64 (i181 + (1 : Int))))]) (L' := []) (obs := []) (by kernel_rfl) (by kernel_rfl) (by kernel_rfl) allP0 ?_
          exact round_next' (by kernel_rfl) (by kernel_rfl)
      · obtain rfl := stepI_false h184 h
        refine W_exit (id := 0) [9] [] (fr' := [(9, aI x182)]) (L' := []) (by kernel_rfl) (by kernel_rfl) ?_
        refine seqQ_exit ?_
        refine round_exit ?_
        exact exQ_mk (by kernel_rfl) (by kernel_rfl)
    · intro e fr L hJ
      obtain ⟨rfl, rfl, rfl⟩ := hJ
      refine LT_keep [9] [] (fr' := [(9, aI v272)]) (L' := []) (by kernel_rfl) ?_
      refine blockQ_hit ?_
      refine seqQ_norm ?_
      refine W_seq (by kernel_rfl) ?_
      refine W_run 3 [] [6, 7] [] (fr' := [(6, aI v272), (7, aI (0 : Int))]) (L' := []) (obs := []) (by kernel_rfl) (by kernel_rfl) (by kernel_rfl) allP0 ?_
      refine seqQ_norm ?_
      obtain rfl := Option.some.inj h
      refine W_ret [6, 7] [] (fr' := [(6, aI v272), (7, aI (0 : Int))]) (L' := []) (by kernel_rfl) (by kernel_rfl) ?_
      exact retQ_mk (by kernel_rfl) (by kernel_rfl) (by kernel_rfl)

def ref_Within (a0 : Int) (a1 : Int) (a2 : Int) : Option Bool :=
some ((decide (a0 ≤ a1)) && (decide (a1 ≤ a2)))
theorem ref_Within_ok {a0 : Int} {a1 : Int} {a2 : Int} {r : Bool} (h : ref_Within a0 a1 a2 = some r) : FnC Try.prog 18 [aI a0, aI a1, aI a2] [] (aB r) [] := by
  refine fnC_of_W (B := bodyOf Try.f18) (n := 15) Try.func18 (by kernel_rfl) (by kernel_rfl) (by kernel_rfl) (by kernel_rfl) (by kernel_rfl) ?_
  intro K
  refine W_seq (by kernel_rfl) ?_
  refine W_run 1 [] [0, 1, 2] [] (fr' := [(0, aI a0), (1, aI a1), (2, aI a2)]) (L' := []) (obs := []) (by kernel_rfl) (by kernel_rfl) (by kernel_rfl) allP0 ?_
  refine seqQ_norm ?_
  refine W_seq (by kernel_rfl) ?_
  refine W_run 9 [] [6] [] (fr' := [(6, aB ((decide (a0 ≤ a1)) && (decide (a1 ≤ a2))))]) (L' := []) (obs := []) (by kernel_rfl) (by kernel_rfl) (by kernel_rfl) allP0 ?_
  refine seqQ_norm ?_
  obtain rfl := Option.some.inj h
  refine W_ret [6] [] (fr' := [(6, aB ((decide (a0 ≤ a1)) && (decide (a1 ≤ a2))))]) (L' := []) (by kernel_rfl) (by kernel_rfl) ?_
  exact retQ_mk (by kernel_rfl) (by kernel_rfl) (by kernel_rfl)

def ref_Inside_b1 (a0 : Int) (i11 : Int) (v14 : Int) (x12 : Unit) : Option (Flow Unit (Esc Bool Unit)) :=
bif (decide (v14 < (0 : Int))) || (decide (v14 ≥ a0)) then
(some (.done (.ret false)))
else
(some (.next ()))
@[reducible] def ref_Inside_s2 (a0 : Int) (a1 : (List Int)) (v : Int × Unit) : Fr × LL := ([(0, aI a0), (7, aD (.slice tI) a1), (8, aI (List.length a1 : Int)), (9, aI v.1)], [])
@[reducible] def ref_Inside_s3 (v : Bool) : Fr × LL := ([(4, aB v)], [])
@[reducible] def ref_Inside_s4 (v : Unit) : Fr × LL := ([], [])
def ref_Inside (a0 : Int) (a1 : (List Int)) : Option Bool :=
(forL (ref_Inside_b1 a0) (fun x12 => (.brk ())) a1 0 ()).bind fun v19 =>
match v19 with
| .ret v24 =>
(some v24)
| .brk v25 =>
(some true)
theorem ref_Inside_ok {a0 : Int} {a1 : (List Int)} {r : Bool} (h : ref_Inside a0 a1 = some r) : FnC Try.prog 11 [aI a0, aD (.slice tI) a1] [] (aB r) [] := by
  refine fnC_of_W (B := bodyOf Try.f11) (n := 21) Try.func11 (by kernel_rfl) (by kernel_rfl) (by kernel_rfl) (by kernel_rfl) (by kernel_rfl) ?_
  intro K
  refine W_seq (by kernel_rfl) ?_
  refine W_run 1 [] [0, 1] [] (fr' := [(0, aI a0), (1, aD (.slice tI) a1)]) (L' := []) (obs := []) (by kernel_rfl) (by kernel_rfl) (by kernel_rfl) allP0 ?_
  refine seqQ_norm ?_
  refine W_seq (by kernel_rfl) ?_
  refine W_seq (by kernel_rfl) ?_
  refine W_run 3 [] [0, 7, 8, 9] [] (fr' := [(0, aI a0), (7, aD (.slice tI) a1), (8, aI (List.length a1 : Int)), (9, aI (0 : Int))]) (L' := []) (obs := []) (by kernel_rfl) (by kernel_rfl) (by kernel_rfl) allP0 ?_
  refine seqQ_norm ?_
  refine W_block (id := 0) (by kernel_rfl) ?_
  obtain ⟨v19, h20, h⟩ := bind_of h
  refine W_len (t := 7) (u := tI) (xs := a1) (by kernel_rfl) (fun h23 => ?_)
  obtain ⟨h21, h22⟩ := forL_iter h23 h20
  refine W_weaken [0, 7, 8, 9] [] (fr' := ((ref_Inside_s2 a0 a1) ((0 : Int), ())).1) (L' := ((ref_Inside_s2 a0 a1) ((0 : Int), ())).2) (by kernel_rfl) ?_
  refine W_cutK (W_loop (S := (ref_Inside_s2 a0 a1)) (J := (escQ (exQ .ret ref_Inside_s3) (exQ (.exit 0) ref_Inside_s4))) (by kernel_rfl) ?_ h21 _ v19 h22) ?_
  · rintro ⟨i11, x12⟩ s h
    refine W_seq (by kernel_rfl) ?_
    refine W_run 1 [] [0, 7, 8, 9, 10] [] (fr' := [(0, aI a0), (7, aD (.slice tI) a1), (8, aI (List.length a1 : Int)), (9, aI i11), (10, aB (decide (i11 < (List.length a1 : Int))))]) (L' := []) (obs := []) (by kernel_rfl) (by kernel_rfl) (by kernel_rfl) allP0 ?_
    refine seqQ_norm ?_
    refine W_seq (by kernel_rfl) ?_
    refine W_cond (o := .tmp 10) (b := decide (i11 < (List.length a1 : Int))) (by kernel_rfl) (by kernel_rfl) (fun h16 => ?_) (fun h16 => ?_)
    · replace h := stepL_true h16 h
      obtain ⟨v14, _, h15, h, rfl⟩ := h
      refine W_skip [0, 7, 8, 9] [] (fr' := [(0, aI a0), (7, aD (.slice tI) a1), (8, aI (List.length a1 : Int)), (9, aI i11)]) (L' := []) (by kernel_rfl) (by kernel_rfl) ?_
      refine seqQ_norm ?_
      refine W_seq (by kernel_rfl) ?_
      refine W_block (id := 1) (by kernel_rfl) ?_
      refine W_seq (by kernel_rfl) ?_
      refine W_run 3 [(1, .val (.dat tI v14))] [0, 6, 7, 8, 9] [] (fr' := [(0, aI a0), (6, aI v14), (7, aD (.slice tI) a1), (8, aI (List.length a1 : Int)), (9, aI i11)]) (L' := []) (obs := [Idx a1 i11 v14]) (by kernel_rfl) (by kernel_rfl) (by kernel_rfl) (allP1 (Idx.of h15)) ?_
      refine seqQ_norm ?_
      refine W_seq (by kernel_rfl) ?_
      refine W_run 7 [] [0, 7, 8, 9, 19] [] (fr' := [(0, aI a0), (7, aD (.slice tI) a1), (8, aI (List.length a1 : Int)), (9, aI i11), (19, aB ((decide (v14 < (0 : Int))) || (decide (v14 ≥ a0))))]) (L' := []) (obs := []) (by kernel_rfl) (by kernel_rfl) (by kernel_rfl) allP0 ?_
      refine seqQ_norm ?_
      refine W_cond (o := .tmp 19) (b := (decide (v14 < (0 : Int))) || (decide (v14 ≥ a0))) (by kernel_rfl) (by kernel_rfl) (fun h17 => ?_) (fun h17 => ?_)
      · replace h := ofT h17 h
        refine W_seq (by kernel_rfl) ?_
        refine W_run 1 [] [4] [] (fr' := [(4, aB false)]) (L' := []) (obs := []) (by kernel_rfl) (by kernel_rfl) (by kernel_rfl) allP0 ?_
        refine seqQ_norm ?_
        obtain rfl := Option.some.inj h
        refine W_ret [4] [] (fr' := [(4, aB false)]) (L' := []) (by kernel_rfl) (by kernel_rfl) ?_
        refine blockQ_ret ?_
        refine seqQ_ret ?_
        refine round_ret ?_
        refine escQ_ret ?_
        exact exQ_mk (by kernel_rfl) (by kernel_rfl)
      · replace h := ofF h17 h
        refine W_skip [0, 7, 8, 9] [] (fr' := [(0, aI a0), (7, aD (.slice tI) a1), (8, aI (List.length a1 : Int)), (9, aI i11)]) (L' := []) (by kernel_rfl) (by kernel_rfl) ?_
        refine blockQ_norm ?_
        refine seqQ_norm ?_
        obtain rfl := Option.some.inj h
        refine W_run 2 [] [0, 7, 8, 9] [] (fr' := [(0, aI a0), (7, aD (.slice tI) a1), (8, aI (List.length a1 : Int)), (9, aI (w64 (i11 + (1 : Int))))]) (L' := []) (obs := []) (by kernel_rfl) (by kernel_rfl) (by kernel_rfl) allP0 ?_
        exact round_next' (by kernel_rfl) (by kernel_rfl)
    · obtain rfl := stepL_false h16 h
      refine W_exit (id := 0) [] [] (fr' := []) (L' := []) (by kernel_rfl) (by kernel_rfl) ?_
      refine seqQ_exit ?_
      refine round_exit ?_
      refine escQ_brk ?_
      exact exQ_mk (by kernel_rfl) (by kernel_rfl)
  · intro e fr L hJ
    rcases v19 with v24 | v25
    · obtain ⟨rfl, rfl, rfl⟩ := hJ
      obtain rfl := Option.some.inj h
      refine LT_keep [4] [] (fr' := [(4, aB v24)]) (L' := []) (by kernel_rfl) ?_
      refine blockQ_ret ?_
      refine seqQ_ret ?_
      exact retQ_mk (by kernel_rfl) (by kernel_rfl) (by kernel_rfl)
    · obtain ⟨rfl, rfl, rfl⟩ := hJ
      refine LT_keep [] [] (fr' := []) (L' := []) (by kernel_rfl) ?_
      refine blockQ_hit ?_
      refine seqQ_norm ?_
      refine W_seq (by kernel_rfl) ?_
      refine W_run 1 [] [4] [] (fr' := [(4, aB true)]) (L' := []) (obs := []) (by kernel_rfl) (by kernel_rfl) (by kernel_rfl) allP0 ?_
      refine seqQ_norm ?_
      obtain rfl := Option.some.inj h
      refine W_ret [4] [] (fr' := [(4, aB true)]) (L' := []) (by kernel_rfl) (by kernel_rfl) ?_
      exact retQ_mk (by kernel_rfl) (by kernel_rfl) (by kernel_rfl)

def ref_SquaresCheck_b8 (a0 : (List (List Int))) (i79 : Int) (v82 : (List Int)) (x80 : Unit) : Option (Flow Unit (Esc Int Unit)) :=
bif (List.length v82 : Int) != (List.length a0 : Int) then
(some (.done (.ret (3 : Int))))
else
(some (.next ()))
@[reducible] def ref_SquaresCheck_s9 (a0 : (List (List Int))) (a1 : (List (List Int))) (a2 : (List (List Int))) (i62 : Int) (v66 : (List (List Int))) (v : Int × Unit) : Fr × LL := ([(0, aD (.slice (.slice tI)) a0), (1, aD (.slice (.slice tI)) a1), (2, aD (.slice (.slice tI)) a2), (7, aI (List.length a0 : Int)), (24, .one (.slc 24)), (25, aI (3 : Int)), (26, aI i62), (34, aD (.slice (.slice tI)) v66), (35, aI (List.length v66 : Int)), (36, aI v.1)], [(24, .seq (.slice (.slice tI)) [a0, a1, a2])])
@[reducible] def ref_SquaresCheck_s10 (v : Int) : Fr × LL := ([(6, aI v)], [])
@[reducible] def ref_SquaresCheck_s11 (a0 : (List (List Int))) (a1 : (List (List Int))) (a2 : (List (List Int))) (i62 : Int) (v : Unit) : Fr × LL := ([(0, aD (.slice (.slice tI)) a0), (1, aD (.slice (.slice tI)) a1), (2, aD (.slice (.slice tI)) a2), (7, aI (List.length a0 : Int)), (24, .one (.slc 24)), (25, aI (3 : Int)), (26, aI i62)], [(24, .seq (.slice (.slice tI)) [a0, a1, a2])])
def ref_SquaresCheck_b12 (a0 : (List (List Int))) (a1 : (List (List Int))) (a2 : (List (List Int))) (i62 : Int) (x63 : Unit) : Option (Flow Unit (Esc Int Unit)) :=
(idx [a0, a1, a2] i62).bind fun v66 =>
bif (List.length v66 : Int) != (List.length a0 : Int) then
(some (.done (.ret (3 : Int))))
else
((forL (ref_SquaresCheck_b8 a0) (fun x80 => (.brk ())) v66 0 ()).bind fun v87 =>
match v87 with
| .ret v92 =>
(some (.done (.ret v92)))
| .brk v93 =>
(some (.next ())))
@[reducible] def ref_SquaresCheck_s13 (a0 : (List (List Int))) (a1 : (List (List Int))) (a2 : (List (List Int))) (v : Int × Unit) : Fr × LL := ([(0, aD (.slice (.slice tI)) a0), (1, aD (.slice (.slice tI)) a1), (2, aD (.slice (.slice tI)) a2), (7, aI (List.length a0 : Int)), (24, .one (.slc 24)), (25, aI (3 : Int)), (26, aI v.1)], [(24, .seq (.slice (.slice tI)) [a0, a1, a2])])
@[reducible] def ref_SquaresCheck_s14 (v : Int) : Fr × LL := ([(6, aI v)], [])
@[reducible] def ref_SquaresCheck_s15 (a0 : (List (List Int))) (a1 : (List (List Int))) (a2 : (List (List Int))) (v : Unit) : Fr × LL := ([(0, aD (.slice (.slice tI)) a0), (1, aD (.slice (.slice tI)) a1), (2, aD (.slice (.slice tI)) a2)], [])
def ref_SquaresCheck_b22 (i189 : Int) (v192 : (List Int)) (x190 : Unit) : Option (Flow Unit (Esc Int Unit)) :=
(ref_Inside (7 : Int) v192).bind fun r195 =>
bif !r195 then
(some (.done (.ret (4 : Int))))
else
(some (.next ()))
@[reducible] def ref_SquaresCheck_s23 (a0 : (List (List Int))) (a1 : (List (List Int))) (a2 : (List (List Int))) (i169 : Int) (v173 : (List (List Int))) (v : Int × Unit) : Fr × LL := ([(49, .one (.slc 49)), (50, aI (3 : Int)), (51, aI i169), (55, aD (.slice (.slice tI)) v173), (56, aI (List.length v173 : Int)), (57, aI v.1)], [(49, .seq (.slice (.slice tI)) [a0, a1, a2])])
@[reducible] def ref_SquaresCheck_s24 (v : Int) : Fr × LL := ([(6, aI v)], [])
@[reducible] def ref_SquaresCheck_s25 (a0 : (List (List Int))) (a1 : (List (List Int))) (a2 : (List (List Int))) (i169 : Int) (v : Unit) : Fr × LL := ([(49, .one (.slc 49)), (50, aI (3 : Int)), (51, aI i169)], [(49, .seq (.slice (.slice tI)) [a0, a1, a2])])
def ref_SquaresCheck_b26 (a0 : (List (List Int))) (a1 : (List (List Int))) (a2 : (List (List Int))) (i169 : Int) (x170 : Unit) : Option (Flow Unit (Esc Int Unit)) :=
(idx [a0, a1, a2] i169).bind fun v173 =>
(forL ref_SquaresCheck_b22 (fun x190 => (.brk ())) v173 0 ()).bind fun v199 =>
match v199 with
| .ret v204 =>
(some (.done (.ret v204)))
| .brk v205 =>
(some (.next ()))
@[reducible] def ref_SquaresCheck_s27 (a0 : (List (List Int))) (a1 : (List (List Int))) (a2 : (List (List Int))) (v : Int × Unit) : Fr × LL := ([(49, .one (.slc 49)), (50, aI (3 : Int)), (51, aI v.1)], [(49, .seq (.slice (.slice tI)) [a0, a1, a2])])
@[reducible] def ref_SquaresCheck_s28 (v : Int) : Fr × LL := ([(6, aI v)], [])
@[reducible] def ref_SquaresCheck_s29 (v : Unit) : Fr × LL := ([], [])
def ref_SquaresCheck (a0 : (List (List Int))) (a1 : (List (List Int))) (a2 : (List (List Int))) : Option Int :=
(ref_Within (1 : Int) (List.length a0 : Int) (4 : Int)).bind fun r1 =>
bif !r1 then
(some (1 : Int))
else
((forI (0 : Int) (3 : Int) (ref_SquaresCheck_b12 a0 a1 a2) (fun x63 => (.brk ())) ()).bind fun v95 =>
match v95 with
| .ret v99 =>
(some v99)
| .brk v100 =>
((forI (0 : Int) (3 : Int) (ref_SquaresCheck_b26 a0 a1 a2) (fun x170 => (.brk ())) ()).bind fun v207 =>
match v207 with
| .ret v211 =>
(some v211)
| .brk v212 =>
(some (0 : Int))))
theorem ref_SquaresCheck_ok {a0 : (List (List Int))} {a1 : (List (List Int))} {a2 : (List (List Int))} {r : Int} (h : ref_SquaresCheck a0 a1 a2 = some r) : FnC Try.prog 26 [aD (.slice (.slice tI)) a0, aD (.slice (.slice tI)) a1, aD (.slice (.slice tI)) a2] [] (aI r) [] := by
  refine fnC_of_W (B := bodyOf Try.f26) (n := 66) Try.func26 (by kernel_rfl) (by kernel_rfl) (by kernel_rfl) (by kernel_rfl) (by kernel_rfl) ?_
  intro K
  refine W_seq (by kernel_rfl) ?_
  refine W_run 1 [] [0, 1, 2] [] (fr' := [(0, aD (.slice (.slice tI)) a0), (1, aD (.slice (.slice tI)) a1), (2, aD (.slice (.slice tI)) a2)]) (L' := []) (obs := []) (by kernel_rfl) (by kernel_rfl) (by kernel_rfl) allP0 ?_
  refine seqQ_norm ?_
  refine W_seq (by kernel_rfl) ?_
  refine W_run 3 [] [0, 1, 2, 7] [] (fr' := [(0, aD (.slice (.slice tI)) a0), (1, aD (.slice (.slice tI)) a1), (2, aD (.slice (.slice tI)) a2), (7, aI (List.length a0 : Int))]) (L' := []) (obs := []) (by kernel_rfl) (by kernel_rfl) (by kernel_rfl) allP0 ?_
  refine seqQ_norm ?_
  refine W_seq (by kernel_rfl) ?_
  refine W_seq (by kernel_rfl) ?_
  refine W_region (by kernel_rfl) ?_
  refine WO_run (j := 1) (k := 1) (orcs := []) (kF := [0, 1, 2, 7, 18]) (kL := []) (fr' := [(0, aD (.slice (.slice tI)) a0), (1, aD (.slice (.slice tI)) a1), (2, aD (.slice (.slice tI)) a2), (7, aI (List.length a0 : Int)), (18, aI (List.length a0 : Int))]) (L' := []) (obs := []) rfl (by kernel_rfl) allP0 ?_
  obtain ⟨r1, h2, h⟩ := bind_of h
  refine WO_call0 (us := [none, none, none]) (d := 19) (p := True) (j := 2) rfl ⟨by kernel_rfl, by kernel_rfl, by kernel_rfl⟩ trivial (ref_Within_ok h2) (by kernel_rfl) ?_
  refine WO_run (j := 3) (k := 1) (orcs := []) (kF := [0, 1, 2, 7, 20]) (kL := []) (fr' := [(0, aD (.slice (.slice tI)) a0), (1, aD (.slice (.slice tI)) a1), (2, aD (.slice (.slice tI)) a2), (7, aI (List.length a0 : Int)), (20, aB (!r1))]) (L' := []) (obs := []) rfl (by kernel_rfl) allP0 ?_
  refine WO_fin [0, 1, 2, 7, 20] [] (fr' := [(0, aD (.slice (.slice tI)) a0), (1, aD (.slice (.slice tI)) a1), (2, aD (.slice (.slice tI)) a2), (7, aI (List.length a0 : Int)), (20, aB (!r1))]) (L' := []) (by kernel_rfl) (by kernel_rfl) ?_
  refine seqQ_norm ?_
  refine W_cond (o := .tmp 20) (b := !r1) (by kernel_rfl) (by kernel_rfl) (fun h3 => ?_) (fun h3 => ?_)
  · replace h := ofT h3 h
    refine W_seq (by kernel_rfl) ?_
    refine W_run 1 [] [6] [] (fr' := [(6, aI (1 : Int))]) (L' := []) (obs := []) (by kernel_rfl) (by kernel_rfl) (by kernel_rfl) allP0 ?_
    refine seqQ_norm ?_
    obtain rfl := Option.some.inj h
    refine W_ret [6] [] (fr' := [(6, aI (1 : Int))]) (L' := []) (by kernel_rfl) (by kernel_rfl) ?_
    refine seqQ_ret ?_
    exact retQ_mk (by kernel_rfl) (by kernel_rfl) (by kernel_rfl)
  · replace h := ofF h3 h
    refine W_skip [0, 1, 2, 7] [] (fr' := [(0, aD (.slice (.slice tI)) a0), (1, aD (.slice (.slice tI)) a1), (2, aD (.slice (.slice tI)) a2), (7, aI (List.length a0 : Int))]) (L' := []) (by kernel_rfl) (by kernel_rfl) ?_
    refine seqQ_norm ?_
    refine W_seq (by kernel_rfl) ?_
    refine W_seq (by kernel_rfl) ?_
    refine W_run 6 [] [0, 1, 2, 7, 24, 25, 26] [24] (fr' := [(0, aD (.slice (.slice tI)) a0), (1, aD (.slice (.slice tI)) a1), (2, aD (.slice (.slice tI)) a2), (7, aI (List.length a0 : Int)), (24, .one (.slc 24)), (25, aI (3 : Int)), (26, aI (0 : Int))]) (L' := [(24, .seq (.slice (.slice tI)) [a0, a1, a2])]) (obs := []) (by kernel_rfl) (by kernel_rfl) (by kernel_rfl) allP0 ?_
    refine seqQ_norm ?_
    refine W_block (id := 0) (by kernel_rfl) ?_
    obtain ⟨v95, h96, h⟩ := bind_of h
    obtain ⟨h97, h98⟩ := forI_iter h96
    refine W_weaken [0, 1, 2, 7, 24, 25, 26] [24] (fr' := ((ref_SquaresCheck_s13 a0 a1 a2) ((0 : Int), ())).1) (L' := ((ref_SquaresCheck_s13 a0 a1 a2) ((0 : Int), ())).2) (by kernel_rfl) ?_
    refine W_cutK (W_loop (S := (ref_SquaresCheck_s13 a0 a1 a2)) (J := (escQ (exQ .ret ref_SquaresCheck_s14) (exQ (.exit 0) (ref_SquaresCheck_s15 a0 a1 a2)))) (by kernel_rfl) ?_ h97 _ v95 h98) ?_
    · rintro ⟨i62, x63⟩ s h
      refine W_seq (by kernel_rfl) ?_
      refine W_run 1 [] [0, 1, 2, 7, 24, 25, 26, 27] [24] (fr' := [(0, aD (.slice (.slice tI)) a0), (1, aD (.slice (.slice tI)) a1), (2, aD (.slice (.slice tI)) a2), (7, aI (List.length a0 : Int)), (24, .one (.slc 24)), (25, aI (3 : Int)), (26, aI i62), (27, aB (decide (i62 < (3 : Int))))]) (L' := [(24, .seq (.slice (.slice tI)) [a0, a1, a2])]) (obs := []) (by kernel_rfl) (by kernel_rfl) (by kernel_rfl) allP0 ?_
      refine seqQ_norm ?_
      refine W_seq (by kernel_rfl) ?_
      refine W_cond (o := .tmp 27) (b := decide (i62 < (3 : Int))) (by kernel_rfl) (by kernel_rfl) (fun h65 => ?_) (fun h65 => ?_)
      · replace h := stepI_true h65 h
        obtain ⟨_, h, rfl⟩ := h
        refine W_skip [0, 1, 2, 7, 24, 25, 26] [24] (fr' := [(0, aD (.slice (.slice tI)) a0), (1, aD (.slice (.slice tI)) a1), (2, aD (.slice (.slice tI)) a2), (7, aI (List.length a0 : Int)), (24, .one (.slc 24)), (25, aI (3 : Int)), (26, aI i62)]) (L' := [(24, .seq (.slice (.slice tI)) [a0, a1, a2])]) (by kernel_rfl) (by kernel_rfl) ?_
        refine seqQ_norm ?_
        refine W_seq (by kernel_rfl) ?_
        refine W_block (id := 1) (by kernel_rfl) ?_
        refine W_seq (by kernel_rfl) ?_
        obtain ⟨v66, h67, h⟩ := bind_of h
        refine W_run 3 [(3, .val (.dat (.slice (.slice tI)) v66))] [0, 1, 2, 7, 9, 24, 25, 26] [24] (fr' := [(0, aD (.slice (.slice tI)) a0), (1, aD (.slice (.slice tI)) a1), (2, aD (.slice (.slice tI)) a2), (7, aI (List.length a0 : Int)), (9, aD (.slice (.slice tI)) v66), (24, .one (.slc 24)), (25, aI (3 : Int)), (26, aI i62)]) (L' := [(24, .seq (.slice (.slice tI)) [a0, a1, a2])]) (obs := [InR i62 (List.length [a0, a1, a2]), Idx [a0, a1, a2] i62 v66]) (by kernel_rfl) (by kernel_rfl) (by kernel_rfl) (allP2 (InR.of h67) (allP1 (Idx.of h67))) ?_
        refine seqQ_norm ?_
        refine W_seq (by kernel_rfl) ?_
        refine W_seq (by kernel_rfl) ?_
        refine W_run 4 [] [0, 1, 2, 7, 9, 24, 25, 26, 33] [24] (fr' := [(0, aD (.slice (.slice tI)) a0), (1, aD (.slice (.slice tI)) a1), (2, aD (.slice (.slice tI)) a2), (7, aI (List.length a0 : Int)), (9, aD (.slice (.slice tI)) v66), (24, .one (.slc 24)), (25, aI (3 : Int)), (26, aI i62), (33, aB ((List.length v66 : Int) != (List.length a0 : Int)))]) (L' := [(24, .seq (.slice (.slice tI)) [a0, a1, a2])]) (obs := []) (by kernel_rfl) (by kernel_rfl) (by kernel_rfl) allP0 ?_
        refine seqQ_norm ?_
        refine W_cond (o := .tmp 33) (b := (List.length v66 : Int) != (List.length a0 : Int)) (by kernel_rfl) (by kernel_rfl) (fun h68 => ?_) (fun h68 => ?_)
        · replace h := ofT h68 h
          refine W_seq (by kernel_rfl) ?_
          refine W_run 1 [] [6] [] (fr' := [(6, aI (3 : Int))]) (L' := []) (obs := []) (by kernel_rfl) (by kernel_rfl) (by kernel_rfl) allP0 ?_
          refine seqQ_norm ?_
          obtain rfl := Option.some.inj h
          refine W_ret [6] [] (fr' := [(6, aI (3 : Int))]) (L' := []) (by kernel_rfl) (by kernel_rfl) ?_
          refine seqQ_ret ?_
          refine blockQ_ret ?_
          refine seqQ_ret ?_
          refine round_ret ?_
          refine escQ_ret ?_
          exact exQ_mk (by kernel_rfl) (by kernel_rfl)
        · replace h := ofF h68 h
          refine W_skip [0, 1, 2, 7, 9, 24, 25, 26] [24] (fr' := [(0, aD (.slice (.slice tI)) a0), (1, aD (.slice (.slice tI)) a1), (2, aD (.slice (.slice tI)) a2), (7, aI (List.length a0 : Int)), (9, aD (.slice (.slice tI)) v66), (24, .one (.slc 24)), (25, aI (3 : Int)), (26, aI i62)]) (L' := [(24, .seq (.slice (.slice tI)) [a0, a1, a2])]) (by kernel_rfl) (by kernel_rfl) ?_
          refine seqQ_norm ?_
          refine W_seq (by kernel_rfl) ?_
          refine W_run 3 [] [0, 1, 2, 7, 24, 25, 26, 34, 35, 36] [24] (fr' := [(0, aD (.slice (.slice tI)) a0), (1, aD (.slice (.slice tI)) a1), (2, aD (.slice (.slice tI)) a2), (7, aI (List.length a0 : Int)), (24, .one (.slc 24)), (25, aI (3 : Int)), (26, aI i62), (34, aD (.slice (.slice tI)) v66), (35, aI (List.length v66 : Int)), (36, aI (0 : Int))]) (L' := [(24, .seq (.slice (.slice tI)) [a0, a1, a2])]) (obs := []) (by kernel_rfl) (by kernel_rfl) (by kernel_rfl) allP0 ?_
          refine seqQ_norm ?_
          refine W_block (id := 2) (by kernel_rfl) ?_
          obtain ⟨v87, h88, h⟩ := bind_of h
          refine W_len (t := 34) (u := (.slice tI)) (xs := v66) (by kernel_rfl) (fun h91 => ?_)
          obtain ⟨h89, h90⟩ := forL_iter h91 h88
          refine W_weaken [0, 1, 2, 7, 24, 25, 26, 34, 35, 36] [24] (fr' := ((ref_SquaresCheck_s9 a0 a1 a2 i62 v66) ((0 : Int), ())).1) (L' := ((ref_SquaresCheck_s9 a0 a1 a2 i62 v66) ((0 : Int), ())).2) (by kernel_rfl) ?_
          refine W_cutK (W_loop (S := (ref_SquaresCheck_s9 a0 a1 a2 i62 v66)) (J := (escQ (exQ .ret ref_SquaresCheck_s10) (exQ (.exit 2) (ref_SquaresCheck_s11 a0 a1 a2 i62)))) (by kernel_rfl) ?_ h89 _ v87 h90) ?_
          · rintro ⟨i79, x80⟩ s h
            refine W_seq (by kernel_rfl) ?_
            refine W_run 1 [] [0, 1, 2, 7, 24, 25, 26, 34, 35, 36, 37] [24] (fr' := [(0, aD (.slice (.slice tI)) a0), (1, aD (.slice (.slice tI)) a1), (2, aD (.slice (.slice tI)) a2), (7, aI (List.length a0 : Int)), (24, .one (.slc 24)), (25, aI (3 : Int)), (26, aI i62), (34, aD (.slice (.slice tI)) v66), (35, aI (List.length v66 : Int)), (36, aI i79), (37, aB (decide (i79 < (List.length v66 : Int))))]) (L' := [(24, .seq (.slice (.slice tI)) [a0, a1, a2])]) (obs := []) (by kernel_rfl) (by kernel_rfl) (by kernel_rfl) allP0 ?_
            refine seqQ_norm ?_
            refine W_seq (by kernel_rfl) ?_
            refine W_cond (o := .tmp 37) (b := decide (i79 < (List.length v66 : Int))) (by kernel_rfl) (by kernel_rfl) (fun h84 => ?_) (fun h84 => ?_)
            · replace h := stepL_true h84 h
              obtain ⟨v82, _, h83, h, rfl⟩ := h
              refine W_skip [0, 1, 2, 7, 24, 25, 26, 34, 35, 36] [24] (fr' := [(0, aD (.slice (.slice tI)) a0), (1, aD (.slice (.slice tI)) a1), (2, aD (.slice (.slice tI)) a2), (7, aI (List.length a0 : Int)), (24, .one (.slc 24)), (25, aI (3 : Int)), (26, aI i62), (34, aD (.slice (.slice tI)) v66), (35, aI (List.length v66 : Int)), (36, aI i79)]) (L' := [(24, .seq (.slice (.slice tI)) [a0, a1, a2])]) (by kernel_rfl) (by kernel_rfl) ?_
              refine seqQ_norm ?_
              refine W_seq (by kernel_rfl) ?_
              refine W_block (id := 3) (by kernel_rfl) ?_
              refine W_seq (by kernel_rfl) ?_
              refine W_run 3 [(1, .val (.dat (.slice tI) v82))] [0, 1, 2, 7, 11, 24, 25, 26, 34, 35, 36] [24] (fr' := [(0, aD (.slice (.slice tI)) a0), (1, aD (.slice (.slice tI)) a1), (2, aD (.slice (.slice tI)) a2), (7, aI (List.length a0 : Int)), (11, aD (.slice tI) v82), (24, .one (.slc 24)), (25, aI (3 : Int)), (26, aI i62), (34, aD (.slice (.slice tI)) v66), (35, aI (List.length v66 : Int)), (36, aI i79)]) (L' := [(24, .seq (.slice (.slice tI)) [a0, a1, a2])]) (obs := [Idx v66 i79 v82]) (by kernel_rfl) (by kernel_rfl) (by kernel_rfl) (allP1 (Idx.of h83)) ?_
              refine seqQ_norm ?_
              refine W_seq (by kernel_rfl) ?_
              refine W_run 4 [] [0, 1, 2, 7, 24, 25, 26, 34, 35, 36, 43] [24] (fr' := [(0, aD (.slice (.slice tI)) a0), (1, aD (.slice (.slice tI)) a1), (2, aD (.slice (.slice tI)) a2), (7, aI (List.length a0 : Int)), (24, .one (.slc 24)), (25, aI (3 : Int)), (26, aI i62), (34, aD (.slice (.slice tI)) v66), (35, aI (List.length v66 : Int)), (36, aI i79), (43, aB ((List.length v82 : Int) != (List.length a0 : Int)))]) (L' := [(24, .seq (.slice (.slice tI)) [a0, a1, a2])]) (obs := []) (by kernel_rfl) (by kernel_rfl) (by kernel_rfl) allP0 ?_
              refine seqQ_norm ?_
              refine W_cond (o := .tmp 43) (b := (List.length v82 : Int) != (List.length a0 : Int)) (by kernel_rfl) (by kernel_rfl) (fun h85 => ?_) (fun h85 => ?_)
              · replace h := ofT h85 h
                refine W_seq (by kernel_rfl) ?_
                refine W_run 1 [] [6] [] (fr' := [(6, aI (3 : Int))]) (L' := []) (obs := []) (by kernel_rfl) (by kernel_rfl) (by kernel_rfl) allP0 ?_
                refine seqQ_norm ?_
                obtain rfl := Option.some.inj h
                refine W_ret [6] [] (fr' := [(6, aI (3 : Int))]) (L' := []) (by kernel_rfl) (by kernel_rfl) ?_
                refine blockQ_ret ?_
                refine seqQ_ret ?_
                refine round_ret ?_
                refine escQ_ret ?_
                exact exQ_mk (by kernel_rfl) (by kernel_rfl)
              · replace h := ofF h85 h
                refine W_skip [0, 1, 2, 7, 24, 25, 26, 34, 35, 36] [24] (fr' := [(0, aD (.slice (.slice tI)) a0), (1, aD (.slice (.slice tI)) a1), (2, aD (.slice (.slice tI)) a2), (7, aI (List.length a0 : Int)), (24, .one (.slc 24)), (25, aI (3 : Int)), (26, aI i62), (34, aD (.slice (.slice tI)) v66), (35, aI (List.length v66 : Int)), (36, aI i79)]) (L' := [(24, .seq (.slice (.slice tI)) [a0, a1, a2])]) (by kernel_rfl) (by kernel_rfl) ?_
                refine blockQ_norm ?_
                refine seqQ_norm ?_
                obtain rfl := Option.some.inj h
                refine W_run 2 [] [0, 1, 2, 7, 24, 25, 26, 34, 35, 36] [24] (fr' := [(0, aD (.slice (.slice tI)) a0), (1, aD (.slice (.slice tI)) a1), (2, aD (.slice (.slice tI)) a2), (7, aI (List.length a0 : Int)), (24, .one (.slc 24)), (25, aI (3 : Int)), (26, aI i62), (34, aD (.slice (.slice tI)) v66), (35, aI (List.length v66 : Int)), (36, aI (w64 (i79 + (1 : Int))))]) (L' := [(24, .seq (.slice (.slice tI)) [a0, a1, a2])]) (obs := []) (by kernel_rfl) (by kernel_rfl) (by kernel_rfl) allP0 ?_
                exact round_next' (by kernel_rfl) (by kernel_rfl)
            · obtain rfl := stepL_false h84 h
              refine W_exit (id := 2) [0, 1, 2, 7, 24, 25, 26] [24] (fr' := [(0, aD (.slice (.slice tI)) a0), (1, aD (.slice (.slice tI)) a1), (2, aD (.slice (.slice tI)) a2), (7, aI (List.length a0 : Int)), (24, .one (.slc 24)), (25, aI (3 : Int)), (26, aI i62)]) (L' := [(24, .seq (.slice (.slice tI)) [a0, a1, a2])]) (by kernel_rfl) (by kernel_rfl) ?_
              refine seqQ_exit ?_
              refine round_exit ?_
              refine escQ_brk ?_
              exact exQ_mk (by kernel_rfl) (by kernel_rfl)
          · intro e fr L hJ
            rcases v87 with v92 | v93
            · obtain ⟨rfl, rfl, rfl⟩ := hJ
              obtain rfl := Option.some.inj h
              refine LT_keep [6] [] (fr' := [(6, aI v92)]) (L' := []) (by kernel_rfl) ?_
              refine blockQ_ret ?_
              refine blockQ_ret ?_
              refine seqQ_ret ?_
              refine round_ret ?_
              refine escQ_ret ?_
              exact exQ_mk (by kernel_rfl) (by kernel_rfl)
            · obtain ⟨rfl, rfl, rfl⟩ := hJ
              refine LT_keep [0, 1, 2, 7, 24, 25, 26] [24] (fr' := [(0, aD (.slice (.slice tI)) a0), (1, aD (.slice (.slice tI)) a1), (2, aD (.slice (.slice tI)) a2), (7, aI (List.length a0 : Int)), (24, .one (.slc 24)), (25, aI (3 : Int)), (26, aI i62)]) (L' := [(24, .seq (.slice (.slice tI)) [a0, a1, a2])]) (by kernel_rfl) ?_
              refine blockQ_hit ?_
              refine blockQ_norm ?_
              refine seqQ_norm ?_
              obtain rfl := Option.some.inj h
              refine W_run 2 [] [0, 1, 2, 7, 24, 25, 26] [24] (fr' := [(0, aD (.slice (.slice tI)) a0), (1, aD (.slice (.slice tI)) a1), (2, aD (.slice (.slice tI)) a2), (7, aI (List.length a0 : Int)), (24, .one (.slc 24)), (25, aI (3 : Int)), (26, aI (w64 (i62 + (1 : Int))))]) (L' := [(24, .seq (.slice (.slice tI)) [a0, a1, a2])]) (obs := []) (by kernel_rfl) (by kernel_rfl) (by kernel_rfl) allP0 ?_
              exact round_next' (by kernel_rfl) (by kernel_rfl)
      · obtain rfl := stepI_false h65 h
        refine W_exit (id := 0) [0, 1, 2] [] (fr' := [(0, aD (.slice (.slice tI)) a0), (1, aD (.slice (.slice tI)) a1), (2, aD (.slice (.slice tI)) a2)]) (L' := []) (by kernel_rfl) (by kernel_rfl) ?_
        refine seqQ_exit ?_
        refine round_exit ?_
        refine escQ_brk ?_
        exact exQ_mk (by kernel_rfl) (by kernel_rfl)
    · intro e fr L hJ
      rcases v95 with v99 | v100
      · obtain ⟨rfl, rfl, rfl⟩ := hJ
        obtain rfl := Option.some.inj h
        refine LT_keep [6] [] (fr' := [(6, aI v99)]) (L' := []) (by kernel_rfl) ?_
        refine blockQ_ret ?_
        refine seqQ_ret ?_
        exact retQ_mk (by kernel_rfl) (by kernel_rfl) (by kernel_rfl)
      · obtain ⟨rfl, rfl, rfl⟩ := hJ
        refine LT_keep [0, 1, 2] [] (fr' := [(0, aD (.slice (.slice tI)) a0), (1, aD (.slice (.slice tI)) a1), (2, aD (.slice (.slice tI)) a2)]) (L' := []) (by kernel_rfl) ?_
        refine blockQ_hit ?_
        refine seqQ_norm ?_
        refine W_seq (by kernel_rfl) ?_
        refine W_seq (by kernel_rfl) ?_
        refine W_run 6 [] [49, 50, 51] [49] (fr' := [(49, .one (.slc 49)), (50, aI (3 : Int)), (51, aI (0 : Int))]) (L' := [(49, .seq (.slice (.slice tI)) [a0, a1, a2])]) (obs := []) (by kernel_rfl) (by kernel_rfl) (by kernel_rfl) allP0 ?_
        refine seqQ_norm ?_
        refine W_block (id := 4) (by kernel_rfl) ?_
        obtain ⟨v207, h208, h⟩ := bind_of h
        obtain ⟨h209, h210⟩ := forI_iter h208
        refine W_weaken [49, 50, 51] [49] (fr' := ((ref_SquaresCheck_s27 a0 a1 a2) ((0 : Int), ())).1) (L' := ((ref_SquaresCheck_s27 a0 a1 a2) ((0 : Int), ())).2) (by kernel_rfl) ?_
        refine W_cutK (W_loop (S := (ref_SquaresCheck_s27 a0 a1 a2)) (J := (escQ (exQ .ret ref_SquaresCheck_s28) (exQ (.exit 4) ref_SquaresCheck_s29))) (by kernel_rfl) ?_ h209 _ v207 h210) ?_
        · rintro ⟨i169, x170⟩ s h
          refine W_seq (by kernel_rfl) ?_
          refine W_run 1 [] [49, 50, 51, 52] [49] (fr' := [(49, .one (.slc 49)), (50, aI (3 : Int)), (51, aI i169), (52, aB (decide (i169 < (3 : Int))))]) (L' := [(49, .seq (.slice (.slice tI)) [a0, a1, a2])]) (obs := []) (by kernel_rfl) (by kernel_rfl) (by kernel_rfl) allP0 ?_
          refine seqQ_norm ?_
          refine W_seq (by kernel_rfl) ?_
          refine W_cond (o := .tmp 52) (b := decide (i169 < (3 : Int))) (by kernel_rfl) (by kernel_rfl) (fun h172 => ?_) (fun h172 => ?_)
          · replace h := stepI_true h172 h
            obtain ⟨_, h, rfl⟩ := h
            refine W_skip [49, 50, 51] [49] (fr' := [(49, .one (.slc 49)), (50, aI (3 : Int)), (51, aI i169)]) (L' := [(49, .seq (.slice (.slice tI)) [a0, a1, a2])]) (by kernel_rfl) (by kernel_rfl) ?_
            refine seqQ_norm ?_
            refine W_seq (by kernel_rfl) ?_
            refine W_block (id := 5) (by kernel_rfl) ?_
            refine W_seq (by kernel_rfl) ?_
            obtain ⟨v173, h174, h⟩ := bind_of h
            refine W_run 3 [(3, .val (.dat (.slice (.slice tI)) v173))] [13, 49, 50, 51] [49] (fr' := [(13, aD (.slice (.slice tI)) v173), (49, .one (.slc 49)), (50, aI (3 : Int)), (51, aI i169)]) (L' := [(49, .seq (.slice (.slice tI)) [a0, a1, a2])]) (obs := [InR i169 (List.length [a0, a1, a2]), Idx [a0, a1, a2] i169 v173]) (by kernel_rfl) (by kernel_rfl) (by kernel_rfl) (allP2 (InR.of h174) (allP1 (Idx.of h174))) ?_
            refine seqQ_norm ?_
            refine W_seq (by kernel_rfl) ?_
            refine W_run 3 [] [49, 50, 51, 55, 56, 57] [49] (fr' := [(49, .one (.slc 49)), (50, aI (3 : Int)), (51, aI i169), (55, aD (.slice (.slice tI)) v173), (56, aI (List.length v173 : Int)), (57, aI (0 : Int))]) (L' := [(49, .seq (.slice (.slice tI)) [a0, a1, a2])]) (obs := []) (by kernel_rfl) (by kernel_rfl) (by kernel_rfl) allP0 ?_
            refine seqQ_norm ?_
            refine W_block (id := 6) (by kernel_rfl) ?_
            obtain ⟨v199, h200, h⟩ := bind_of h
            refine W_len (t := 55) (u := (.slice tI)) (xs := v173) (by kernel_rfl) (fun h203 => ?_)
            obtain ⟨h201, h202⟩ := forL_iter h203 h200
            refine W_weaken [49, 50, 51, 55, 56, 57] [49] (fr' := ((ref_SquaresCheck_s23 a0 a1 a2 i169 v173) ((0 : Int), ())).1) (L' := ((ref_SquaresCheck_s23 a0 a1 a2 i169 v173) ((0 : Int), ())).2) (by kernel_rfl) ?_
            refine W_cutK (W_loop (S := (ref_SquaresCheck_s23 a0 a1 a2 i169 v173)) (J := (escQ (exQ .ret ref_SquaresCheck_s24) (exQ (.exit 6) (ref_SquaresCheck_s25 a0 a1 a2 i169)))) (by kernel_rfl) ?_ h201 _ v199 h202) ?_
            · rintro ⟨i189, x190⟩ s h
              refine W_seq (by kernel_rfl) ?_
              refine W_run 1 [] [49, 50, 51, 55, 56, 57, 58] [49] (fr' := [(49, .one (.slc 49)), (50, aI (3 : Int)), (51, aI i169), (55, aD (.slice (.slice tI)) v173), (56, aI (List.length v173 : Int)), (57, aI i189), (58, aB (decide (i189 < (List.length v173 : Int))))]) (L' := [(49, .seq (.slice (.slice tI)) [a0, a1, a2])]) (obs := []) (by kernel_rfl) (by kernel_rfl) (by kernel_rfl) allP0 ?_
              refine seqQ_norm ?_
              refine W_seq (by kernel_rfl) ?_
              refine W_cond (o := .tmp 58) (b := decide (i189 < (List.length v173 : Int))) (by kernel_rfl) (by kernel_rfl) (fun h194 => ?_) (fun h194 => ?_)
              · replace h := stepL_true h194 h
                obtain ⟨v192, _, h193, h, rfl⟩ := h
                refine W_skip [49, 50, 51, 55, 56, 57] [49] (fr' := [(49, .one (.slc 49)), (50, aI (3 : Int)), (51, aI i169), (55, aD (.slice (.slice tI)) v173), (56, aI (List.length v173 : Int)), (57, aI i189)]) (L' := [(49, .seq (.slice (.slice tI)) [a0, a1, a2])]) (by kernel_rfl) (by kernel_rfl) ?_
                refine seqQ_norm ?_
                refine W_seq (by kernel_rfl) ?_
                refine W_block (id := 7) (by kernel_rfl) ?_
                refine W_seq (by kernel_rfl) ?_
                refine W_run 3 [(1, .val (.dat (.slice tI) v192))] [15, 49, 50, 51, 55, 56, 57] [49] (fr' := [(15, aD (.slice tI) v192), (49, .one (.slc 49)), (50, aI (3 : Int)), (51, aI i169), (55, aD (.slice (.slice tI)) v173), (56, aI (List.length v173 : Int)), (57, aI i189)]) (L' := [(49, .seq (.slice (.slice tI)) [a0, a1, a2])]) (obs := [Idx v173 i189 v192]) (by kernel_rfl) (by kernel_rfl) (by kernel_rfl) (allP1 (Idx.of h193)) ?_
                refine seqQ_norm ?_
                refine W_seq (by kernel_rfl) ?_
                refine W_region (by kernel_rfl) ?_
                refine WO_run (j := 1) (k := 1) (orcs := []) (kF := [49, 50, 51, 55, 56, 57, 61]) (kL := [49]) (fr' := [(49, .one (.slc 49)), (50, aI (3 : Int)), (51, aI i169), (55, aD (.slice (.slice tI)) v173), (56, aI (List.length v173 : Int)), (57, aI i189), (61, aD (.slice tI) v192)]) (L' := [(49, .seq (.slice (.slice tI)) [a0, a1, a2])]) (obs := []) rfl (by kernel_rfl) allP0 ?_
                obtain ⟨r195, h196, h⟩ := bind_of h
                refine WO_call0 (us := [none, none]) (d := 62) (p := True) (j := 2) rfl ⟨by kernel_rfl, by kernel_rfl, by kernel_rfl⟩ trivial (ref_Inside_ok h196) (by kernel_rfl) ?_
                refine WO_run (j := 3) (k := 1) (orcs := []) (kF := [49, 50, 51, 55, 56, 57, 63]) (kL := [49]) (fr' := [(49, .one (.slc 49)), (50, aI (3 : Int)), (51, aI i169), (55, aD (.slice (.slice tI)) v173), (56, aI (List.length v173 : Int)), (57, aI i189), (63, aB (!r195))]) (L' := [(49, .seq (.slice (.slice tI)) [a0, a1, a2])]) (obs := []) rfl (by kernel_rfl) allP0 ?_
                refine WO_fin [49, 50, 51, 55, 56, 57, 63] [49] (fr' := [(49, .one (.slc 49)), (50, aI (3 : Int)), (51, aI i169), (55, aD (.slice (.slice tI)) v173), (56, aI (List.length v173 : Int)), (57, aI i189), (63, aB (!r195))]) (L' := [(49, .seq (.slice (.slice tI)) [a0, a1, a2])]) (by kernel_rfl) (by kernel_rfl) ?_
                refine seqQ_norm ?_
                refine W_cond (o := .tmp 63) (b := !r195) (by kernel_rfl) (by kernel_rfl) (fun h197 => ?_) (fun h197 => ?_)
                · replace h := ofT h197 h
                  refine W_seq (by kernel_rfl) ?_
                  refine W_run 1 [] [6] [] (fr' := [(6, aI (4 : Int))]) (L' := []) (obs := []) (by kernel_rfl) (by kernel_rfl) (by kernel_rfl) allP0 ?_
                  refine seqQ_norm ?_
                  obtain rfl := Option.some.inj h
                  refine W_ret [6] [] (fr' := [(6, aI (4 : Int))]) (L' := []) (by kernel_rfl) (by kernel_rfl) ?_
                  refine blockQ_ret ?_
                  refine seqQ_ret ?_
                  refine round_ret ?_
                  refine escQ_ret ?_
                  exact exQ_mk (by kernel_rfl) (by kernel_rfl)
                · replace h := ofF h197 h
                  refine W_skip [49, 50, 51, 55, 56, 57] [49] (fr' := [(49, .one (.slc 49)), (50, aI (3 : Int)), (51, aI i169), (55, aD (.slice (.slice tI)) v173), (56, aI (List.length v173 : Int)), (57, aI i189)]) (L' := [(49, .seq (.slice (.slice tI)) [a0, a1, a2])]) (by kernel_rfl) (by kernel_rfl) ?_
                  refine blockQ_norm ?_
                  refine seqQ_norm ?_
                  obtain rfl := Option.some.inj h
                  refine W_run 2 [] [49, 50, 51, 55, 56, 57] [49] (fr' := [(49, .one (.slc 49)), (50, aI (3 : Int)), (51, aI i169), (55, aD (.slice (.slice tI)) v173), (56, aI (List.length v173 : Int)), (57, aI (w64 (i189 + (1 : Int))))]) (L' := [(49, .seq (.slice (.slice tI)) [a0, a1, a2])]) (obs := []) (by kernel_rfl) (by kernel_rfl) (by kernel_rfl) allP0 ?_
                  exact round_next' (by kernel_rfl) (by kernel_rfl)
              · obtain rfl := stepL_false h194 h
                refine W_exit (id := 6) [49, 50, 51] [49] (fr' := [(49, .one (.slc 49)), (50, aI (3 : Int)), (51, aI i169)]) (L' := [(49, .seq (.slice (.slice tI)) [a0, a1, a2])]) (by kernel_rfl) (by kernel_rfl) ?_
                refine seqQ_exit ?_
                refine round_exit ?_
                refine escQ_brk ?_
                exact exQ_mk (by kernel_rfl) (by kernel_rfl)
            · intro e fr L hJ
              rcases v199 with v204 | v205
              · obtain ⟨rfl, rfl, rfl⟩ := hJ
                obtain rfl := Option.some.inj h
                refine LT_keep [6] [] (fr' := [(6, aI v204)]) (L' := []) (by kernel_rfl) ?_
                refine blockQ_ret ?_
                refine blockQ_ret ?_
                refine seqQ_ret ?_
                refine round_ret ?_
                refine escQ_ret ?_
                exact exQ_mk (by kernel_rfl) (by kernel_rfl)
              · obtain ⟨rfl, rfl, rfl⟩ := hJ
                refine LT_keep [49, 50, 51] [49] (fr' := [(49, .one (.slc 49)), (50, aI (3 : Int)), (51, aI i169)]) (L' := [(49, .seq (.slice (.slice tI)) [a0, a1, a2])]) (by kernel_rfl) ?_
                refine blockQ_hit ?_
                refine blockQ_norm ?_
                refine seqQ_norm ?_
                obtain rfl := Option.some.inj h
                refine W_run 2 [] [49, 50, 51] [49] (fr' := [(49, .one (.slc 49)), (50, aI (3 : Int)), (51, aI (w64 (i169 + (1 : Int))))]) (L' := [(49, .seq (.slice (.slice tI)) [a0, a1, a2])]) (obs := []) (by kernel_rfl) (by kernel_rfl) (by kernel_rfl) allP0 ?_
                exact round_next' (by kernel_rfl) (by kernel_rfl)
          · obtain rfl := stepI_false h172 h
            refine W_exit (id := 4) [] [] (fr' := []) (L' := []) (by kernel_rfl) (by kernel_rfl) ?_
            refine seqQ_exit ?_
            refine round_exit ?_
            refine escQ_brk ?_
            exact exQ_mk (by kernel_rfl) (by kernel_rfl)
        · intro e fr L hJ
          rcases v207 with v211 | v212
          · obtain ⟨rfl, rfl, rfl⟩ := hJ
            obtain rfl := Option.some.inj h
            refine LT_keep [6] [] (fr' := [(6, aI v211)]) (L' := []) (by kernel_rfl) ?_
            refine blockQ_ret ?_
            refine seqQ_ret ?_
            exact retQ_mk (by kernel_rfl) (by kernel_rfl) (by kernel_rfl)
          · obtain ⟨rfl, rfl, rfl⟩ := hJ
            refine LT_keep [] [] (fr' := []) (L' := []) (by kernel_rfl) ?_
            refine blockQ_hit ?_
            refine seqQ_norm ?_
            refine W_seq (by kernel_rfl) ?_
            refine W_run 1 [] [6] [] (fr' := [(6, aI (0 : Int))]) (L' := []) (obs := []) (by kernel_rfl) (by kernel_rfl) (by kernel_rfl) allP0 ?_
            refine seqQ_norm ?_
            obtain rfl := Option.some.inj h
            refine W_ret [6] [] (fr' := [(6, aI (0 : Int))]) (L' := []) (by kernel_rfl) (by kernel_rfl) ?_
            exact retQ_mk (by kernel_rfl) (by kernel_rfl) (by kernel_rfl)

def ref_Bit (a0 : Int) (a1 : Int) : Option Bool :=
bif (decide (a1 ≥ (0 : Int))) && (decide (a1 < (63 : Int))) then
((ck (0 ≤ IntKind.wrap .u64 (a1))).bind fun _ =>
some ((bAnd .i64 a0 (bShl .i64 (1 : Int) (IntKind.wrap .u64 (a1)))) != (0 : Int)))
else
(some false)
theorem ref_Bit_ok {a0 : Int} {a1 : Int} {r : Bool} (h : ref_Bit a0 a1 = some r) : FnC Try.prog 48 [aI a0, aI a1] [] (aB r) [] := by
  refine fnC_of_W (B := bodyOf Try.f48) (n := 19) Try.func48 (by kernel_rfl) (by kernel_rfl) (by kernel_rfl) (by kernel_rfl) (by kernel_rfl) ?_
  intro K
  refine W_seq (by kernel_rfl) ?_
  refine W_run 1 [] [0, 1] [] (fr' := [(0, aI a0), (1, aI a1)]) (L' := []) (obs := []) (by kernel_rfl) (by kernel_rfl) (by kernel_rfl) allP0 ?_
  refine seqQ_norm ?_
  refine W_seq (by kernel_rfl) ?_
  refine W_region (by kernel_rfl) ?_
  refine WO_run (j := 7) (k := 7) (orcs := []) (kF := [0, 1, 11]) (kL := []) (fr' := [(0, aI a0), (1, aI a1), (11, aB ((decide (a1 ≥ (0 : Int))) && (decide (a1 < (63 : Int)))))]) (L' := []) (obs := []) rfl (by kernel_rfl) allP0 ?_
  rcases Bool.eq_false_or_eq_true ((decide (a1 ≥ (0 : Int))) && (decide (a1 < (63 : Int)))) with h1 | h1
  · replace h := ofT h1 h
    obtain ⟨_, h2, h⟩ := bind_of h
    replace h2 := ck_some h2
    refine WO_run (j := 15) (k := 8) (orcs := [(14, .known true), (16, .known true), (18, .known true), (20, .known true), (22, .known true), (24, .known true), (27, .val (.dat .bool true))]) (kF := [4]) (kL := []) (fr' := [(4, aB ((bAnd .i64 a0 (bShl .i64 (1 : Int) (IntKind.wrap .u64 (a1)))) != (0 : Int)))]) (L' := []) (obs := [(((decide (a1 ≥ (0 : Int))) && (decide (a1 < (63 : Int)))) = true), (((decide (a1 ≥ (0 : Int))) && (decide (a1 < (63 : Int)))) = true), (((decide (a1 ≥ (0 : Int))) && (decide (a1 < (63 : Int)))) = true), (((decide (a1 ≥ (0 : Int))) && (decide (a1 < (63 : Int)))) = true), (0 ≤ IntKind.wrap .u64 (a1)), (((decide (a1 ≥ (0 : Int))) && (decide (a1 < (63 : Int)))) = true), (((decide (a1 ≥ (0 : Int))) && (decide (a1 < (63 : Int)))) = true), (((decide (a1 ≥ (0 : Int))) && (decide (a1 < (63 : Int)))) = true)]) rfl (by kernel_rfl) (allP2 h1 (allP2 h1 (allP2 h1 (allP2 h1 (allP2 h2 (allP2 h1 (allP2 h1 (allP1 h1)))))))) ?_
    refine WO_fin [4] [] (fr' := [(4, aB ((bAnd .i64 a0 (bShl .i64 (1 : Int) (IntKind.wrap .u64 (a1)))) != (0 : Int)))]) (L' := []) (by kernel_rfl) (by kernel_rfl) ?_
    refine seqQ_norm ?_
    obtain rfl := Option.some.inj h
    refine W_ret [4] [] (fr' := [(4, aB ((bAnd .i64 a0 (bShl .i64 (1 : Int) (IntKind.wrap .u64 (a1)))) != (0 : Int)))]) (L' := []) (by kernel_rfl) (by kernel_rfl) ?_
    exact retQ_mk (by kernel_rfl) (by kernel_rfl) (by kernel_rfl)
  · replace h := ofF h1 h
    refine WO_run (j := 15) (k := 8) (orcs := [(14, .known false), (16, .known false), (18, .known false), (20, .known false), (22, .known false), (24, .known false), (27, .val (.dat .bool false))]) (kF := [4]) (kL := []) (fr' := [(4, aB false)]) (L' := []) (obs := [(((decide (a1 ≥ (0 : Int))) && (decide (a1 < (63 : Int)))) = false), (((decide (a1 ≥ (0 : Int))) && (decide (a1 < (63 : Int)))) = false), (((decide (a1 ≥ (0 : Int))) && (decide (a1 < (63 : Int)))) = false), (((decide (a1 ≥ (0 : Int))) && (decide (a1 < (63 : Int)))) = false), (((decide (a1 ≥ (0 : Int))) && (decide (a1 < (63 : Int)))) = false), (((decide (a1 ≥ (0 : Int))) && (decide (a1 < (63 : Int)))) = false), (((decide (a1 ≥ (0 : Int))) && (decide (a1 < (63 : Int)))) = false)]) rfl (by kernel_rfl) (allP2 h1 (allP2 h1 (allP2 h1 (allP2 h1 (allP2 h1 (allP2 h1 (allP1 h1))))))) ?_
    refine WO_fin [4] [] (fr' := [(4, aB false)]) (L' := []) (by kernel_rfl) (by kernel_rfl) ?_
    refine seqQ_norm ?_
    obtain rfl := Option.some.inj h
    refine W_ret [4] [] (fr' := [(4, aB false)]) (L' := []) (by kernel_rfl) (by kernel_rfl) ?_
    exact retQ_mk (by kernel_rfl) (by kernel_rfl) (by kernel_rfl)

def ref_Product_b101 (a1 : (List (List Int))) (v900 : (List Int)) (i1157 : Int) (i1264 : Int) (v1267 : (List Int)) (x1265 : Int) : Option (Flow Int Int) :=
(idx v900 i1264).bind fun v1270 =>
(idx a1 i1264).bind fun v1272 =>
(idx v1272 i1157).bind fun v1274 =>
some (.next (w64 (x1265 + (w64 (v1270 * v1274)))))
@[reducible] def ref_Product_s102 (a0 : (List (List Int))) (a1 : (List (List Int))) (a2 : (List (List Int))) (a3 : Int) (i897 : Int) (i1157 : Int) (v : Int × Int) : Fr × LL := ([(0, aD (.slice (.slice tI)) a0), (1, aD (.slice (.slice tI)) a1), (2, aD (.slice (.slice tI)) a2), (3, aI a3), (9, aI (List.length a0 : Int)), (10, aI i897), (11, aI v.2), (12, aI i1157), (13, aI v.1)], [])
@[reducible] def ref_Product_s103 (a0 : (List (List Int))) (a1 : (List (List Int))) (a2 : (List (List Int))) (a3 : Int) (i897 : Int) (i1157 : Int) (v : Int) : Fr × LL := ([(0, aD (.slice (.slice tI)) a0), (1, aD (.slice (.slice tI)) a1), (2, aD (.slice (.slice tI)) a2), (3, aI a3), (9, aI (List.length a0 : Int)), (10, aI i897), (11, aI v), (12, aI i1157)], [])
def ref_Product_g104 (a0 : (List (List Int))) (a1 : (List (List Int))) (a2 : (List (List Int))) (a3 : Int) (i897 : Int) (v900 : (List Int)) (i1157 : Int) (x1158 : Int) : Option Int :=
(ref_Bit a3 i1157).bind fun r1245 =>
bif !r1245 then
(some x1158)
else
((forL (ref_Product_b101 a1 v900 i1157) (fun x1265 => x1265) a0 0 x1158).bind fun v1277 =>
(idx a2 i897).bind fun v1282 =>
(idx v1282 i1157).bind fun v1284 =>
some (w64 ((w64 (v1277 + (7 : Int))) - v1284)))
@[reducible] def ref_Product_s105 (a0 : (List (List Int))) (a1 : (List (List Int))) (a2 : (List (List Int))) (a3 : Int) (i897 : Int) (i1157 : Int) (v : Int) : Fr × LL := ([(0, aD (.slice (.slice tI)) a0), (1, aD (.slice (.slice tI)) a1), (2, aD (.slice (.slice tI)) a2), (3, aI a3), (9, aI (List.length a0 : Int)), (10, aI i897), (11, aI v), (12, aI i1157)], [])
def ref_Product_b106 (a0 : (List (List Int))) (a1 : (List (List Int))) (a2 : (List (List Int))) (a3 : Int) (i897 : Int) (v900 : (List Int)) (i1157 : Int) (v1160 : (List Int)) (x1158 : Int) : Option (Flow Int Int) :=
(ref_Product_g104 a0 a1 a2 a3 i897 v900 i1157 x1158).bind fun v1286 =>
some (.next v1286)
@[reducible] def ref_Product_s107 (a0 : (List (List Int))) (a1 : (List (List Int))) (a2 : (List (List Int))) (a3 : Int) (i897 : Int) (v : Int × Int) : Fr × LL := ([(0, aD (.slice (.slice tI)) a0), (1, aD (.slice (.slice tI)) a1), (2, aD (.slice (.slice tI)) a2), (3, aI a3), (9, aI (List.length a0 : Int)), (10, aI i897), (11, aI v.2), (12, aI v.1)], [])
@[reducible] def ref_Product_s108 (a0 : (List (List Int))) (a1 : (List (List Int))) (a2 : (List (List Int))) (a3 : Int) (i897 : Int) (v : Int) : Fr × LL := ([(0, aD (.slice (.slice tI)) a0), (1, aD (.slice (.slice tI)) a1), (2, aD (.slice (.slice tI)) a2), (3, aI a3), (9, aI (List.length a0 : Int)), (10, aI i897), (11, aI v)], [])
def ref_Product_b109 (a0 : (List (List Int))) (a1 : (List (List Int))) (a2 : (List (List Int))) (a3 : Int) (i897 : Int) (v900 : (List Int)) (x898 : Unit) : Option (Flow Unit (Esc Bool Unit)) :=
(forL (ref_Product_b106 a0 a1 a2 a3 i897 v900) (fun x1158 => x1158) a0 0 (0 : Int)).bind fun v1289 =>
bif (Int.tmod v1289 (7 : Int)) != (0 : Int) then
(some (.done (.ret false)))
else
(some (.next ()))
@[reducible] def ref_Product_s110 (a0 : (List (List Int))) (a1 : (List (List Int))) (a2 : (List (List Int))) (a3 : Int) (v : Int × Unit) : Fr × LL := ([(0, aD (.slice (.slice tI)) a0), (1, aD (.slice (.slice tI)) a1), (2, aD (.slice (.slice tI)) a2), (3, aI a3), (9, aI (List.length a0 : Int)), (10, aI v.1)], [])
@[reducible] def ref_Product_s111 (v : Bool) : Fr × LL := ([(8, aB v)], [])
@[reducible] def ref_Product_s112 (v : Unit) : Fr × LL := ([], [])
def ref_Product (a0 : (List (List Int))) (a1 : (List (List Int))) (a2 : (List (List Int))) (a3 : Int) : Option Bool :=
(forL (ref_Product_b109 a0 a1 a2 a3) (fun x898 => (.brk ())) a0 0 ()).bind fun v1296 =>
match v1296 with
| .ret v1301 =>
(some v1301)
| .brk v1302 =>
(some true)
theorem ref_Product_ok {a0 : (List (List Int))} {a1 : (List (List Int))} {a2 : (List (List Int))} {a3 : Int} {r : Bool} (h : ref_Product a0 a1 a2 a3 = some r) : FnC Try.prog 27 [aD (.slice (.slice tI)) a0, aD (.slice (.slice tI)) a1, aD (.slice (.slice tI)) a2, aI a3] [] (aB r) [] := by
  refine fnC_of_W (B := bodyOf Try.f27) (n := 65) Try.func27 (by kernel_rfl) (by kernel_rfl) (by kernel_rfl) (by kernel_rfl) (by kernel_rfl) ?_
  intro K
  refine W_seq (by kernel_rfl) ?_
  refine W_run 1 [] [0, 1, 2, 3] [] (fr' := [(0, aD (.slice (.slice tI)) a0), (1, aD (.slice (.slice tI)) a1), (2, aD (.slice (.slice tI)) a2), (3, aI a3)]) (L' := []) (obs := []) (by kernel_rfl) (by kernel_rfl) (by kernel_rfl) allP0 ?_
  refine seqQ_norm ?_
  refine W_seq (by kernel_rfl) ?_
  refine W_run 3 [] [0, 1, 2, 3, 9] [] (fr' := [(0, aD (.slice (.slice tI)) a0), (1, aD (.slice (.slice tI)) a1), (2, aD (.slice (.slice tI)) a2), (3, aI a3), (9, aI (List.length a0 : Int))]) (L' := []) (obs := []) (by kernel_rfl) (by kernel_rfl) (by kernel_rfl) allP0 ?_
  refine seqQ_norm ?_
  refine W_seq (by kernel_rfl) ?_
  refine W_seq (by kernel_rfl) ?_
  refine W_run 1 [] [0, 1, 2, 3, 9, 10] [] (fr' := [(0, aD (.slice (.slice tI)) a0), (1, aD (.slice (.slice tI)) a1), (2, aD (.slice (.slice tI)) a2), (3, aI a3), (9, aI (List.length a0 : Int)), (10, aI (0 : Int))]) (L' := []) (obs := []) (by kernel_rfl) (by kernel_rfl) (by kernel_rfl) allP0 ?_
  refine seqQ_norm ?_
  refine W_block (id := 0) (by kernel_rfl) ?_
  obtain ⟨v1296, h1297, h⟩ := bind_of h
  refine W_len (t := 0) (u := (.slice tI)) (xs := a0) (by kernel_rfl) (fun h1300 => ?_)
  obtain ⟨h1298, h1299⟩ := forL_iter h1300 h1297
  refine W_weaken [0, 1, 2, 3, 9, 10] [] (fr' := ((ref_Product_s110 a0 a1 a2 a3) ((0 : Int), ())).1) (L' := ((ref_Product_s110 a0 a1 a2 a3) ((0 : Int), ())).2) (by kernel_rfl) ?_
  refine W_cutK (W_loop (S := (ref_Product_s110 a0 a1 a2 a3)) (J := (escQ (exQ .ret ref_Product_s111) (exQ (.exit 0) ref_Product_s112))) (by kernel_rfl) ?_ h1298 _ v1296 h1299) ?_
  · rintro ⟨i897, x898⟩ s h
    refine W_seq (by kernel_rfl) ?_
    refine W_seq (by kernel_rfl) ?_
    refine W_run 3 [] [0, 1, 2, 3, 9, 10, 18] [] (fr' := [(0, aD (.slice (.slice tI)) a0), (1, aD (.slice (.slice tI)) a1), (2, aD (.slice (.slice tI)) a2), (3, aI a3), (9, aI (List.length a0 : Int)), (10, aI i897), (18, aB (decide (i897 < (List.length a0 : Int))))]) (L' := []) (obs := []) (by kernel_rfl) (by kernel_rfl) (by kernel_rfl) allP0 ?_
    refine seqQ_norm ?_
    refine W_cond (o := .tmp 18) (b := decide (i897 < (List.length a0 : Int))) (by kernel_rfl) (by kernel_rfl) (fun h902 => ?_) (fun h902 => ?_)
    · replace h := stepL_true h902 h
      obtain ⟨v900, _, h901, h, rfl⟩ := h
      refine W_skip [0, 1, 2, 3, 9, 10] [] (fr' := [(0, aD (.slice (.slice tI)) a0), (1, aD (.slice (.slice tI)) a1), (2, aD (.slice (.slice tI)) a2), (3, aI a3), (9, aI (List.length a0 : Int)), (10, aI i897)]) (L' := []) (by kernel_rfl) (by kernel_rfl) ?_
      refine seqQ_norm ?_
      refine W_seq (by kernel_rfl) ?_
      refine W_block (id := 1) (by kernel_rfl) ?_
      refine W_seq (by kernel_rfl) ?_
      refine W_run 1 [] [0, 1, 2, 3, 9, 10, 11] [] (fr' := [(0, aD (.slice (.slice tI)) a0), (1, aD (.slice (.slice tI)) a1), (2, aD (.slice (.slice tI)) a2), (3, aI a3), (9, aI (List.length a0 : Int)), (10, aI i897), (11, aI (0 : Int))]) (L' := []) (obs := []) (by kernel_rfl) (by kernel_rfl) (by kernel_rfl) allP0 ?_
      refine seqQ_norm ?_
      refine W_seq (by kernel_rfl) ?_
      refine W_seq (by kernel_rfl) ?_
      refine W_run 1 [] [0, 1, 2, 3, 9, 10, 11, 12] [] (fr' := [(0, aD (.slice (.slice tI)) a0), (1, aD (.slice (.slice tI)) a1), (2, aD (.slice (.slice tI)) a2), (3, aI a3), (9, aI (List.length a0 : Int)), (10, aI i897), (11, aI (0 : Int)), (12, aI (0 : Int))]) (L' := []) (obs := []) (by kernel_rfl) (by kernel_rfl) (by kernel_rfl) allP0 ?_
      refine seqQ_norm ?_
      refine W_block (id := 2) (by kernel_rfl) ?_
      obtain ⟨v1289, h1290, h⟩ := bind_of h
      refine W_len (t := 0) (u := (.slice tI)) (xs := a0) (by kernel_rfl) (fun h1293 => ?_)
      obtain ⟨h1291, h1292⟩ := forL_iter h1293 h1290
      refine W_weaken [0, 1, 2, 3, 9, 10, 11, 12] [] (fr' := ((ref_Product_s107 a0 a1 a2 a3 i897) ((0 : Int), (0 : Int))).1) (L' := ((ref_Product_s107 a0 a1 a2 a3 i897) ((0 : Int), (0 : Int))).2) (by kernel_rfl) ?_
      refine W_cutK (W_loop (S := (ref_Product_s107 a0 a1 a2 a3 i897)) (J := (exQ (.exit 2) (ref_Product_s108 a0 a1 a2 a3 i897))) (by kernel_rfl) ?_ h1291 _ v1289 h1292) ?_
      · rintro ⟨i1157, x1158⟩ s h
        refine W_seq (by kernel_rfl) ?_
        refine W_seq (by kernel_rfl) ?_
        refine W_run 3 [] [0, 1, 2, 3, 9, 10, 11, 12, 23] [] (fr' := [(0, aD (.slice (.slice tI)) a0), (1, aD (.slice (.slice tI)) a1), (2, aD (.slice (.slice tI)) a2), (3, aI a3), (9, aI (List.length a0 : Int)), (10, aI i897), (11, aI x1158), (12, aI i1157), (23, aB (decide (i1157 < (List.length a0 : Int))))]) (L' := []) (obs := []) (by kernel_rfl) (by kernel_rfl) (by kernel_rfl) allP0 ?_
        refine seqQ_norm ?_
        refine W_cond (o := .tmp 23) (b := decide (i1157 < (List.length a0 : Int))) (by kernel_rfl) (by kernel_rfl) (fun h1162 => ?_) (fun h1162 => ?_)
        · replace h := stepL_true h1162 h
          obtain ⟨v1160, _, h1161, h, rfl⟩ := h
          refine W_skip [0, 1, 2, 3, 9, 10, 11, 12] [] (fr' := [(0, aD (.slice (.slice tI)) a0), (1, aD (.slice (.slice tI)) a1), (2, aD (.slice (.slice tI)) a2), (3, aI a3), (9, aI (List.length a0 : Int)), (10, aI i897), (11, aI x1158), (12, aI i1157)]) (L' := []) (by kernel_rfl) (by kernel_rfl) ?_
          refine seqQ_norm ?_
          refine W_seq (by kernel_rfl) ?_
          obtain ⟨v1286, h1287, h⟩ := bind_of h
          refine W_cutK (Q' := (exQ .normal (ref_Product_s105 a0 a1 a2 a3 i897 i1157)) v1286) ?_ ?_
          · replace h := h1287
            refine W_block (id := 3) (by kernel_rfl) ?_
            refine W_seq (by kernel_rfl) ?_
            refine W_seq (by kernel_rfl) ?_
            refine W_region (by kernel_rfl) ?_
            refine WO_run (j := 2) (k := 2) (orcs := []) (kF := [0, 1, 2, 3, 9, 10, 11, 12, 26, 27]) (kL := []) (fr' := [(0, aD (.slice (.slice tI)) a0), (1, aD (.slice (.slice tI)) a1), (2, aD (.slice (.slice tI)) a2), (3, aI a3), (9, aI (List.length a0 : Int)), (10, aI i897), (11, aI x1158), (12, aI i1157), (26, aI a3), (27, aI i1157)]) (L' := []) (obs := []) rfl (by kernel_rfl) allP0 ?_
            obtain ⟨r1245, h1246, h⟩ := bind_of h
            refine WO_call0 (us := [none, none]) (d := 28) (p := True) (j := 3) rfl ⟨by kernel_rfl, by kernel_rfl, by kernel_rfl⟩ trivial (ref_Bit_ok h1246) (by kernel_rfl) ?_
            refine WO_run (j := 4) (k := 1) (orcs := []) (kF := [0, 1, 2, 3, 9, 10, 11, 12, 29]) (kL := []) (fr' := [(0, aD (.slice (.slice tI)) a0), (1, aD (.slice (.slice tI)) a1), (2, aD (.slice (.slice tI)) a2), (3, aI a3), (9, aI (List.length a0 : Int)), (10, aI i897), (11, aI x1158), (12, aI i1157), (29, aB (!r1245))]) (L' := []) (obs := []) rfl (by kernel_rfl) allP0 ?_
            refine WO_fin [0, 1, 2, 3, 9, 10, 11, 12, 29] [] (fr' := [(0, aD (.slice (.slice tI)) a0), (1, aD (.slice (.slice tI)) a1), (2, aD (.slice (.slice tI)) a2), (3, aI a3), (9, aI (List.length a0 : Int)), (10, aI i897), (11, aI x1158), (12, aI i1157), (29, aB (!r1245))]) (L' := []) (by kernel_rfl) (by kernel_rfl) ?_
            refine seqQ_norm ?_
            refine W_cond (o := .tmp 29) (b := !r1245) (by kernel_rfl) (by kernel_rfl) (fun h1247 => ?_) (fun h1247 => ?_)
            · replace h := ofT h1247 h
              obtain rfl := Option.some.inj h
              refine W_exit (id := 3) [0, 1, 2, 3, 9, 10, 11, 12] [] (fr' := [(0, aD (.slice (.slice tI)) a0), (1, aD (.slice (.slice tI)) a1), (2, aD (.slice (.slice tI)) a2), (3, aI a3), (9, aI (List.length a0 : Int)), (10, aI i897), (11, aI x1158), (12, aI i1157)]) (L' := []) (by kernel_rfl) (by kernel_rfl) ?_
              refine seqQ_exit ?_
              refine blockQ_hit ?_
              exact exQ_mk (by kernel_rfl) (by kernel_rfl)
            · replace h := ofF h1247 h
              refine W_skip [0, 1, 2, 3, 9, 10, 11, 12] [] (fr' := [(0, aD (.slice (.slice tI)) a0), (1, aD (.slice (.slice tI)) a1), (2, aD (.slice (.slice tI)) a2), (3, aI a3), (9, aI (List.length a0 : Int)), (10, aI i897), (11, aI x1158), (12, aI i1157)]) (L' := []) (by kernel_rfl) (by kernel_rfl) ?_
              refine seqQ_norm ?_
              refine W_seq (by kernel_rfl) ?_
              refine W_seq (by kernel_rfl) ?_
              refine W_run 1 [] [0, 1, 2, 3, 9, 10, 11, 12, 13] [] (fr' := [(0, aD (.slice (.slice tI)) a0), (1, aD (.slice (.slice tI)) a1), (2, aD (.slice (.slice tI)) a2), (3, aI a3), (9, aI (List.length a0 : Int)), (10, aI i897), (11, aI x1158), (12, aI i1157), (13, aI (0 : Int))]) (L' := []) (obs := []) (by kernel_rfl) (by kernel_rfl) (by kernel_rfl) allP0 ?_
              refine seqQ_norm ?_
              refine W_block (id := 4) (by kernel_rfl) ?_
              obtain ⟨v1277, h1278, h⟩ := bind_of h
              refine W_len (t := 0) (u := (.slice tI)) (xs := a0) (by kernel_rfl) (fun h1281 => ?_)
              obtain ⟨h1279, h1280⟩ := forL_iter h1281 h1278
              refine W_weaken [0, 1, 2, 3, 9, 10, 11, 12, 13] [] (fr' := ((ref_Product_s102 a0 a1 a2 a3 i897 i1157) ((0 : Int), x1158)).1) (L' := ((ref_Product_s102 a0 a1 a2 a3 i897 i1157) ((0 : Int), x1158)).2) (by kernel_rfl) ?_
              refine W_cutK (W_loop (S := (ref_Product_s102 a0 a1 a2 a3 i897 i1157)) (J := (exQ (.exit 4) (ref_Product_s103 a0 a1 a2 a3 i897 i1157))) (by kernel_rfl) ?_ h1279 _ v1277 h1280) ?_
              · rintro ⟨i1264, x1265⟩ s h
                refine W_seq (by kernel_rfl) ?_
                refine W_seq (by kernel_rfl) ?_
                refine W_run 3 [] [0, 1, 2, 3, 9, 10, 11, 12, 13, 32] [] (fr' := [(0, aD (.slice (.slice tI)) a0), (1, aD (.slice (.slice tI)) a1), (2, aD (.slice (.slice tI)) a2), (3, aI a3), (9, aI (List.length a0 : Int)), (10, aI i897), (11, aI x1265), (12, aI i1157), (13, aI i1264), (32, aB (decide (i1264 < (List.length a0 : Int))))]) (L' := []) (obs := []) (by kernel_rfl) (by kernel_rfl) (by kernel_rfl) allP0 ?_
                refine seqQ_norm ?_
                refine W_cond (o := .tmp 32) (b := decide (i1264 < (List.length a0 : Int))) (by kernel_rfl) (by kernel_rfl) (fun h1269 => ?_) (fun h1269 => ?_)
                · replace h := stepL_true h1269 h
                  obtain ⟨v1267, _, h1268, h, rfl⟩ := h
                  refine W_skip [0, 1, 2, 3, 9, 10, 11, 12, 13] [] (fr' := [(0, aD (.slice (.slice tI)) a0), (1, aD (.slice (.slice tI)) a1), (2, aD (.slice (.slice tI)) a2), (3, aI a3), (9, aI (List.length a0 : Int)), (10, aI i897), (11, aI x1265), (12, aI i1157), (13, aI i1264)]) (L' := []) (by kernel_rfl) (by kernel_rfl) ?_
                  refine seqQ_norm ?_
                  refine W_seq (by kernel_rfl) ?_
                  refine W_block (id := 5) (by kernel_rfl) ?_
                  obtain ⟨v1270, h1271, h⟩ := bind_of h
                  obtain ⟨v1272, h1273, h⟩ := bind_of h
                  obtain ⟨v1274, h1275, h⟩ := bind_of h
                  refine W_draw2 17 [(7, .val (.dat (.slice tI) v900)), (13, .val (.dat tI v1270)), (21, .val (.dat (.slice tI) v1272)), (27, .val (.dat tI v1274))] [] [0, 1, 2, 3, 9, 10, 11, 12, 13] [] (fr' := [(0, aD (.slice (.slice tI)) a0), (1, aD (.slice (.slice tI)) a1), (2, aD (.slice (.slice tI)) a2), (3, aI a3), (9, aI (List.length a0 : Int)), (10, aI i897), (11, aI (w64 (x1265 + (w64 (v1270 * v1274))))), (12, aI i1157), (13, aI i1264)]) (L' := []) (out := [(35, aI x1265), (36, aD (.slice (.slice tI)) a0), (37, aI i897), (38, .one (.dptr (.slice tI) v900)), (39, aD (.slice tI) v900), (40, aI i1264), (41, .one (.dptr tI v1270)), (42, aI v1270), (43, aD (.slice (.slice tI)) a1), (44, aI i1264), (45, .one (.dptr (.slice tI) v1272)), (46, aD (.slice tI) v1272), (47, aI i1157), (48, .one (.dptr tI v1274)), (49, aI v1274), (50, aI (w64 (v1270 * v1274))), (51, aI (w64 (x1265 + (w64 (v1270 * v1274)))))]) (obs := [Idx a0 i897 v900, Idx v900 i1264 v1270, Idx a1 i1264 v1272, Idx v1272 i1157 v1274]) (obs2 := []) (calls := []) (by kernel_rfl) (by kernel_rfl) (by kernel_rfl) (by kernel_rfl) (allP2 (Idx.of h901) (allP2 (Idx.of h1271) (allP2 (Idx.of h1273) (allP1 (Idx.of h1275))))) allC0 (by kernel_rfl) allP0 ?_
                  refine blockQ_norm ?_
                  refine seqQ_norm ?_
                  obtain rfl := Option.some.inj h
                  refine W_run 3 [] [0, 1, 2, 3, 9, 10, 11, 12, 13] [] (fr' := [(0, aD (.slice (.slice tI)) a0), (1, aD (.slice (.slice tI)) a1), (2, aD (.slice (.slice tI)) a2), (3, aI a3), (9, aI (List.length a0 : Int)), (10, aI i897), (11, aI (w64 (x1265 + (w64 (v1270 * v1274))))), (12, aI i1157), (13, aI (w64 (i1264 + (1 : Int))))]) (L' := []) (obs := []) (by kernel_rfl) (by kernel_rfl) (by kernel_rfl) allP0 ?_
                  exact round_next' (by kernel_rfl) (by kernel_rfl)
                · obtain rfl := stepL_false h1269 h
                  refine W_exit (id := 4) [0, 1, 2, 3, 9, 10, 11, 12] [] (fr' := [(0, aD (.slice (.slice tI)) a0), (1, aD (.slice (.slice tI)) a1), (2, aD (.slice (.slice tI)) a2), (3, aI a3), (9, aI (List.length a0 : Int)), (10, aI i897), (11, aI x1265), (12, aI i1157)]) (L' := []) (by kernel_rfl) (by kernel_rfl) ?_
                  refine seqQ_exit ?_
                  refine round_exit ?_
                  exact exQ_mk (by kernel_rfl) (by kernel_rfl)
              · intro e fr L hJ
                obtain ⟨rfl, rfl, rfl⟩ := hJ
                refine LT_keep [0, 1, 2, 3, 9, 10, 11, 12] [] (fr' := [(0, aD (.slice (.slice tI)) a0), (1, aD (.slice (.slice tI)) a1), (2, aD (.slice (.slice tI)) a2), (3, aI a3), (9, aI (List.length a0 : Int)), (10, aI i897), (11, aI v1277), (12, aI i1157)]) (L' := []) (by kernel_rfl) ?_
                refine blockQ_hit ?_
                refine seqQ_norm ?_
                obtain ⟨v1282, h1283, h⟩ := bind_of h
                obtain ⟨v1284, h1285, h⟩ := bind_of h
                obtain rfl := Option.some.inj h
                refine W_run 11 [(9, .val (.dat (.slice tI) v1282)), (15, .val (.dat tI v1284))] [0, 1, 2, 3, 9, 10, 11, 12] [] (fr' := [(0, aD (.slice (.slice tI)) a0), (1, aD (.slice (.slice tI)) a1), (2, aD (.slice (.slice tI)) a2), (3, aI a3), (9, aI (List.length a0 : Int)), (10, aI i897), (11, aI (w64 ((w64 (v1277 + (7 : Int))) - v1284))), (12, aI i1157)]) (L' := []) (obs := [Idx a2 i897 v1282, Idx v1282 i1157 v1284]) (by kernel_rfl) (by kernel_rfl) (by kernel_rfl) (allP2 (Idx.of h1283) (allP1 (Idx.of h1285))) ?_
                refine blockQ_norm ?_
                exact exQ_mk (by kernel_rfl) (by kernel_rfl)
          · intro e fr L hJ
            obtain ⟨rfl, rfl, rfl⟩ := hJ
            refine LT_keep [0, 1, 2, 3, 9, 10, 11, 12] [] (fr' := [(0, aD (.slice (.slice tI)) a0), (1, aD (.slice (.slice tI)) a1), (2, aD (.slice (.slice tI)) a2), (3, aI a3), (9, aI (List.length a0 : Int)), (10, aI i897), (11, aI v1286), (12, aI i1157)]) (L' := []) (by kernel_rfl) ?_
            refine seqQ_norm ?_
            obtain rfl := Option.some.inj h
            refine W_run 3 [] [0, 1, 2, 3, 9, 10, 11, 12] [] (fr' := [(0, aD (.slice (.slice tI)) a0), (1, aD (.slice (.slice tI)) a1), (2, aD (.slice (.slice tI)) a2), (3, aI a3), (9, aI (List.length a0 : Int)), (10, aI i897), (11, aI v1286), (12, aI (w64 (i1157 + (1 : Int))))]) (L' := []) (obs := []) (by kernel_rfl) (by kernel_rfl) (by kernel_rfl) allP0 ?_
            exact round_next' (by kernel_rfl) (by kernel_rfl)
        · obtain rfl := stepL_false h1162 h
          refine W_exit (id := 2) [0, 1, 2, 3, 9, 10, 11] [] (fr' := [(0, aD (.slice (.slice tI)) a0), (1, aD (.slice (.slice tI)) a1), (2, aD (.slice (.slice tI)) a2), (3, aI a3), (9, aI (List.length a0 : Int)), (10, aI i897), (11, aI x1158)]) (L' := []) (by kernel_rfl) (by kernel_rfl) ?_
          refine seqQ_exit ?_
          refine round_exit ?_
          exact exQ_mk (by kernel_rfl) (by kernel_rfl)
      · intro e fr L hJ
        obtain ⟨rfl, rfl, rfl⟩ := hJ
        refine LT_keep [0, 1, 2, 3, 9, 10, 11] [] (fr' := [(0, aD (.slice (.slice tI)) a0), (1, aD (.slice (.slice tI)) a1), (2, aD (.slice (.slice tI)) a2), (3, aI a3), (9, aI (List.length a0 : Int)), (10, aI i897), (11, aI v1289)]) (L' := []) (by kernel_rfl) ?_
        refine blockQ_hit ?_
        refine seqQ_norm ?_
        refine W_seq (by kernel_rfl) ?_
        refine W_run 3 [] [0, 1, 2, 3, 9, 10, 64] [] (fr' := [(0, aD (.slice (.slice tI)) a0), (1, aD (.slice (.slice tI)) a1), (2, aD (.slice (.slice tI)) a2), (3, aI a3), (9, aI (List.length a0 : Int)), (10, aI i897), (64, aB ((Int.tmod v1289 (7 : Int)) != (0 : Int)))]) (L' := []) (obs := [((7 : Int) ≠ 0)]) (by kernel_rfl) (by kernel_rfl) (by kernel_rfl) (allP1 (by decide)) ?_
        refine seqQ_norm ?_
        refine W_cond (o := .tmp 64) (b := (Int.tmod v1289 (7 : Int)) != (0 : Int)) (by kernel_rfl) (by kernel_rfl) (fun h1294 => ?_) (fun h1294 => ?_)
        · replace h := ofT h1294 h
          refine W_seq (by kernel_rfl) ?_
          refine W_run 1 [] [8] [] (fr' := [(8, aB false)]) (L' := []) (obs := []) (by kernel_rfl) (by kernel_rfl) (by kernel_rfl) allP0 ?_
          refine seqQ_norm ?_
          obtain rfl := Option.some.inj h
          refine W_ret [8] [] (fr' := [(8, aB false)]) (L' := []) (by kernel_rfl) (by kernel_rfl) ?_
          refine blockQ_ret ?_
          refine seqQ_ret ?_
          refine round_ret ?_
          refine escQ_ret ?_
          exact exQ_mk (by kernel_rfl) (by kernel_rfl)
        · replace h := ofF h1294 h
          refine W_skip [0, 1, 2, 3, 9, 10] [] (fr' := [(0, aD (.slice (.slice tI)) a0), (1, aD (.slice (.slice tI)) a1), (2, aD (.slice (.slice tI)) a2), (3, aI a3), (9, aI (List.length a0 : Int)), (10, aI i897)]) (L' := []) (by kernel_rfl) (by kernel_rfl) ?_
          refine blockQ_norm ?_
          refine seqQ_norm ?_
          obtain rfl := Option.some.inj h
          refine W_run 3 [] [0, 1, 2, 3, 9, 10] [] (fr' := [(0, aD (.slice (.slice tI)) a0), (1, aD (.slice (.slice tI)) a1), (2, aD (.slice (.slice tI)) a2), (3, aI a3), (9, aI (List.length a0 : Int)), (10, aI (w64 (i897 + (1 : Int))))]) (L' := []) (obs := []) (by kernel_rfl) (by kernel_rfl) (by kernel_rfl) allP0 ?_
          exact round_next' (by kernel_rfl) (by kernel_rfl)
    · obtain rfl := stepL_false h902 h
      refine W_exit (id := 0) [] [] (fr' := []) (L' := []) (by kernel_rfl) (by kernel_rfl) ?_
      refine seqQ_exit ?_
      refine round_exit ?_
      refine escQ_brk ?_
      exact exQ_mk (by kernel_rfl) (by kernel_rfl)
  · intro e fr L hJ
    rcases v1296 with v1301 | v1302
    · obtain ⟨rfl, rfl, rfl⟩ := hJ
      obtain rfl := Option.some.inj h
      refine LT_keep [8] [] (fr' := [(8, aB v1301)]) (L' := []) (by kernel_rfl) ?_
      refine blockQ_ret ?_
      refine seqQ_ret ?_
      exact retQ_mk (by kernel_rfl) (by kernel_rfl) (by kernel_rfl)
    · obtain ⟨rfl, rfl, rfl⟩ := hJ
      refine LT_keep [] [] (fr' := []) (L' := []) (by kernel_rfl) ?_
      refine blockQ_hit ?_
      refine seqQ_norm ?_
      refine W_seq (by kernel_rfl) ?_
      refine W_run 1 [] [8] [] (fr' := [(8, aB true)]) (L' := []) (obs := []) (by kernel_rfl) (by kernel_rfl) (by kernel_rfl) allP0 ?_
      refine seqQ_norm ?_
      obtain rfl := Option.some.inj h
      refine W_ret [8] [] (fr' := [(8, aB true)]) (L' := []) (by kernel_rfl) (by kernel_rfl) ?_
      exact retQ_mk (by kernel_rfl) (by kernel_rfl) (by kernel_rfl)

@[reducible] def law_GuessWrongs_s3 (a0 : (List (List Int))) (a1 : (List (List Int))) (a2 : (List (List Int))) (r1 : (Int × Int)) (x20 : (Int × Int)) (v : Int) : Fr × LL := ([(0, aD (.slice (.slice tI)) a0), (1, aD (.slice (.slice tI)) a1), (2, aD (.slice (.slice tI)) a2), (7, aI r1.1), (8, aI r1.2), (10, aI v), (11, aI x20.2)], [])
def law_GuessWrongs_b4 (a0 : (List (List Int))) (a1 : (List (List Int))) (a2 : (List (List Int))) (x20 : (Int × Int)) : Option (Flow (Int × Int) Int) :=
(ck (0 ≤ IntKind.wrap .u64 ((List.length a0 : Int)))).bind fun _ =>
bif decide (x20.2 < (bShl .i64 (1 : Int) (IntKind.wrap .u64 ((List.length a0 : Int))))) then
(((ref_Product a0 a1 a2 x20.2).bind fun r42 =>
bif !r42 then
(some (w64 (x20.1 + (1 : Int))))
else
(some x20.1)).bind fun v45 =>
some (.next (v45, w64 (x20.2 + (1 : Int)))))
else
(some (.done x20.1))
@[reducible] def law_GuessWrongs_s5 (a0 : (List (List Int))) (a1 : (List (List Int))) (a2 : (List (List Int))) (r1 : (Int × Int)) (v : (Int × Int)) : Fr × LL := ([(0, aD (.slice (.slice tI)) a0), (1, aD (.slice (.slice tI)) a1), (2, aD (.slice (.slice tI)) a2), (7, aI r1.1), (8, aI r1.2), (10, aI v.1), (11, aI v.2)], [])
@[reducible] def law_GuessWrongs_s6 (r1 : (Int × Int)) (v : Int) : Fr × LL := ([(7, aI r1.1), (8, aI r1.2), (10, aI v)], [])
def law_GuessWrongs (fuel : Nat) (a0 : (List (List Int))) (a1 : (List (List Int))) (a2 : (List (List Int))) : Option Bool :=
(guess_Wrong a0 a1 a2).bind fun r1 =>
(ref_SquaresCheck a0 a1 a2).bind fun r3 =>
bif r3 != (0 : Int) then
(some ((r1.2 == r3) && (r1.1 == (0 : Int))))
else
((iter (law_GuessWrongs_b4 a0 a1 a2) fuel ((0 : Int), (0 : Int))).bind fun v47 =>
some ((r1.2 == (0 : Int)) && (r1.1 == v47)))
theorem law_GuessWrongs_ok {fuel : Nat} {a0 : (List (List Int))} {a1 : (List (List Int))} {a2 : (List (List Int))} {r : Bool} (h : law_GuessWrongs fuel a0 a1 a2 = some r) : FnC Try.prog 8 [aD (.slice (.slice tI)) a0, aD (.slice (.slice tI)) a1, aD (.slice (.slice tI)) a2] [] (aB r) [] := by
  refine fnC_of_W (B := bodyOf Try.f8) (n := 55) Try.func8 (by kernel_rfl) (by kernel_rfl) (by kernel_rfl) (by kernel_rfl) (by kernel_rfl) ?_
  intro K
  refine W_seq (by kernel_rfl) ?_
  refine W_run 1 [] [0, 1, 2] [] (fr' := [(0, aD (.slice (.slice tI)) a0), (1, aD (.slice (.slice tI)) a1), (2, aD (.slice (.slice tI)) a2)]) (L' := []) (obs := []) (by kernel_rfl) (by kernel_rfl) (by kernel_rfl) allP0 ?_
  refine seqQ_norm ?_
  refine W_seq (by kernel_rfl) ?_
  refine W_region (by kernel_rfl) ?_
  refine WO_run (j := 3) (k := 3) (orcs := []) (kF := [0, 1, 2, 13, 14, 15]) (kL := []) (fr' := [(0, aD (.slice (.slice tI)) a0), (1, aD (.slice (.slice tI)) a1), (2, aD (.slice (.slice tI)) a2), (13, aD (.slice (.slice tI)) a0), (14, aD (.slice (.slice tI)) a1), (15, aD (.slice (.slice tI)) a2)]) (L' := []) (obs := []) rfl (by kernel_rfl) allP0 ?_
  obtain ⟨r1, h2, h⟩ := bind_of h
  refine WO_call0 (us := [none, none, none]) (d := 16) (p := True) (j := 4) rfl ⟨by kernel_rfl, by kernel_rfl, by kernel_rfl⟩ trivial (guess_Wrong_ok h2) (by kernel_rfl) ?_
  refine WO_run (j := 9) (k := 5) (orcs := []) (kF := [0, 1, 2, 7, 8]) (kL := []) (fr' := [(0, aD (.slice (.slice tI)) a0), (1, aD (.slice (.slice tI)) a1), (2, aD (.slice (.slice tI)) a2), (7, aI r1.1), (8, aI r1.2)]) (L' := []) (obs := []) rfl (by kernel_rfl) allP0 ?_
  refine WO_fin [0, 1, 2, 7, 8] [] (fr' := [(0, aD (.slice (.slice tI)) a0), (1, aD (.slice (.slice tI)) a1), (2, aD (.slice (.slice tI)) a2), (7, aI r1.1), (8, aI r1.2)]) (L' := []) (by kernel_rfl) (by kernel_rfl) ?_
  refine seqQ_norm ?_
  refine W_seq (by kernel_rfl) ?_
  refine W_region (by kernel_rfl) ?_
  refine WO_run (j := 3) (k := 3) (orcs := []) (kF := [0, 1, 2, 7, 8, 19, 20, 21]) (kL := []) (fr' := [(0, aD (.slice (.slice tI)) a0), (1, aD (.slice (.slice tI)) a1), (2, aD (.slice (.slice tI)) a2), (7, aI r1.1), (8, aI r1.2), (19, aD (.slice (.slice tI)) a0), (20, aD (.slice (.slice tI)) a1), (21, aD (.slice (.slice tI)) a2)]) (L' := []) (obs := []) rfl (by kernel_rfl) allP0 ?_
  obtain ⟨r3, h4, h⟩ := bind_of h
  refine WO_call0 (us := [none, none, none]) (d := 22) (p := True) (j := 4) rfl ⟨by kernel_rfl, by kernel_rfl, by kernel_rfl⟩ trivial (ref_SquaresCheck_ok h4) (by kernel_rfl) ?_
  refine WO_run (j := 5) (k := 1) (orcs := []) (kF := [0, 1, 2, 7, 8, 9]) (kL := []) (fr' := [(0, aD (.slice (.slice tI)) a0), (1, aD (.slice (.slice tI)) a1), (2, aD (.slice (.slice tI)) a2), (7, aI r1.1), (8, aI r1.2), (9, aI r3)]) (L' := []) (obs := []) rfl (by kernel_rfl) allP0 ?_
  refine WO_fin [0, 1, 2, 7, 8, 9] [] (fr' := [(0, aD (.slice (.slice tI)) a0), (1, aD (.slice (.slice tI)) a1), (2, aD (.slice (.slice tI)) a2), (7, aI r1.1), (8, aI r1.2), (9, aI r3)]) (L' := []) (by kernel_rfl) (by kernel_rfl) ?_
  refine seqQ_norm ?_
  refine W_seq (by kernel_rfl) ?_
  refine W_seq (by kernel_rfl) ?_
  refine W_run 2 [] [0, 1, 2, 7, 8, 9, 24] [] (fr' := [(0, aD (.slice (.slice tI)) a0), (1, aD (.slice (.slice tI)) a1), (2, aD (.slice (.slice tI)) a2), (7, aI r1.1), (8, aI r1.2), (9, aI r3), (24, aB (r3 != (0 : Int)))]) (L' := []) (obs := []) (by kernel_rfl) (by kernel_rfl) (by kernel_rfl) allP0 ?_
  refine seqQ_norm ?_
  refine W_cond (o := .tmp 24) (b := r3 != (0 : Int)) (by kernel_rfl) (by kernel_rfl) (fun h5 => ?_) (fun h5 => ?_)
  · replace h := ofT h5 h
    refine W_seq (by kernel_rfl) ?_
    refine W_run 8 [] [6] [] (fr' := [(6, aB ((r1.2 == r3) && (r1.1 == (0 : Int))))]) (L' := []) (obs := []) (by kernel_rfl) (by kernel_rfl) (by kernel_rfl) allP0 ?_
    refine seqQ_norm ?_
    obtain rfl := Option.some.inj h
    refine W_ret [6] [] (fr' := [(6, aB ((r1.2 == r3) && (r1.1 == (0 : Int))))]) (L' := []) (by kernel_rfl) (by kernel_rfl) ?_
    refine seqQ_ret ?_
    exact retQ_mk (by kernel_rfl) (by kernel_rfl) (by kernel_rfl)
  · replace h := ofF h5 h
    refine W_skip [0, 1, 2, 7, 8] [] (fr' := [(0, aD (.slice (.slice tI)) a0), (1, aD (.slice (.slice tI)) a1), (2, aD (.slice (.slice tI)) a2), (7, aI r1.1), (8, aI r1.2)]) (L' := []) (by kernel_rfl) (by kernel_rfl) ?_
    refine seqQ_norm ?_
    refine W_seq (by kernel_rfl) ?_
    refine W_run 1 [] [0, 1, 2, 7, 8, 10] [] (fr' := [(0, aD (.slice (.slice tI)) a0), (1, aD (.slice (.slice tI)) a1), (2, aD (.slice (.slice tI)) a2), (7, aI r1.1), (8, aI r1.2), (10, aI (0 : Int))]) (L' := []) (obs := []) (by kernel_rfl) (by kernel_rfl) (by kernel_rfl) allP0 ?_
    refine seqQ_norm ?_
    refine W_seq (by kernel_rfl) ?_
    refine W_seq (by kernel_rfl) ?_
    refine W_run 1 [] [0, 1, 2, 7, 8, 10, 11] [] (fr' := [(0, aD (.slice (.slice tI)) a0), (1, aD (.slice (.slice tI)) a1), (2, aD (.slice (.slice tI)) a2), (7, aI r1.1), (8, aI r1.2), (10, aI (0 : Int)), (11, aI (0 : Int))]) (L' := []) (obs := []) (by kernel_rfl) (by kernel_rfl) (by kernel_rfl) allP0 ?_
    refine seqQ_norm ?_
    refine W_block (id := 0) (by kernel_rfl) ?_
    obtain ⟨v47, h48, h⟩ := bind_of h
    refine W_weaken [0, 1, 2, 7, 8, 10, 11] [] (fr' := ((law_GuessWrongs_s5 a0 a1 a2 r1) ((0 : Int), (0 : Int))).1) (L' := ((law_GuessWrongs_s5 a0 a1 a2 r1) ((0 : Int), (0 : Int))).2) (by kernel_rfl) ?_
    refine W_cutK (W_loop (S := (law_GuessWrongs_s5 a0 a1 a2 r1)) (J := (exQ (.exit 0) (law_GuessWrongs_s6 r1))) (by kernel_rfl) ?_ fuel _ v47 h48) ?_
    · rintro x20 s h
      refine W_seq (by kernel_rfl) ?_
      refine W_seq (by kernel_rfl) ?_
      obtain ⟨_, h34, h⟩ := bind_of h
      replace h34 := ck_some h34
      refine W_run 6 [] [0, 1, 2, 7, 8, 10, 11, 37] [] (fr' := [(0, aD (.slice (.slice tI)) a0), (1, aD (.slice (.slice tI)) a1), (2, aD (.slice (.slice tI)) a2), (7, aI r1.1), (8, aI r1.2), (10, aI x20.1), (11, aI x20.2), (37, aB (decide (x20.2 < (bShl .i64 (1 : Int) (IntKind.wrap .u64 ((List.length a0 : Int)))))))]) (L' := []) (obs := [(0 ≤ IntKind.wrap .u64 ((List.length a0 : Int)))]) (by kernel_rfl) (by kernel_rfl) (by kernel_rfl) (allP1 h34) ?_
      refine seqQ_norm ?_
      refine W_cond (o := .tmp 37) (b := decide (x20.2 < (bShl .i64 (1 : Int) (IntKind.wrap .u64 ((List.length a0 : Int)))))) (by kernel_rfl) (by kernel_rfl) (fun h35 => ?_) (fun h35 => ?_)
      · replace h := ofT h35 h
        refine W_skip [0, 1, 2, 7, 8, 10, 11] [] (fr' := [(0, aD (.slice (.slice tI)) a0), (1, aD (.slice (.slice tI)) a1), (2, aD (.slice (.slice tI)) a2), (7, aI r1.1), (8, aI r1.2), (10, aI x20.1), (11, aI x20.2)]) (L' := []) (by kernel_rfl) (by kernel_rfl) ?_
        refine seqQ_norm ?_
        refine W_seq (by kernel_rfl) ?_
        obtain ⟨v45, h46, h⟩ := bind_of h
        refine W_cutK (Q' := (exQ .normal (law_GuessWrongs_s3 a0 a1 a2 r1 x20)) v45) ?_ ?_
        · replace h := h46
          refine W_block (id := 1) (by kernel_rfl) ?_
          refine W_seq (by kernel_rfl) ?_
          refine W_region (by kernel_rfl) ?_
          refine WO_run (j := 4) (k := 4) (orcs := []) (kF := [0, 1, 2, 7, 8, 10, 11, 40, 41, 42, 43]) (kL := []) (fr' := [(0, aD (.slice (.slice tI)) a0), (1, aD (.slice (.slice tI)) a1), (2, aD (.slice (.slice tI)) a2), (7, aI r1.1), (8, aI r1.2), (10, aI x20.1), (11, aI x20.2), (40, aD (.slice (.slice tI)) a0), (41, aD (.slice (.slice tI)) a1), (42, aD (.slice (.slice tI)) a2), (43, aI x20.2)]) (L' := []) (obs := []) rfl (by kernel_rfl) allP0 ?_
          obtain ⟨r42, h43, h⟩ := bind_of h
          refine WO_call0 (us := [none, none, none, none]) (d := 44) (p := True) (j := 5) rfl ⟨by kernel_rfl, by kernel_rfl, by kernel_rfl⟩ trivial (ref_Product_ok h43) (by kernel_rfl) ?_
          refine WO_run (j := 6) (k := 1) (orcs := []) (kF := [0, 1, 2, 7, 8, 10, 11, 45]) (kL := []) (fr' := [(0, aD (.slice (.slice tI)) a0), (1, aD (.slice (.slice tI)) a1), (2, aD (.slice (.slice tI)) a2), (7, aI r1.1), (8, aI r1.2), (10, aI x20.1), (11, aI x20.2), (45, aB (!r42))]) (L' := []) (obs := []) rfl (by kernel_rfl) allP0 ?_
          refine WO_fin [0, 1, 2, 7, 8, 10, 11, 45] [] (fr' := [(0, aD (.slice (.slice tI)) a0), (1, aD (.slice (.slice tI)) a1), (2, aD (.slice (.slice tI)) a2), (7, aI r1.1), (8, aI r1.2), (10, aI x20.1), (11, aI x20.2), (45, aB (!r42))]) (L' := []) (by kernel_rfl) (by kernel_rfl) ?_
          refine seqQ_norm ?_
          refine W_cond (o := .tmp 45) (b := !r42) (by kernel_rfl) (by kernel_rfl) (fun h44 => ?_) (fun h44 => ?_)
          · replace h := ofT h44 h
            obtain rfl := Option.some.inj h
            refine W_run 3 [] [0, 1, 2, 7, 8, 10, 11] [] (fr' := [(0, aD (.slice (.slice tI)) a0), (1, aD (.slice (.slice tI)) a1), (2, aD (.slice (.slice tI)) a2), (7, aI r1.1), (8, aI r1.2), (10, aI (w64 (x20.1 + (1 : Int)))), (11, aI x20.2)]) (L' := []) (obs := []) (by kernel_rfl) (by kernel_rfl) (by kernel_rfl) allP0 ?_
            refine blockQ_norm ?_
            exact exQ_mk (by kernel_rfl) (by kernel_rfl)
          · replace h := ofF h44 h
            obtain rfl := Option.some.inj h
            refine W_skip [0, 1, 2, 7, 8, 10, 11] [] (fr' := [(0, aD (.slice (.slice tI)) a0), (1, aD (.slice (.slice tI)) a1), (2, aD (.slice (.slice tI)) a2), (7, aI r1.1), (8, aI r1.2), (10, aI x20.1), (11, aI x20.2)]) (L' := []) (by kernel_rfl) (by kernel_rfl) ?_
            refine blockQ_norm ?_
            exact exQ_mk (by kernel_rfl) (by kernel_rfl)
        · intro e fr L hJ
          obtain ⟨rfl, rfl, rfl⟩ := hJ
          refine LT_keep [0, 1, 2, 7, 8, 10, 11] [] (fr' := [(0, aD (.slice (.slice tI)) a0), (1, aD (.slice (.slice tI)) a1), (2, aD (.slice (.slice tI)) a2), (7, aI r1.1), (8, aI r1.2), (10, aI v45), (11, aI x20.2)]) (L' := []) (by kernel_rfl) ?_
          refine seqQ_norm ?_
          obtain rfl := Option.some.inj h
          refine W_run 3 [] [0, 1, 2, 7, 8, 10, 11] [] (fr' := [(0, aD (.slice (.slice tI)) a0), (1, aD (.slice (.slice tI)) a1), (2, aD (.slice (.slice tI)) a2), (7, aI r1.1), (8, aI r1.2), (10, aI v45), (11, aI (w64 (x20.2 + (1 : Int))))]) (L' := []) (obs := []) (by kernel_rfl) (by kernel_rfl) (by kernel_rfl) allP0 ?_
          exact round_next' (by kernel_rfl) (by kernel_rfl)
      · replace h := ofF h35 h
        obtain rfl := Option.some.inj h
        refine W_exit (id := 0) [7, 8, 10] [] (fr' := [(7, aI r1.1), (8, aI r1.2), (10, aI x20.1)]) (L' := []) (by kernel_rfl) (by kernel_rfl) ?_
        refine seqQ_exit ?_
        refine round_exit ?_
        exact exQ_mk (by kernel_rfl) (by kernel_rfl)
    · intro e fr L hJ
      obtain ⟨rfl, rfl, rfl⟩ := hJ
      refine LT_keep [7, 8, 10] [] (fr' := [(7, aI r1.1), (8, aI r1.2), (10, aI v47)]) (L' := []) (by kernel_rfl) ?_
      refine blockQ_hit ?_
      refine seqQ_norm ?_
      refine W_seq (by kernel_rfl) ?_
      refine W_run 8 [] [6] [] (fr' := [(6, aB ((r1.2 == (0 : Int)) && (r1.1 == v47)))]) (L' := []) (obs := []) (by kernel_rfl) (by kernel_rfl) (by kernel_rfl) allP0 ?_
      refine seqQ_norm ?_
      obtain rfl := Option.some.inj h
      refine W_ret [6] [] (fr' := [(6, aB ((r1.2 == (0 : Int)) && (r1.1 == v47)))]) (L' := []) (by kernel_rfl) (by kernel_rfl) ?_
      exact retQ_mk (by kernel_rfl) (by kernel_rfl) (by kernel_rfl)
end Go.Proofs.Ytbicjcdenfcojaa.guessWrongs
