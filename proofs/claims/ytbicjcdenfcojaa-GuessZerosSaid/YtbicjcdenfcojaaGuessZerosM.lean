/- What the functions that GuessZeros calls compute, as models, and that they compute it: written by a program of mine. -/
import Derived.Test.YtbicjcdenfcojaaProg
import Derived.Test.YtbicjcdenfcojaaSl5
set_option linter.all false
set_option maxRecDepth 100000
namespace Go.Proofs.Ytbicjcdenfcojaa.guessZeros
open Go Go.Sl
noncomputable def guess_Zeros_1 (a0 : (Int × (List Int))) (c0 : Int) : Option Bool :=
some ((List.length a0.2 : Int) != c0)
theorem guess_Zeros_1_ok {a0 : (Int × (List Int))} {c0 : Int} {r : Bool} (h : guess_Zeros_1 a0 c0 = some r) : FnC Try.prog 42 [aD (.pair tI (.slice tI)) a0, .one (.ptr 1000 0)] [(1000, .cells [.dat tI c0])] (aB r) [(1000, .cells [.dat tI c0])] := by
  refine fnC_of_W (B := bodyOf Try.f42) (n := 9) Try.func42 (by kernel_rfl) (by kernel_rfl) (by kernel_rfl) (by kernel_rfl) (by kernel_rfl) ?_
  intro K
  refine W_seq (by kernel_rfl) ?_
  refine W_run 2 [] [1, 2] [1000, 2] (fr' := [(1, .one (.ptr 1000 0)), (2, .one (.ptr 2 0))]) (L' := [(1000, .cells [.dat tI c0]), (2, .one (.pair tI (.slice tI)) a0)]) (obs := []) (by kernel_rfl) (by kernel_rfl) (by kernel_rfl) allP0 ?_
  refine seqQ_norm ?_
  refine W_seq (by kernel_rfl) ?_
  refine W_run 6 [] [3] [1000] (fr' := [(3, aB ((List.length a0.2 : Int) != c0))]) (L' := [(1000, .cells [.dat tI c0])]) (obs := []) (by kernel_rfl) (by kernel_rfl) (by kernel_rfl) allP0 ?_
  refine seqQ_norm ?_
  obtain rfl := Option.some.inj h
  refine W_ret [3] [1000] (fr' := [(3, aB ((List.length a0.2 : Int) != c0))]) (L' := [(1000, .cells [.dat tI c0])]) (by kernel_rfl) (by kernel_rfl) ?_
  exact retQ_mk (by kernel_rfl) (by kernel_rfl) (by kernel_rfl)

noncomputable def slices_IndexFunc_LapiTermapiTerm_with_guess_Zeros_1_b1 (c0 : Int) (i15 : Int) (v18 : (Int × (List Int))) (x16 : Unit) : Option (Flow Unit (Esc Int Unit)) :=
(guess_Zeros_1 v18 c0).bind fun r21 =>
bif r21 then
(some (.done (.ret i15)))
else
(some (.next ()))
@[reducible] def slices_IndexFunc_LapiTermapiTerm_with_guess_Zeros_1_s2 (a0 : (List (Int × (List Int)))) (c0 : Int) (v : Int × Unit) : Fr × LL := ([(0, aD (.slice (.pair tI (.slice tI))) a0), (1, .one (.fn 42 [(1000, 0)])), (7, aI (List.length a0 : Int)), (8, aI v.1)], [(1000, .cells [.dat tI c0])])
@[reducible] def slices_IndexFunc_LapiTermapiTerm_with_guess_Zeros_1_s3 (c0 : Int) (v : Int) : Fr × LL := ([(4, aI v)], [(1000, .cells [.dat tI c0])])
@[reducible] def slices_IndexFunc_LapiTermapiTerm_with_guess_Zeros_1_s4 (c0 : Int) (v : Unit) : Fr × LL := ([], [(1000, .cells [.dat tI c0])])
noncomputable def slices_IndexFunc_LapiTermapiTerm_with_guess_Zeros_1 (a0 : (List (Int × (List Int)))) (c0 : Int) : Option Int :=
(forL (slices_IndexFunc_LapiTermapiTerm_with_guess_Zeros_1_b1 c0) (fun x16 => (.brk ())) a0 0 ()).bind fun v25 =>
match v25 with
| .ret v30 =>
(some v30)
| .brk v31 =>
(some (-1 : Int))
theorem slices_IndexFunc_LapiTermapiTerm_with_guess_Zeros_1_ok {a0 : (List (Int × (List Int)))} {c0 : Int} {r : Int} (h : slices_IndexFunc_LapiTermapiTerm_with_guess_Zeros_1 a0 c0 = some r) : FnC Try.prog 57 [aD (.slice (.pair tI (.slice tI))) a0, .one (.fn 42 [(1000, 0)])] [(1000, .cells [.dat tI c0])] (aI r) [(1000, .cells [.dat tI c0])] := by
  refine fnC_of_W (B := bodyOf Try.f57) (n := 19) Try.func57 (by kernel_rfl) (by kernel_rfl) (by kernel_rfl) (by kernel_rfl) (by kernel_rfl) ?_
  intro K
  refine W_seq (by kernel_rfl) ?_
  refine W_run 1 [] [0, 1] [1000] (fr' := [(0, aD (.slice (.pair tI (.slice tI))) a0), (1, .one (.fn 42 [(1000, 0)]))]) (L' := [(1000, .cells [.dat tI c0])]) (obs := []) (by kernel_rfl) (by kernel_rfl) (by kernel_rfl) allP0 ?_
  refine seqQ_norm ?_
  refine W_seq (by kernel_rfl) ?_
  refine W_seq (by kernel_rfl) ?_
  refine W_run 3 [] [0, 1, 7, 8] [1000] (fr' := [(0, aD (.slice (.pair tI (.slice tI))) a0), (1, .one (.fn 42 [(1000, 0)])), (7, aI (List.length a0 : Int)), (8, aI (0 : Int))]) (L' := [(1000, .cells [.dat tI c0])]) (obs := []) (by kernel_rfl) (by kernel_rfl) (by kernel_rfl) allP0 ?_
  refine seqQ_norm ?_
  refine W_block (id := 0) (by kernel_rfl) ?_
  obtain ⟨v25, h26, h⟩ := bind_of h
  refine W_len (t := 0) (u := (.pair tI (.slice tI))) (xs := a0) (by kernel_rfl) (fun h29 => ?_)
  obtain ⟨h27, h28⟩ := forL_iter h29 h26
  refine W_weaken [0, 1, 7, 8] [1000] (fr' := ((slices_IndexFunc_LapiTermapiTerm_with_guess_Zeros_1_s2 a0 c0) ((0 : Int), ())).1) (L' := ((slices_IndexFunc_LapiTermapiTerm_with_guess_Zeros_1_s2 a0 c0) ((0 : Int), ())).2) (by kernel_rfl) ?_
  refine W_cutK (W_loop (S := (slices_IndexFunc_LapiTermapiTerm_with_guess_Zeros_1_s2 a0 c0)) (J := (escQ (exQ .ret (slices_IndexFunc_LapiTermapiTerm_with_guess_Zeros_1_s3 c0)) (exQ (.exit 0) (slices_IndexFunc_LapiTermapiTerm_with_guess_Zeros_1_s4 c0)))) (by kernel_rfl) ?_ h27 _ v25 h28) ?_
  · rintro ⟨i15, x16⟩ s h
    refine W_seq (by kernel_rfl) ?_
    refine W_run 1 [] [0, 1, 7, 8, 9] [1000] (fr' := [(0, aD (.slice (.pair tI (.slice tI))) a0), (1, .one (.fn 42 [(1000, 0)])), (7, aI (List.length a0 : Int)), (8, aI i15), (9, aB (decide (i15 < (List.length a0 : Int))))]) (L' := [(1000, .cells [.dat tI c0])]) (obs := []) (by kernel_rfl) (by kernel_rfl) (by kernel_rfl) allP0 ?_
    refine seqQ_norm ?_
    refine W_seq (by kernel_rfl) ?_
    refine W_cond (o := .tmp 9) (b := decide (i15 < (List.length a0 : Int))) (by kernel_rfl) (by kernel_rfl) (fun h20 => ?_) (fun h20 => ?_)
    · replace h := stepL_true h20 h
      obtain ⟨v18, _, h19, h, rfl⟩ := h
      refine W_skip [0, 1, 7, 8] [1000] (fr' := [(0, aD (.slice (.pair tI (.slice tI))) a0), (1, .one (.fn 42 [(1000, 0)])), (7, aI (List.length a0 : Int)), (8, aI i15)]) (L' := [(1000, .cells [.dat tI c0])]) (by kernel_rfl) (by kernel_rfl) ?_
      refine seqQ_norm ?_
      refine W_seq (by kernel_rfl) ?_
      refine W_block (id := 1) (by kernel_rfl) ?_
      refine W_seq (by kernel_rfl) ?_
      refine W_run 2 [] [0, 1, 5, 7, 8] [1000] (fr' := [(0, aD (.slice (.pair tI (.slice tI))) a0), (1, .one (.fn 42 [(1000, 0)])), (5, aI i15), (7, aI (List.length a0 : Int)), (8, aI i15)]) (L' := [(1000, .cells [.dat tI c0])]) (obs := []) (by kernel_rfl) (by kernel_rfl) (by kernel_rfl) allP0 ?_
      refine seqQ_norm ?_
      refine W_seq (by kernel_rfl) ?_
      refine W_region (by kernel_rfl) ?_
      refine WO_run (j := 5) (k := 5) (orcs := [(7, .val (.dat (.pair tI (.slice tI)) v18))]) (kF := [0, 1, 5, 7, 8, 11, 15]) (kL := [1000]) (fr' := [(0, aD (.slice (.pair tI (.slice tI))) a0), (1, .one (.fn 42 [(1000, 0)])), (5, aI i15), (7, aI (List.length a0 : Int)), (8, aI i15), (11, .one (.fn 42 [(1000, 0)])), (15, aD (.pair tI (.slice tI)) v18)]) (L' := [(1000, .cells [.dat tI c0])]) (obs := [Idx a0 i15 v18]) rfl (by kernel_rfl) (allP1 (Idx.of h19)) ?_
      obtain ⟨r21, h22, h⟩ := bind_of h
      refine WO_lend [(1000, 1000)] (us := [none, none]) (d := 16) (p := True) (j := 6) rfl ⟨by kernel_rfl, by kernel_rfl, by kernel_rfl⟩ trivial (guess_Zeros_1_ok h22) (by kernel_rfl) (by kernel_rfl) ?_
      refine WO_fin [0, 1, 5, 7, 8, 16] [1000] (fr' := [(0, aD (.slice (.pair tI (.slice tI))) a0), (1, .one (.fn 42 [(1000, 0)])), (5, aI i15), (7, aI (List.length a0 : Int)), (8, aI i15), (16, aB r21)]) (L' := [(1000, .cells [.dat tI c0])]) (by kernel_rfl) (by kernel_rfl) ?_
      refine seqQ_norm ?_
      refine W_cond (o := .tmp 16) (b := r21) (by kernel_rfl) (by kernel_rfl) (fun h23 => ?_) (fun h23 => ?_)
      · replace h := ofT h23 h
        refine W_seq (by kernel_rfl) ?_
        refine W_run 2 [] [4] [1000] (fr' := [(4, aI i15)]) (L' := [(1000, .cells [.dat tI c0])]) (obs := []) (by kernel_rfl) (by kernel_rfl) (by kernel_rfl) allP0 ?_
        refine seqQ_norm ?_
        obtain rfl := Option.some.inj h
        refine W_ret [4] [1000] (fr' := [(4, aI i15)]) (L' := [(1000, .cells [.dat tI c0])]) (by kernel_rfl) (by kernel_rfl) ?_
        refine blockQ_ret ?_
        refine seqQ_ret ?_
        refine round_ret ?_
        refine escQ_ret ?_
        exact exQ_mk (by kernel_rfl) (by kernel_rfl)
      · replace h := ofF h23 h
        refine W_skip [0, 1, 7, 8] [1000] (fr' := [(0, aD (.slice (.pair tI (.slice tI))) a0), (1, .one (.fn 42 [(1000, 0)])), (7, aI (List.length a0 : Int)), (8, aI i15)]) (L' := [(1000, .cells [.dat tI c0])]) (by kernel_rfl) (by kernel_rfl) ?_
        refine blockQ_norm ?_
        refine seqQ_norm ?_
        obtain rfl := Option.some.inj h
        refine W_run 2 [] [0, 1, 7, 8] [1000] (fr' := [(0, aD (.slice (.pair tI (.slice tI))) a0), (1, .one (.fn 42 [(1000, 0)])), (7, aI (List.length a0 : Int)), (8, aI (w64 (i15 + (1 : Int))))]) (L' := [(1000, .cells [.dat tI c0])]) (obs := []) (by kernel_rfl) (by kernel_rfl) (by kernel_rfl) allP0 ?_
        exact round_next' (by kernel_rfl) (by kernel_rfl)
    · obtain rfl := stepL_false h20 h
      refine W_exit (id := 0) [] [1000] (fr' := []) (L' := [(1000, .cells [.dat tI c0])]) (by kernel_rfl) (by kernel_rfl) ?_
      refine seqQ_exit ?_
      refine round_exit ?_
      refine escQ_brk ?_
      exact exQ_mk (by kernel_rfl) (by kernel_rfl)
  · intro e fr L hJ
    rcases v25 with v30 | v31
    · obtain ⟨rfl, rfl, rfl⟩ := hJ
      obtain rfl := Option.some.inj h
      refine LT_keep [4] [1000] (fr' := [(4, aI v30)]) (L' := [(1000, .cells [.dat tI c0])]) (by kernel_rfl) ?_
      refine blockQ_ret ?_
      refine seqQ_ret ?_
      exact retQ_mk (by kernel_rfl) (by kernel_rfl) (by kernel_rfl)
    · obtain ⟨rfl, rfl, rfl⟩ := hJ
      refine LT_keep [] [1000] (fr' := []) (L' := [(1000, .cells [.dat tI c0])]) (by kernel_rfl) ?_
      refine blockQ_hit ?_
      refine seqQ_norm ?_
      refine W_seq (by kernel_rfl) ?_
      refine W_run 1 [] [4] [1000] (fr' := [(4, aI (-1 : Int))]) (L' := [(1000, .cells [.dat tI c0])]) (obs := []) (by kernel_rfl) (by kernel_rfl) (by kernel_rfl) allP0 ?_
      refine seqQ_norm ?_
      obtain rfl := Option.some.inj h
      refine W_ret [4] [1000] (fr' := [(4, aI (-1 : Int))]) (L' := [(1000, .cells [.dat tI c0])]) (by kernel_rfl) (by kernel_rfl) ?_
      exact retQ_mk (by kernel_rfl) (by kernel_rfl) (by kernel_rfl)

noncomputable def slices_ContainsFunc_LapiTermapiTerm_with_guess_Zeros_1 (a0 : (List (Int × (List Int)))) (c0 : Int) : Option Bool :=
(slices_IndexFunc_LapiTermapiTerm_with_guess_Zeros_1 a0 c0).bind fun r1 =>
some (decide (r1 ≥ (0 : Int)))
theorem slices_ContainsFunc_LapiTermapiTerm_with_guess_Zeros_1_ok {a0 : (List (Int × (List Int)))} {c0 : Int} {r : Bool} (h : slices_ContainsFunc_LapiTermapiTerm_with_guess_Zeros_1 a0 c0 = some r) : FnC Try.prog 41 [aD (.slice (.pair tI (.slice tI))) a0, .one (.fn 42 [(1000, 0)])] [(1000, .cells [.dat tI c0])] (aB r) [(1000, .cells [.dat tI c0])] := by
  refine fnC_of_W (B := bodyOf Try.f41) (n := 9) Try.func41 (by kernel_rfl) (by kernel_rfl) (by kernel_rfl) (by kernel_rfl) (by kernel_rfl) ?_
  intro K
  refine W_seq (by kernel_rfl) ?_
  refine W_run 1 [] [0, 1] [1000] (fr' := [(0, aD (.slice (.pair tI (.slice tI))) a0), (1, .one (.fn 42 [(1000, 0)]))]) (L' := [(1000, .cells [.dat tI c0])]) (obs := []) (by kernel_rfl) (by kernel_rfl) (by kernel_rfl) allP0 ?_
  refine seqQ_norm ?_
  refine W_seq (by kernel_rfl) ?_
  refine W_region (by kernel_rfl) ?_
  refine WO_run (j := 2) (k := 2) (orcs := []) (kF := [5, 6]) (kL := [1000]) (fr' := [(5, aD (.slice (.pair tI (.slice tI))) a0), (6, .one (.fn 42 [(1000, 0)]))]) (L' := [(1000, .cells [.dat tI c0])]) (obs := []) rfl (by kernel_rfl) allP0 ?_
  obtain ⟨r1, h2, h⟩ := bind_of h
  refine WO_lend [(1000, 1000)] (us := [none, none]) (d := 7) (p := True) (j := 3) rfl ⟨by kernel_rfl, by kernel_rfl, by kernel_rfl⟩ trivial (slices_IndexFunc_LapiTermapiTerm_with_guess_Zeros_1_ok h2) (by kernel_rfl) (by kernel_rfl) ?_
  refine WO_run (j := 5) (k := 2) (orcs := []) (kF := [4]) (kL := [1000]) (fr' := [(4, aB (decide (r1 ≥ (0 : Int))))]) (L' := [(1000, .cells [.dat tI c0])]) (obs := []) rfl (by kernel_rfl) allP0 ?_
  refine WO_fin [4] [1000] (fr' := [(4, aB (decide (r1 ≥ (0 : Int))))]) (L' := [(1000, .cells [.dat tI c0])]) (by kernel_rfl) (by kernel_rfl) ?_
  refine seqQ_norm ?_
  obtain rfl := Option.some.inj h
  refine W_ret [4] [1000] (fr' := [(4, aB (decide (r1 ≥ (0 : Int))))]) (L' := [(1000, .cells [.dat tI c0])]) (by kernel_rfl) (by kernel_rfl) ?_
  exact retQ_mk (by kernel_rfl) (by kernel_rfl) (by kernel_rfl)

noncomputable def guess_Zeros_2 (a0 : Int) : Option Bool :=
some ((decide (a0 < (0 : Int))) || (decide (a0 > (8 : Int))))
theorem guess_Zeros_2_ok {a0 : Int} {r : Bool} (h : guess_Zeros_2 a0 = some r) : FnC Try.prog 43 [aI a0] [] (aB r) [] := by
  refine fnC_of_W (B := bodyOf Try.f43) (n := 9) Try.func43 (by kernel_rfl) (by kernel_rfl) (by kernel_rfl) (by kernel_rfl) (by kernel_rfl) ?_
  intro K
  refine W_seq (by kernel_rfl) ?_
  refine W_run 1 [] [0] [] (fr' := [(0, aI a0)]) (L' := []) (obs := []) (by kernel_rfl) (by kernel_rfl) (by kernel_rfl) allP0 ?_
  refine seqQ_norm ?_
  refine W_seq (by kernel_rfl) ?_
  refine W_run 7 [] [2] [] (fr' := [(2, aB ((decide (a0 < (0 : Int))) || (decide (a0 > (8 : Int)))))]) (L' := []) (obs := []) (by kernel_rfl) (by kernel_rfl) (by kernel_rfl) allP0 ?_
  refine seqQ_norm ?_
  obtain rfl := Option.some.inj h
  refine W_ret [2] [] (fr' := [(2, aB ((decide (a0 < (0 : Int))) || (decide (a0 > (8 : Int)))))]) (L' := []) (by kernel_rfl) (by kernel_rfl) ?_
  exact retQ_mk (by kernel_rfl) (by kernel_rfl) (by kernel_rfl)

noncomputable def slices_IndexFunc_Lintint_with_guess_Zeros_2_b1 (i15 : Int) (v18 : Int) (x16 : Unit) : Option (Flow Unit (Esc Int Unit)) :=
(guess_Zeros_2 v18).bind fun r21 =>
bif r21 then
(some (.done (.ret i15)))
else
(some (.next ()))
@[reducible] def slices_IndexFunc_Lintint_with_guess_Zeros_2_s2 (a0 : (List Int)) (v : Int × Unit) : Fr × LL := ([(0, aD (.slice tI) a0), (1, .one (.fn 43 [])), (7, aI (List.length a0 : Int)), (8, aI v.1)], [])
@[reducible] def slices_IndexFunc_Lintint_with_guess_Zeros_2_s3 (v : Int) : Fr × LL := ([(4, aI v)], [])
@[reducible] def slices_IndexFunc_Lintint_with_guess_Zeros_2_s4 (v : Unit) : Fr × LL := ([], [])
noncomputable def slices_IndexFunc_Lintint_with_guess_Zeros_2 (a0 : (List Int)) : Option Int :=
(forL slices_IndexFunc_Lintint_with_guess_Zeros_2_b1 (fun x16 => (.brk ())) a0 0 ()).bind fun v25 =>
match v25 with
| .ret v30 =>
(some v30)
| .brk v31 =>
(some (-1 : Int))
theorem slices_IndexFunc_Lintint_with_guess_Zeros_2_ok {a0 : (List Int)} {r : Int} (h : slices_IndexFunc_Lintint_with_guess_Zeros_2 a0 = some r) : FnC Try.prog 52 [aD (.slice tI) a0, .one (.fn 43 [])] [] (aI r) [] := by
  refine fnC_of_W (B := bodyOf Try.f52) (n := 19) Try.func52 (by kernel_rfl) (by kernel_rfl) (by kernel_rfl) (by kernel_rfl) (by kernel_rfl) ?_
  intro K
  refine W_seq (by kernel_rfl) ?_
  refine W_run 1 [] [0, 1] [] (fr' := [(0, aD (.slice tI) a0), (1, .one (.fn 43 []))]) (L' := []) (obs := []) (by kernel_rfl) (by kernel_rfl) (by kernel_rfl) allP0 ?_
  refine seqQ_norm ?_
  refine W_seq (by kernel_rfl) ?_
  refine W_seq (by kernel_rfl) ?_
  refine W_run 3 [] [0, 1, 7, 8] [] (fr' := [(0, aD (.slice tI) a0), (1, .one (.fn 43 [])), (7, aI (List.length a0 : Int)), (8, aI (0 : Int))]) (L' := []) (obs := []) (by kernel_rfl) (by kernel_rfl) (by kernel_rfl) allP0 ?_
  refine seqQ_norm ?_
  refine W_block (id := 0) (by kernel_rfl) ?_
  obtain ⟨v25, h26, h⟩ := bind_of h
  refine W_len (t := 0) (u := tI) (xs := a0) (by kernel_rfl) (fun h29 => ?_)
  obtain ⟨h27, h28⟩ := forL_iter h29 h26
  refine W_weaken [0, 1, 7, 8] [] (fr' := ((slices_IndexFunc_Lintint_with_guess_Zeros_2_s2 a0) ((0 : Int), ())).1) (L' := ((slices_IndexFunc_Lintint_with_guess_Zeros_2_s2 a0) ((0 : Int), ())).2) (by kernel_rfl) ?_
  refine W_cutK (W_loop (S := (slices_IndexFunc_Lintint_with_guess_Zeros_2_s2 a0)) (J := (escQ (exQ .ret slices_IndexFunc_Lintint_with_guess_Zeros_2_s3) (exQ (.exit 0) slices_IndexFunc_Lintint_with_guess_Zeros_2_s4))) (by kernel_rfl) ?_ h27 _ v25 h28) ?_
  · rintro ⟨i15, x16⟩ s h
    refine W_seq (by kernel_rfl) ?_
    refine W_run 1 [] [0, 1, 7, 8, 9] [] (fr' := [(0, aD (.slice tI) a0), (1, .one (.fn 43 [])), (7, aI (List.length a0 : Int)), (8, aI i15), (9, aB (decide (i15 < (List.length a0 : Int))))]) (L' := []) (obs := []) (by kernel_rfl) (by kernel_rfl) (by kernel_rfl) allP0 ?_
    refine seqQ_norm ?_
    refine W_seq (by kernel_rfl) ?_
    refine W_cond (o := .tmp 9) (b := decide (i15 < (List.length a0 : Int))) (by kernel_rfl) (by kernel_rfl) (fun h20 => ?_) (fun h20 => ?_)
    · replace h := stepL_true h20 h
      obtain ⟨v18, _, h19, h, rfl⟩ := h
      refine W_skip [0, 1, 7, 8] [] (fr' := [(0, aD (.slice tI) a0), (1, .one (.fn 43 [])), (7, aI (List.length a0 : Int)), (8, aI i15)]) (L' := []) (by kernel_rfl) (by kernel_rfl) ?_
      refine seqQ_norm ?_
      refine W_seq (by kernel_rfl) ?_
      refine W_block (id := 1) (by kernel_rfl) ?_
      refine W_seq (by kernel_rfl) ?_
      refine W_run 2 [] [0, 1, 5, 7, 8] [] (fr' := [(0, aD (.slice tI) a0), (1, .one (.fn 43 [])), (5, aI i15), (7, aI (List.length a0 : Int)), (8, aI i15)]) (L' := []) (obs := []) (by kernel_rfl) (by kernel_rfl) (by kernel_rfl) allP0 ?_
      refine seqQ_norm ?_
      refine W_seq (by kernel_rfl) ?_
      refine W_region (by kernel_rfl) ?_
      refine WO_run (j := 5) (k := 5) (orcs := [(7, .val (.dat tI v18))]) (kF := [0, 1, 5, 7, 8, 11, 15]) (kL := []) (fr' := [(0, aD (.slice tI) a0), (1, .one (.fn 43 [])), (5, aI i15), (7, aI (List.length a0 : Int)), (8, aI i15), (11, .one (.fn 43 [])), (15, aI v18)]) (L' := []) (obs := [Idx a0 i15 v18]) rfl (by kernel_rfl) (allP1 (Idx.of h19)) ?_
      obtain ⟨r21, h22, h⟩ := bind_of h
      refine WO_call0 (us := [none]) (d := 16) (p := True) (j := 6) rfl ⟨by kernel_rfl, by kernel_rfl, by kernel_rfl⟩ trivial (guess_Zeros_2_ok h22) (by kernel_rfl) ?_
      refine WO_fin [0, 1, 5, 7, 8, 16] [] (fr' := [(0, aD (.slice tI) a0), (1, .one (.fn 43 [])), (5, aI i15), (7, aI (List.length a0 : Int)), (8, aI i15), (16, aB r21)]) (L' := []) (by kernel_rfl) (by kernel_rfl) ?_
      refine seqQ_norm ?_
      refine W_cond (o := .tmp 16) (b := r21) (by kernel_rfl) (by kernel_rfl) (fun h23 => ?_) (fun h23 => ?_)
      · replace h := ofT h23 h
        refine W_seq (by kernel_rfl) ?_
        refine W_run 2 [] [4] [] (fr' := [(4, aI i15)]) (L' := []) (obs := []) (by kernel_rfl) (by kernel_rfl) (by kernel_rfl) allP0 ?_
        refine seqQ_norm ?_
        obtain rfl := Option.some.inj h
        refine W_ret [4] [] (fr' := [(4, aI i15)]) (L' := []) (by kernel_rfl) (by kernel_rfl) ?_
        refine blockQ_ret ?_
        refine seqQ_ret ?_
        refine round_ret ?_
        refine escQ_ret ?_
        exact exQ_mk (by kernel_rfl) (by kernel_rfl)
      · replace h := ofF h23 h
        refine W_skip [0, 1, 7, 8] [] (fr' := [(0, aD (.slice tI) a0), (1, .one (.fn 43 [])), (7, aI (List.length a0 : Int)), (8, aI i15)]) (L' := []) (by kernel_rfl) (by kernel_rfl) ?_
        refine blockQ_norm ?_
        refine seqQ_norm ?_
        obtain rfl := Option.some.inj h
        refine W_run 2 [] [0, 1, 7, 8] [] (fr' := [(0, aD (.slice tI) a0), (1, .one (.fn 43 [])), (7, aI (List.length a0 : Int)), (8, aI (w64 (i15 + (1 : Int))))]) (L' := []) (obs := []) (by kernel_rfl) (by kernel_rfl) (by kernel_rfl) allP0 ?_
        exact round_next' (by kernel_rfl) (by kernel_rfl)
    · obtain rfl := stepL_false h20 h
      refine W_exit (id := 0) [] [] (fr' := []) (L' := []) (by kernel_rfl) (by kernel_rfl) ?_
      refine seqQ_exit ?_
      refine round_exit ?_
      refine escQ_brk ?_
      exact exQ_mk (by kernel_rfl) (by kernel_rfl)
  · intro e fr L hJ
    rcases v25 with v30 | v31
    · obtain ⟨rfl, rfl, rfl⟩ := hJ
      obtain rfl := Option.some.inj h
      refine LT_keep [4] [] (fr' := [(4, aI v30)]) (L' := []) (by kernel_rfl) ?_
      refine blockQ_ret ?_
      refine seqQ_ret ?_
      exact retQ_mk (by kernel_rfl) (by kernel_rfl) (by kernel_rfl)
    · obtain ⟨rfl, rfl, rfl⟩ := hJ
      refine LT_keep [] [] (fr' := []) (L' := []) (by kernel_rfl) ?_
      refine blockQ_hit ?_
      refine seqQ_norm ?_
      refine W_seq (by kernel_rfl) ?_
      refine W_run 1 [] [4] [] (fr' := [(4, aI (-1 : Int))]) (L' := []) (obs := []) (by kernel_rfl) (by kernel_rfl) (by kernel_rfl) allP0 ?_
      refine seqQ_norm ?_
      obtain rfl := Option.some.inj h
      refine W_ret [4] [] (fr' := [(4, aI (-1 : Int))]) (L' := []) (by kernel_rfl) (by kernel_rfl) ?_
      exact retQ_mk (by kernel_rfl) (by kernel_rfl) (by kernel_rfl)

noncomputable def slices_ContainsFunc_Lintint_with_guess_Zeros_2 (a0 : (List Int)) : Option Bool :=
(slices_IndexFunc_Lintint_with_guess_Zeros_2 a0).bind fun r1 =>
some (decide (r1 ≥ (0 : Int)))
theorem slices_ContainsFunc_Lintint_with_guess_Zeros_2_ok {a0 : (List Int)} {r : Bool} (h : slices_ContainsFunc_Lintint_with_guess_Zeros_2 a0 = some r) : FnC Try.prog 31 [aD (.slice tI) a0, .one (.fn 43 [])] [] (aB r) [] := by
  refine fnC_of_W (B := bodyOf Try.f31) (n := 9) Try.func31 (by kernel_rfl) (by kernel_rfl) (by kernel_rfl) (by kernel_rfl) (by kernel_rfl) ?_
  intro K
  refine W_seq (by kernel_rfl) ?_
  refine W_run 1 [] [0, 1] [] (fr' := [(0, aD (.slice tI) a0), (1, .one (.fn 43 []))]) (L' := []) (obs := []) (by kernel_rfl) (by kernel_rfl) (by kernel_rfl) allP0 ?_
  refine seqQ_norm ?_
  refine W_seq (by kernel_rfl) ?_
  refine W_region (by kernel_rfl) ?_
  refine WO_run (j := 2) (k := 2) (orcs := []) (kF := [5, 6]) (kL := []) (fr' := [(5, aD (.slice tI) a0), (6, .one (.fn 43 []))]) (L' := []) (obs := []) rfl (by kernel_rfl) allP0 ?_
  obtain ⟨r1, h2, h⟩ := bind_of h
  refine WO_call0 (us := [none, none]) (d := 7) (p := True) (j := 3) rfl ⟨by kernel_rfl, by kernel_rfl, by kernel_rfl⟩ trivial (slices_IndexFunc_Lintint_with_guess_Zeros_2_ok h2) (by kernel_rfl) ?_
  refine WO_run (j := 5) (k := 2) (orcs := []) (kF := [4]) (kL := []) (fr' := [(4, aB (decide (r1 ≥ (0 : Int))))]) (L' := []) (obs := []) rfl (by kernel_rfl) allP0 ?_
  refine WO_fin [4] [] (fr' := [(4, aB (decide (r1 ≥ (0 : Int))))]) (L' := []) (by kernel_rfl) (by kernel_rfl) ?_
  refine seqQ_norm ?_
  obtain rfl := Option.some.inj h
  refine W_ret [4] [] (fr' := [(4, aB (decide (r1 ≥ (0 : Int))))]) (L' := []) (by kernel_rfl) (by kernel_rfl) ?_
  exact retQ_mk (by kernel_rfl) (by kernel_rfl) (by kernel_rfl)

@[reducible] def guess_reduced_s1 (v : Int) : Fr × LL := ([(0, aI v)], [])
noncomputable def guess_reduced (a0 : Int) : Option Int :=
(bif decide (a0 > (6 : Int)) then
(some (w64 ((Int.tmod (w64 (a0 - (1 : Int))) (6 : Int)) + (1 : Int))))
else
(some a0)).bind fun v4 =>
some v4
theorem guess_reduced_ok {a0 : Int} {r : Int} (h : guess_reduced a0 = some r) : FnC Try.prog 44 [aI a0] [] (aI r) [] := by
  refine fnC_of_W (B := bodyOf Try.f44) (n := 10) Try.func44 (by kernel_rfl) (by kernel_rfl) (by kernel_rfl) (by kernel_rfl) (by kernel_rfl) ?_
  intro K
  refine W_seq (by kernel_rfl) ?_
  refine W_run 1 [] [0] [] (fr' := [(0, aI a0)]) (L' := []) (obs := []) (by kernel_rfl) (by kernel_rfl) (by kernel_rfl) allP0 ?_
  refine seqQ_norm ?_
  refine W_seq (by kernel_rfl) ?_
  obtain ⟨v4, h5, h⟩ := bind_of h
  refine W_cutK (Q' := (exQ .normal guess_reduced_s1) v4) ?_ ?_
  · replace h := h5
    refine W_seq (by kernel_rfl) ?_
    refine W_run 2 [] [0, 4] [] (fr' := [(0, aI a0), (4, aB (decide (a0 > (6 : Int))))]) (L' := []) (obs := []) (by kernel_rfl) (by kernel_rfl) (by kernel_rfl) allP0 ?_
    refine seqQ_norm ?_
    refine W_cond (o := .tmp 4) (b := decide (a0 > (6 : Int))) (by kernel_rfl) (by kernel_rfl) (fun h3 => ?_) (fun h3 => ?_)
    · replace h := ofT h3 h
      obtain rfl := Option.some.inj h
      refine W_run 5 [] [0] [] (fr' := [(0, aI (w64 ((Int.tmod (w64 (a0 - (1 : Int))) (6 : Int)) + (1 : Int))))]) (L' := []) (obs := [((6 : Int) ≠ 0)]) (by kernel_rfl) (by kernel_rfl) (by kernel_rfl) (allP1 (by decide)) ?_
      exact exQ_mk (by kernel_rfl) (by kernel_rfl)
    · replace h := ofF h3 h
      obtain rfl := Option.some.inj h
      refine W_skip [0] [] (fr' := [(0, aI a0)]) (L' := []) (by kernel_rfl) (by kernel_rfl) ?_
      exact exQ_mk (by kernel_rfl) (by kernel_rfl)
  · intro e fr L hJ
    obtain ⟨rfl, rfl, rfl⟩ := hJ
    refine LT_keep [0] [] (fr' := [(0, aI v4)]) (L' := []) (by kernel_rfl) ?_
    refine seqQ_norm ?_
    refine W_seq (by kernel_rfl) ?_
    refine W_run 2 [] [2] [] (fr' := [(2, aI v4)]) (L' := []) (obs := []) (by kernel_rfl) (by kernel_rfl) (by kernel_rfl) allP0 ?_
    refine seqQ_norm ?_
    obtain rfl := Option.some.inj h
    refine W_ret [2] [] (fr' := [(2, aI v4)]) (L' := []) (by kernel_rfl) (by kernel_rfl) ?_
    exact retQ_mk (by kernel_rfl) (by kernel_rfl) (by kernel_rfl)

noncomputable def guess_Zeros_g5 (v46 : (Int × (List Int))) : Option Bool :=
bif decide (v46.1 < (0 : Int)) then
(some true)
else
(bif decide (v46.1 ≥ (7 : Int)) then
(some true)
else
((slices_ContainsFunc_Lintint_with_guess_Zeros_2 v46.2).bind fun r59 =>
some r59))
@[reducible] def guess_Zeros_s6 (a0 : Int) (a1 : (List (Int × (List Int)))) (i43 : Int) (v : Bool) : Fr × LL := ([(1, aD (.slice (.pair tI (.slice tI))) a1), (2, .one (.ptr 2 0)), (40, aD (.slice (.pair tI (.slice tI))) a1), (41, aI (List.length a1 : Int)), (42, aI i43), (58, aB v)], [(2, .cells [.dat tI a0])])
noncomputable def guess_Zeros_b7 (i43 : Int) (v46 : (Int × (List Int))) (x44 : Unit) : Option (Flow Unit (Esc (Int × Int × Int) Unit)) :=
(guess_Zeros_g5 v46).bind fun v61 =>
bif v61 then
(some (.done (.ret ((0 : Int), (0 : Int), (4 : Int)))))
else
(some (.next ()))
@[reducible] def guess_Zeros_s8 (a0 : Int) (a1 : (List (Int × (List Int)))) (v : Int × Unit) : Fr × LL := ([(1, aD (.slice (.pair tI (.slice tI))) a1), (2, .one (.ptr 2 0)), (40, aD (.slice (.pair tI (.slice tI))) a1), (41, aI (List.length a1 : Int)), (42, aI v.1)], [(2, .cells [.dat tI a0])])
@[reducible] def guess_Zeros_s9 (v : (Int × Int × Int)) : Fr × LL := ([(4, aI v.1), (5, aI v.2.1), (6, aI v.2.2)], [])
@[reducible] def guess_Zeros_s10 (a0 : Int) (a1 : (List (Int × (List Int)))) (v : Unit) : Fr × LL := ([(1, aD (.slice (.pair tI (.slice tI))) a1), (2, .one (.ptr 2 0))], [(2, .cells [.dat tI a0])])
noncomputable def guess_Zeros_b17 (i166 : Int) (v169 : Int) (x167 : (List Int)) : Option (Flow (List Int) (List Int)) :=
(guess_reduced v169).bind fun r172 =>
(ck (0 ≤ i166 ∧ i166 < 3)).bind fun _ =>
(idx x167 i166).bind fun v175 =>
some (.next (List.set x167 (Int.toNat i166) r172))
@[reducible] def guess_Zeros_s18 (a0 : Int) (a1 : (List (Int × (List Int)))) (i145 : Int) (x146 : (Option (List ((List Int) × Int)))) (v148 : (Int × (List Int))) (v : Int × (List Int)) : Fr × LL := ([(2, .one (.ptr 2 0)), (9, .one (.slc 60)), (11, .one (.ptr 11 0)), (12, .one (.ptr 12 0)), (61, aD (.slice (.pair tI (.slice tI))) a1), (62, aI (List.length a1 : Int)), (63, aI i145), (68, aD (.slice tI) v148.2), (69, aI (List.length v148.2 : Int)), (70, aI v.1)], [(2, .cells [.dat tI a0]), (60, .map (.arr 3 tI) tI x146), (11, .one (.pair tI (.slice tI)) v148), (12, .one (.arr 3 tI) v.2)])
@[reducible] def guess_Zeros_s19 (a0 : Int) (a1 : (List (Int × (List Int)))) (i145 : Int) (x146 : (Option (List ((List Int) × Int)))) (v148 : (Int × (List Int))) (v : (List Int)) : Fr × LL := ([(2, .one (.ptr 2 0)), (9, .one (.slc 60)), (11, .one (.ptr 11 0)), (12, .one (.ptr 12 0)), (61, aD (.slice (.pair tI (.slice tI))) a1), (62, aI (List.length a1 : Int)), (63, aI i145)], [(2, .cells [.dat tI a0]), (60, .map (.arr 3 tI) tI x146), (11, .one (.pair tI (.slice tI)) v148), (12, .one (.arr 3 tI) v)])
noncomputable def guess_Zeros_b20 (i145 : Int) (v148 : (Int × (List Int))) (x146 : (Option (List ((List Int) × Int)))) : Option (Flow (Option (List ((List Int) × Int))) (Option (List ((List Int) × Int)))) :=
(forL guess_Zeros_b17 (fun x167 => x167) v148.2 0 [(0 : Int), (0 : Int), (0 : Int)]).bind fun v178 =>
(ck (Option.isSome x146 = true)).bind fun _ =>
some (.next (Option.map (fun l => mPut (deqT (.arr 3 tI)) l v178 (Int.tmod (w64 ((Option.getD (mGet (deqT (.arr 3 tI)) (Option.getD x146 []) v178) (0 : Int)) + v148.1)) (7 : Int))) x146))
@[reducible] def guess_Zeros_s21 (a0 : Int) (a1 : (List (Int × (List Int)))) (v : Int × (Option (List ((List Int) × Int)))) : Fr × LL := ([(2, .one (.ptr 2 0)), (9, .one (.slc 60)), (61, aD (.slice (.pair tI (.slice tI))) a1), (62, aI (List.length a1 : Int)), (63, aI v.1)], [(2, .cells [.dat tI a0]), (60, .map (.arr 3 tI) tI v.2)])
@[reducible] def guess_Zeros_s22 (a0 : Int) (v : (Option (List ((List Int) × Int)))) : Fr × LL := ([(2, .one (.ptr 2 0)), (9, .one (.slc 60))], [(2, .cells [.dat tI a0]), (60, .map (.arr 3 tI) tI v)])
noncomputable def guess_Zeros_b23 (p201 : (List Int) × Int) (x210 : Int) : Option Int :=
bif p201.2 != (0 : Int) then
((idx p201.1 (0 : Int)).bind fun v219 =>
(idx p201.1 (1 : Int)).bind fun v221 =>
(idx p201.1 (2 : Int)).bind fun v223 =>
some (imax x210 (w64 ((w64 (v219 + v221)) + v223))))
else
(some x210)
@[reducible] def guess_Zeros_s24 (a0 : Int) (bm192 : Nat) (bi193 : Nat) (ck194 : Nat) (es195 : Array MapEntry) (sn197 : Array Nat) (v : Int) : Fr × LL := ([(2, .one (.ptr 2 0)), (9, .one (.slc 60)), (15, aI v), (91, .one (.ptr 91 0))], [(2, .cells [.dat tI a0]), (60, .raw bm192 (.map es195 ck194)), (91, .raw bi193 (.mapIter (some bm192) ck194 sn197 ck194))])
@[reducible] def guess_Zeros_s25 (a0 : Int) (l190 : List ((List Int) × Int)) (v : Int) : Fr × LL := ([(2, .one (.ptr 2 0)), (9, .one (.slc 60)), (15, aI v)], [(2, .cells [.dat tI a0]), (60, .map (.arr 3 tI) tI (some l190 : Option (List ((List Int) × Int))))])
noncomputable def guess_Zeros_b148 (v969 : Int) (i979 : Int) (x980 : Int) : Option (Flow Int Int) :=
some (.next (Int.tmod (w64 (x980 * v969)) (7 : Int)))
@[reducible] def guess_Zeros_s149 (a0 : Int) (v225 : Int) (x504 : (Int × (Option (List ((List Int) × Int))) × (List Int))) (bm781 : Nat) (bi782 : Nat) (ck783 : Nat) (es784 : Array MapEntry) (sn786 : Array Nat) (e787 : MapEntry) (p790 : (List Int) × Int) (x859 : Int) (i966 : Int) (v969 : Int) (v973 : Int) (v : Int × Int) : Fr × LL := ([(2, .one (.ptr 2 0)), (9, .one (.slc 60)), (15, aI v225), (18, aI x504.1), (19, .one (.slc 110)), (20, aI x859), (21, .one (.ptr 21 0)), (22, aI v.2), (24, aI v969), (112, .one (.ptr 112 0)), (118, .one (.slc 110)), (119, aI (List.length x504.2.2 : Int)), (120, aI i966), (127, aI v973), (128, aI v.1)], [(2, .cells [.dat tI a0]), (60, .raw bm781 (.map es784 ck783)), (110, .seq tI x504.2.2), (21, .one (.arr 3 tI) p790.1), (112, .raw bi782 (.mapIter (some bm781) ck783 (Array.push sn786 (MapEntry.born e787)) ck783))])
@[reducible] def guess_Zeros_s150 (a0 : Int) (v225 : Int) (x504 : (Int × (Option (List ((List Int) × Int))) × (List Int))) (bm781 : Nat) (bi782 : Nat) (ck783 : Nat) (es784 : Array MapEntry) (sn786 : Array Nat) (e787 : MapEntry) (p790 : (List Int) × Int) (x859 : Int) (i966 : Int) (v : Int) : Fr × LL := ([(2, .one (.ptr 2 0)), (9, .one (.slc 60)), (15, aI v225), (18, aI x504.1), (19, .one (.slc 110)), (20, aI x859), (21, .one (.ptr 21 0)), (22, aI v), (112, .one (.ptr 112 0)), (118, .one (.slc 110)), (119, aI (List.length x504.2.2 : Int)), (120, aI i966)], [(2, .cells [.dat tI a0]), (60, .raw bm781 (.map es784 ck783)), (110, .seq tI x504.2.2), (21, .one (.arr 3 tI) p790.1), (112, .raw bi782 (.mapIter (some bm781) ck783 (Array.push sn786 (MapEntry.born e787)) ck783))])
noncomputable def guess_Zeros_b151 (p790 : (List Int) × Int) (i966 : Int) (v969 : Int) (x967 : Int) : Option (Flow Int Int) :=
(ck (0 ≤ i966 ∧ i966 < 3)).bind fun _ =>
(idx p790.1 i966).bind fun v973 =>
(forI (0 : Int) v973 (guess_Zeros_b148 v969) (fun x980 => x980) x967).bind fun v984 =>
some (.next v984)
@[reducible] def guess_Zeros_s152 (a0 : Int) (v225 : Int) (x504 : (Int × (Option (List ((List Int) × Int))) × (List Int))) (bm781 : Nat) (bi782 : Nat) (ck783 : Nat) (es784 : Array MapEntry) (sn786 : Array Nat) (e787 : MapEntry) (p790 : (List Int) × Int) (x859 : Int) (v : Int × Int) : Fr × LL := ([(2, .one (.ptr 2 0)), (9, .one (.slc 60)), (15, aI v225), (18, aI x504.1), (19, .one (.slc 110)), (20, aI x859), (21, .one (.ptr 21 0)), (22, aI v.2), (112, .one (.ptr 112 0)), (118, .one (.slc 110)), (119, aI (List.length x504.2.2 : Int)), (120, aI v.1)], [(2, .cells [.dat tI a0]), (60, .raw bm781 (.map es784 ck783)), (110, .seq tI x504.2.2), (21, .one (.arr 3 tI) p790.1), (112, .raw bi782 (.mapIter (some bm781) ck783 (Array.push sn786 (MapEntry.born e787)) ck783))])
@[reducible] def guess_Zeros_s153 (a0 : Int) (v225 : Int) (x504 : (Int × (Option (List ((List Int) × Int))) × (List Int))) (bm781 : Nat) (bi782 : Nat) (ck783 : Nat) (es784 : Array MapEntry) (sn786 : Array Nat) (e787 : MapEntry) (x859 : Int) (v : Int) : Fr × LL := ([(2, .one (.ptr 2 0)), (9, .one (.slc 60)), (15, aI v225), (18, aI x504.1), (19, .one (.slc 110)), (20, aI x859), (22, aI v), (112, .one (.ptr 112 0))], [(2, .cells [.dat tI a0]), (60, .raw bm781 (.map es784 ck783)), (110, .seq tI x504.2.2), (112, .raw bi782 (.mapIter (some bm781) ck783 (Array.push sn786 (MapEntry.born e787)) ck783))])
noncomputable def guess_Zeros_b154 (x504 : (Int × (Option (List ((List Int) × Int))) × (List Int))) (p790 : (List Int) × Int) (x859 : Int) : Option Int :=
(forL (guess_Zeros_b151 p790) (fun x967 => x967) x504.2.2 0 p790.2).bind fun v989 =>
some (w64 (x859 + v989))
@[reducible] def guess_Zeros_s155 (a0 : Int) (v225 : Int) (x504 : (Int × (Option (List ((List Int) × Int))) × (List Int))) (bm781 : Nat) (bi782 : Nat) (ck783 : Nat) (es784 : Array MapEntry) (sn786 : Array Nat) (v : Int) : Fr × LL := ([(2, .one (.ptr 2 0)), (9, .one (.slc 60)), (15, aI v225), (18, aI x504.1), (19, .one (.slc 110)), (20, aI v), (112, .one (.ptr 112 0))], [(2, .cells [.dat tI a0]), (60, .raw bm781 (.map es784 ck783)), (110, .seq tI x504.2.2), (112, .raw bi782 (.mapIter (some bm781) ck783 sn786 ck783))])
@[reducible] def guess_Zeros_s156 (a0 : Int) (v225 : Int) (x504 : (Int × (Option (List ((List Int) × Int))) × (List Int))) (l779 : List ((List Int) × Int)) (v : Int) : Fr × LL := ([(2, .one (.ptr 2 0)), (9, .one (.slc 60)), (15, aI v225), (18, aI x504.1), (19, .one (.slc 110)), (20, aI v)], [(2, .cells [.dat tI a0]), (60, .map (.arr 3 tI) tI (some l779 : Option (List ((List Int) × Int)))), (110, .seq tI x504.2.2)])
@[reducible] def guess_Zeros_s159 (a0 : Int) (v225 : Int) (l779 : List ((List Int) × Int)) (v1000 : Int) (x1017 : (Int × (List Int))) (v : Bool) : Fr × LL := ([(2, .one (.ptr 2 0)), (9, .one (.slc 60)), (15, aI v225), (18, aI v1000), (19, .one (.slc 110)), (25, aI x1017.1), (153, aB v)], [(2, .cells [.dat tI a0]), (60, .map (.arr 3 tI) tI (some l779 : Option (List ((List Int) × Int)))), (110, .seq tI x1017.2)])
noncomputable def guess_Zeros_b160 (a0 : Int) (x1017 : (Int × (List Int))) : Option (Flow (Int × (List Int)) (Int × (List Int))) :=
(bif decide (x1017.1 < a0) then
((idx x1017.2 x1017.1).bind fun v1039 =>
some (v1039 == (6 : Int)))
else
(some false)).bind fun v1041 =>
bif v1041 then
((idx x1017.2 x1017.1).bind fun v1044 =>
some (.next (w64 (x1017.1 + (1 : Int)), List.set x1017.2 (Int.toNat x1017.1) (0 : Int))))
else
(some (.done (x1017.1, x1017.2)))
@[reducible] def guess_Zeros_s161 (a0 : Int) (v225 : Int) (l779 : List ((List Int) × Int)) (v1000 : Int) (v : (Int × (List Int))) : Fr × LL := ([(2, .one (.ptr 2 0)), (9, .one (.slc 60)), (15, aI v225), (18, aI v1000), (19, .one (.slc 110)), (25, aI v.1)], [(2, .cells [.dat tI a0]), (60, .map (.arr 3 tI) tI (some l779 : Option (List ((List Int) × Int)))), (110, .seq tI v.2)])
@[reducible] def guess_Zeros_s162 (a0 : Int) (v225 : Int) (l779 : List ((List Int) × Int)) (v1000 : Int) (v : (Int × (List Int))) : Fr × LL := ([(2, .one (.ptr 2 0)), (9, .one (.slc 60)), (15, aI v225), (18, aI v1000), (19, .one (.slc 110)), (25, aI v.1)], [(2, .cells [.dat tI a0]), (60, .map (.arr 3 tI) tI (some l779 : Option (List ((List Int) × Int)))), (110, .seq tI v.2)])
@[reducible] def guess_Zeros_s163 (a0 : Int) (v225 : Int) (x504 : (Int × (Option (List ((List Int) × Int))) × (List Int))) (l779 : List ((List Int) × Int)) (v : Int) : Fr × LL := ([(2, .one (.ptr 2 0)), (9, .one (.slc 60)), (15, aI v225), (18, aI v), (19, .one (.slc 110))], [(2, .cells [.dat tI a0]), (60, .map (.arr 3 tI) tI (some l779 : Option (List ((List Int) × Int)))), (110, .seq tI x504.2.2)])
noncomputable def guess_Zeros_b164 (a0 : Int) (v225 : Int) (fuel : Nat) (x504 : (Int × (Option (List ((List Int) × Int))) × (List Int))) : Option (Flow (Int × (Option (List ((List Int) × Int))) × (List Int)) (Int × Int × Int)) :=
(x504.2.1).bind fun l779 =>
(rangeM (guess_Zeros_b154 x504) l779 (0 : Int)).bind fun v994 =>
(bif (Int.tmod v994 (7 : Int)) == (0 : Int) then
(some (w64 (x504.1 + (1 : Int))))
else
(some x504.1)).bind fun v1000 =>
(iter (guess_Zeros_b160 a0) fuel ((0 : Int), x504.2.2)).bind fun v1046 =>
bif v1046.1 == a0 then
(some (.done (v1000, v225, (0 : Int))))
else
((idx v1046.2 v1046.1).bind fun v1051 =>
some (.next (v1000, (some l779 : Option (List ((List Int) × Int))), List.set v1046.2 (Int.toNat v1046.1) (w64 (v1051 + (1 : Int))))))
@[reducible] def guess_Zeros_s165 (a0 : Int) (v225 : Int) (v : (Int × (Option (List ((List Int) × Int))) × (List Int))) : Fr × LL := ([(2, .one (.ptr 2 0)), (9, .one (.slc 60)), (15, aI v225), (18, aI v.1), (19, .one (.slc 110))], [(2, .cells [.dat tI a0]), (60, .map (.arr 3 tI) tI v.2.1), (110, .seq tI v.2.2)])
@[reducible] def guess_Zeros_s166 (v : (Int × Int × Int)) : Fr × LL := ([(4, aI v.1), (5, aI v.2.1), (6, aI v.2.2)], [])
noncomputable def guess_Zeros (fuel : Nat) (a0 : Int) (a1 : (List (Int × (List Int)))) : Option (Int × Int × Int) :=
bif ((decide (a0 < (1 : Int))) || (decide (a0 > (3 : Int)))) || (decide ((List.length a1 : Int) > (12 : Int))) then
(some ((0 : Int), (0 : Int), (1 : Int)))
else
((slices_ContainsFunc_LapiTermapiTerm_with_guess_Zeros_1 a1 a0).bind fun r2 =>
bif r2 then
(some ((0 : Int), (0 : Int), (3 : Int)))
else
((forL guess_Zeros_b7 (fun x44 => (.brk ())) a1 0 ()).bind fun v65 =>
match v65 with
| .ret v70 =>
(some (v70.1, v70.2.1, v70.2.2))
| .brk v71 =>
((forL guess_Zeros_b20 (fun x146 => x146) a1 0 (some [] : Option (List ((List Int) × Int)))).bind fun v185 =>
(v185).bind fun l190 =>
(rangeM guess_Zeros_b23 l190 (-1 : Int)).bind fun v225 =>
(ck (0 ≤ a0 ∧ a0 = a0 ∧ a0 ≤ 4294967296)).bind fun _ =>
(iter (guess_Zeros_b164 a0 v225 fuel) fuel ((0 : Int), (some l190 : Option (List ((List Int) × Int))), List.replicate (Int.toNat a0) (0 : Int))).bind fun v1053 =>
some (v1053.1, v1053.2.1, v1053.2.2))))
theorem guess_Zeros_ok {fuel : Nat} {a0 : Int} {a1 : (List (Int × (List Int)))} {r : (Int × Int × Int)} (h : guess_Zeros fuel a0 a1 = some r) : FnC Try.prog 21 [aI a0, aD (.slice (.pair tI (.slice tI))) a1] [] (.tup [.dat tI r.1, .dat tI r.2.1, .dat tI r.2.2]) [] := by
  refine fnC_of_W (B := bodyOf Try.f21) (n := 170) Try.func21 (by kernel_rfl) (by kernel_rfl) (by kernel_rfl) (by kernel_rfl) (by kernel_rfl) ?_
  intro K
  refine W_seq (by kernel_rfl) ?_
  refine W_run 4 [] [1, 2] [2] (fr' := [(1, aD (.slice (.pair tI (.slice tI))) a1), (2, .one (.ptr 2 0))]) (L' := [(2, .cells [.dat tI a0])]) (obs := []) (by kernel_rfl) (by kernel_rfl) (by kernel_rfl) allP0 ?_
  refine seqQ_norm ?_
  refine W_seq (by kernel_rfl) ?_
  refine W_seq (by kernel_rfl) ?_
  refine W_run 11 [] [1, 2, 36] [2] (fr' := [(1, aD (.slice (.pair tI (.slice tI))) a1), (2, .one (.ptr 2 0)), (36, aB (((decide (a0 < (1 : Int))) || (decide (a0 > (3 : Int)))) || (decide ((List.length a1 : Int) > (12 : Int)))))]) (L' := [(2, .cells [.dat tI a0])]) (obs := []) (by kernel_rfl) (by kernel_rfl) (by kernel_rfl) allP0 ?_
  refine seqQ_norm ?_
  refine W_cond (o := .tmp 36) (b := ((decide (a0 < (1 : Int))) || (decide (a0 > (3 : Int)))) || (decide ((List.length a1 : Int) > (12 : Int)))) (by kernel_rfl) (by kernel_rfl) (fun h1 => ?_) (fun h1 => ?_)
  · replace h := ofT h1 h
    refine W_seq (by kernel_rfl) ?_
    refine W_run 3 [] [4, 5, 6] [] (fr' := [(4, aI (0 : Int)), (5, aI (0 : Int)), (6, aI (1 : Int))]) (L' := []) (obs := []) (by kernel_rfl) (by kernel_rfl) (by kernel_rfl) allP0 ?_
    refine seqQ_norm ?_
    obtain rfl := Option.some.inj h
    refine W_ret [4, 5, 6] [] (fr' := [(4, aI (0 : Int)), (5, aI (0 : Int)), (6, aI (1 : Int))]) (L' := []) (by kernel_rfl) (by kernel_rfl) ?_
    refine seqQ_ret ?_
    exact retQ_mk (by kernel_rfl) (by kernel_rfl) (by kernel_rfl)
  · replace h := ofF h1 h
    refine W_skip [1, 2] [2] (fr' := [(1, aD (.slice (.pair tI (.slice tI))) a1), (2, .one (.ptr 2 0))]) (L' := [(2, .cells [.dat tI a0])]) (by kernel_rfl) (by kernel_rfl) ?_
    refine seqQ_norm ?_
    refine W_seq (by kernel_rfl) ?_
    refine W_seq (by kernel_rfl) ?_
    refine W_region (by kernel_rfl) ?_
    refine WO_run (j := 2) (k := 2) (orcs := []) (kF := [1, 2, 37, 38]) (kL := [2]) (fr' := [(1, aD (.slice (.pair tI (.slice tI))) a1), (2, .one (.ptr 2 0)), (37, aD (.slice (.pair tI (.slice tI))) a1), (38, .one (.fn 42 [(2, 0)]))]) (L' := [(2, .cells [.dat tI a0])]) (obs := []) rfl (by kernel_rfl) allP0 ?_
    obtain ⟨r2, h3, h⟩ := bind_of h
    refine WO_lend [(1000, 2)] (us := [none, none]) (d := 39) (p := True) (j := 3) rfl ⟨by kernel_rfl, by kernel_rfl, by kernel_rfl⟩ trivial (slices_ContainsFunc_LapiTermapiTerm_with_guess_Zeros_1_ok h3) (by kernel_rfl) (by kernel_rfl) ?_
    refine WO_fin [1, 2, 39] [2] (fr' := [(1, aD (.slice (.pair tI (.slice tI))) a1), (2, .one (.ptr 2 0)), (39, aB r2)]) (L' := [(2, .cells [.dat tI a0])]) (by kernel_rfl) (by kernel_rfl) ?_
    refine seqQ_norm ?_
    refine W_cond (o := .tmp 39) (b := r2) (by kernel_rfl) (by kernel_rfl) (fun h4 => ?_) (fun h4 => ?_)
    · replace h := ofT h4 h
      refine W_seq (by kernel_rfl) ?_
      refine W_run 3 [] [4, 5, 6] [] (fr' := [(4, aI (0 : Int)), (5, aI (0 : Int)), (6, aI (3 : Int))]) (L' := []) (obs := []) (by kernel_rfl) (by kernel_rfl) (by kernel_rfl) allP0 ?_
      refine seqQ_norm ?_
      obtain rfl := Option.some.inj h
      refine W_ret [4, 5, 6] [] (fr' := [(4, aI (0 : Int)), (5, aI (0 : Int)), (6, aI (3 : Int))]) (L' := []) (by kernel_rfl) (by kernel_rfl) ?_
      refine seqQ_ret ?_
      exact retQ_mk (by kernel_rfl) (by kernel_rfl) (by kernel_rfl)
    · replace h := ofF h4 h
      refine W_skip [1, 2] [2] (fr' := [(1, aD (.slice (.pair tI (.slice tI))) a1), (2, .one (.ptr 2 0))]) (L' := [(2, .cells [.dat tI a0])]) (by kernel_rfl) (by kernel_rfl) ?_
      refine seqQ_norm ?_
      refine W_seq (by kernel_rfl) ?_
      refine W_seq (by kernel_rfl) ?_
      refine W_run 3 [] [1, 2, 40, 41, 42] [2] (fr' := [(1, aD (.slice (.pair tI (.slice tI))) a1), (2, .one (.ptr 2 0)), (40, aD (.slice (.pair tI (.slice tI))) a1), (41, aI (List.length a1 : Int)), (42, aI (0 : Int))]) (L' := [(2, .cells [.dat tI a0])]) (obs := []) (by kernel_rfl) (by kernel_rfl) (by kernel_rfl) allP0 ?_
      refine seqQ_norm ?_
      refine W_block (id := 0) (by kernel_rfl) ?_
      obtain ⟨v65, h66, h⟩ := bind_of h
      refine W_len (t := 40) (u := (.pair tI (.slice tI))) (xs := a1) (by kernel_rfl) (fun h69 => ?_)
      obtain ⟨h67, h68⟩ := forL_iter h69 h66
      refine W_weaken [1, 2, 40, 41, 42] [2] (fr' := ((guess_Zeros_s8 a0 a1) ((0 : Int), ())).1) (L' := ((guess_Zeros_s8 a0 a1) ((0 : Int), ())).2) (by kernel_rfl) ?_
      refine W_cutK (W_loop (S := (guess_Zeros_s8 a0 a1)) (J := (escQ (exQ .ret guess_Zeros_s9) (exQ (.exit 0) (guess_Zeros_s10 a0 a1)))) (by kernel_rfl) ?_ h67 _ v65 h68) ?_
      · rintro ⟨i43, x44⟩ s h
        refine W_seq (by kernel_rfl) ?_
        refine W_run 1 [] [1, 2, 40, 41, 42, 43] [2] (fr' := [(1, aD (.slice (.pair tI (.slice tI))) a1), (2, .one (.ptr 2 0)), (40, aD (.slice (.pair tI (.slice tI))) a1), (41, aI (List.length a1 : Int)), (42, aI i43), (43, aB (decide (i43 < (List.length a1 : Int))))]) (L' := [(2, .cells [.dat tI a0])]) (obs := []) (by kernel_rfl) (by kernel_rfl) (by kernel_rfl) allP0 ?_
        refine seqQ_norm ?_
        refine W_seq (by kernel_rfl) ?_
        refine W_cond (o := .tmp 43) (b := decide (i43 < (List.length a1 : Int))) (by kernel_rfl) (by kernel_rfl) (fun h48 => ?_) (fun h48 => ?_)
        · replace h := stepL_true h48 h
          obtain ⟨v46, _, h47, h, rfl⟩ := h
          refine W_skip [1, 2, 40, 41, 42] [2] (fr' := [(1, aD (.slice (.pair tI (.slice tI))) a1), (2, .one (.ptr 2 0)), (40, aD (.slice (.pair tI (.slice tI))) a1), (41, aI (List.length a1 : Int)), (42, aI i43)]) (L' := [(2, .cells [.dat tI a0])]) (by kernel_rfl) (by kernel_rfl) ?_
          refine seqQ_norm ?_
          refine W_seq (by kernel_rfl) ?_
          refine W_block (id := 1) (by kernel_rfl) ?_
          refine W_seq (by kernel_rfl) ?_
          refine W_run 4 [(1, .val (.dat (.pair tI (.slice tI)) v46)), (5, .typed)] [1, 2, 8, 40, 41, 42] [2, 8] (fr' := [(1, aD (.slice (.pair tI (.slice tI))) a1), (2, .one (.ptr 2 0)), (8, .one (.ptr 8 0)), (40, aD (.slice (.pair tI (.slice tI))) a1), (41, aI (List.length a1 : Int)), (42, aI i43)]) (L' := [(2, .cells [.dat tI a0]), (8, .one (.pair tI (.slice tI)) v46)]) (obs := [Idx a1 i43 v46, True]) (by kernel_rfl) (by kernel_rfl) (by kernel_rfl) (allP2 (Idx.of h47) (allP1 trivial)) ?_
          refine seqQ_norm ?_
          refine W_seq (by kernel_rfl) ?_
          obtain ⟨v61, h62, h⟩ := bind_of h
          refine W_cutK (Q' := (exQ .normal (guess_Zeros_s6 a0 a1 i43)) v61) ?_ ?_
          · replace h := h62
            refine W_region (by kernel_rfl) ?_
            refine WO_run (j := 4) (k := 4) (orcs := []) (kF := [1, 2, 8, 40, 41, 42, 49]) (kL := [2, 8]) (fr' := [(1, aD (.slice (.pair tI (.slice tI))) a1), (2, .one (.ptr 2 0)), (8, .one (.ptr 8 0)), (40, aD (.slice (.pair tI (.slice tI))) a1), (41, aI (List.length a1 : Int)), (42, aI i43), (49, aB (decide (v46.1 < (0 : Int))))]) (L' := [(2, .cells [.dat tI a0]), (8, .one (.pair tI (.slice tI)) v46)]) (obs := []) rfl (by kernel_rfl) allP0 ?_
            rcases Bool.eq_false_or_eq_true (decide (v46.1 < (0 : Int))) with h57 | h57
            · replace h := ofT h57 h
              refine WO_run (j := 13) (k := 9) (orcs := [(8, .known true), (10, .known true), (12, .known true), (15, .val (.dat .bool true)), (18, .known true), (20, .known true), (22, .known true), (25, .val (.dat .bool true))]) (kF := [1, 2, 40, 41, 42, 58]) (kL := [2, 8]) (fr' := [(1, aD (.slice (.pair tI (.slice tI))) a1), (2, .one (.ptr 2 0)), (40, aD (.slice (.pair tI (.slice tI))) a1), (41, aI (List.length a1 : Int)), (42, aI i43), (58, aB true)]) (L' := [(2, .cells [.dat tI a0]), (8, .one (.pair tI (.slice tI)) v46)]) (obs := [((decide (v46.1 < (0 : Int))) = true), ((decide (v46.1 < (0 : Int))) = true), ((decide (v46.1 < (0 : Int))) = true), ((decide (v46.1 < (0 : Int))) = true), (true = true), (true = true), (true = true), (true = true)]) rfl (by kernel_rfl) (allP2 h57 (allP2 h57 (allP2 h57 (allP2 h57 (allP2 rfl (allP2 rfl (allP2 rfl (allP1 rfl)))))))) ?_
              obtain rfl := Option.some.inj h
              refine WO_fin [1, 2, 40, 41, 42, 58] [2] (fr' := [(1, aD (.slice (.pair tI (.slice tI))) a1), (2, .one (.ptr 2 0)), (40, aD (.slice (.pair tI (.slice tI))) a1), (41, aI (List.length a1 : Int)), (42, aI i43), (58, aB true)]) (L' := [(2, .cells [.dat tI a0])]) (by kernel_rfl) (by kernel_rfl) ?_
              exact exQ_mk (by kernel_rfl) (by kernel_rfl)
            · replace h := ofF h57 h
              refine WO_run (j := 9) (k := 5) (orcs := [(8, .known false), (10, .known false), (12, .known false), (15, .val (.dat .bool false))]) (kF := [1, 2, 8, 40, 41, 42, 54]) (kL := [2, 8]) (fr' := [(1, aD (.slice (.pair tI (.slice tI))) a1), (2, .one (.ptr 2 0)), (8, .one (.ptr 8 0)), (40, aD (.slice (.pair tI (.slice tI))) a1), (41, aI (List.length a1 : Int)), (42, aI i43), (54, aB (decide (v46.1 ≥ (7 : Int))))]) (L' := [(2, .cells [.dat tI a0]), (8, .one (.pair tI (.slice tI)) v46)]) (obs := [((decide (v46.1 < (0 : Int))) = false), ((decide (v46.1 < (0 : Int))) = false), ((decide (v46.1 < (0 : Int))) = false), ((decide (v46.1 < (0 : Int))) = false)]) rfl (by kernel_rfl) (allP2 h57 (allP2 h57 (allP2 h57 (allP1 h57)))) ?_
              rcases Bool.eq_false_or_eq_true (decide (v46.1 ≥ (7 : Int))) with h58 | h58
              · replace h := ofT h58 h
                refine WO_run (j := 13) (k := 4) (orcs := [(18, .known true), (20, .known true), (22, .known true), (25, .val (.dat .bool true))]) (kF := [1, 2, 40, 41, 42, 58]) (kL := [2, 8]) (fr' := [(1, aD (.slice (.pair tI (.slice tI))) a1), (2, .one (.ptr 2 0)), (40, aD (.slice (.pair tI (.slice tI))) a1), (41, aI (List.length a1 : Int)), (42, aI i43), (58, aB true)]) (L' := [(2, .cells [.dat tI a0]), (8, .one (.pair tI (.slice tI)) v46)]) (obs := [((decide (v46.1 ≥ (7 : Int))) = true), ((decide (v46.1 ≥ (7 : Int))) = true), ((decide (v46.1 ≥ (7 : Int))) = true), ((decide (v46.1 ≥ (7 : Int))) = true)]) rfl (by kernel_rfl) (allP2 h58 (allP2 h58 (allP2 h58 (allP1 h58)))) ?_
                obtain rfl := Option.some.inj h
                refine WO_fin [1, 2, 40, 41, 42, 58] [2] (fr' := [(1, aD (.slice (.pair tI (.slice tI))) a1), (2, .one (.ptr 2 0)), (40, aD (.slice (.pair tI (.slice tI))) a1), (41, aI (List.length a1 : Int)), (42, aI i43), (58, aB true)]) (L' := [(2, .cells [.dat tI a0])]) (by kernel_rfl) (by kernel_rfl) ?_
                exact exQ_mk (by kernel_rfl) (by kernel_rfl)
              · replace h := ofF h58 h
                refine WO_run (j := 11) (k := 2) (orcs := [(18, .known false), (20, .known false)]) (kF := [1, 2, 40, 41, 42, 54, 56]) (kL := [2, 8]) (fr' := [(1, aD (.slice (.pair tI (.slice tI))) a1), (2, .one (.ptr 2 0)), (40, aD (.slice (.pair tI (.slice tI))) a1), (41, aI (List.length a1 : Int)), (42, aI i43), (54, aB (decide (v46.1 ≥ (7 : Int)))), (56, aD (.slice tI) v46.2)]) (L' := [(2, .cells [.dat tI a0]), (8, .one (.pair tI (.slice tI)) v46)]) (obs := [((decide (v46.1 ≥ (7 : Int))) = false), ((decide (v46.1 ≥ (7 : Int))) = false)]) rfl (by kernel_rfl) (allP2 h58 (allP1 h58)) ?_
                obtain ⟨r59, h60, h⟩ := bind_of h
                refine WO_call0 (us := [none, none]) (d := 57) (p := ((decide (v46.1 ≥ (7 : Int))) = false)) (j := 12) rfl ⟨by kernel_rfl, by kernel_rfl, by kernel_rfl⟩ h58 (slices_ContainsFunc_Lintint_with_guess_Zeros_2_ok h60) (by kernel_rfl) ?_
                refine WO_run (j := 13) (k := 1) (orcs := [(25, .val (.dat .bool false))]) (kF := [1, 2, 40, 41, 42, 58]) (kL := [2, 8]) (fr' := [(1, aD (.slice (.pair tI (.slice tI))) a1), (2, .one (.ptr 2 0)), (40, aD (.slice (.pair tI (.slice tI))) a1), (41, aI (List.length a1 : Int)), (42, aI i43), (58, aB r59)]) (L' := [(2, .cells [.dat tI a0]), (8, .one (.pair tI (.slice tI)) v46)]) (obs := [((decide (v46.1 ≥ (7 : Int))) = false)]) rfl (by kernel_rfl) (allP1 h58) ?_
                obtain rfl := Option.some.inj h
                refine WO_fin [1, 2, 40, 41, 42, 58] [2] (fr' := [(1, aD (.slice (.pair tI (.slice tI))) a1), (2, .one (.ptr 2 0)), (40, aD (.slice (.pair tI (.slice tI))) a1), (41, aI (List.length a1 : Int)), (42, aI i43), (58, aB r59)]) (L' := [(2, .cells [.dat tI a0])]) (by kernel_rfl) (by kernel_rfl) ?_
                exact exQ_mk (by kernel_rfl) (by kernel_rfl)
          · intro e fr L hJ
            obtain ⟨rfl, rfl, rfl⟩ := hJ
            refine LT_keep [1, 2, 40, 41, 42, 58] [2] (fr' := [(1, aD (.slice (.pair tI (.slice tI))) a1), (2, .one (.ptr 2 0)), (40, aD (.slice (.pair tI (.slice tI))) a1), (41, aI (List.length a1 : Int)), (42, aI i43), (58, aB v61)]) (L' := [(2, .cells [.dat tI a0])]) (by kernel_rfl) ?_
            refine seqQ_norm ?_
            refine W_cond (o := .tmp 58) (b := v61) (by kernel_rfl) (by kernel_rfl) (fun h63 => ?_) (fun h63 => ?_)
            · replace h := ofT h63 h
              refine W_seq (by kernel_rfl) ?_
              refine W_run 3 [] [4, 5, 6] [] (fr' := [(4, aI (0 : Int)), (5, aI (0 : Int)), (6, aI (4 : Int))]) (L' := []) (obs := []) (by kernel_rfl) (by kernel_rfl) (by kernel_rfl) allP0 ?_
              refine seqQ_norm ?_
              obtain rfl := Option.some.inj h
              refine W_ret [4, 5, 6] [] (fr' := [(4, aI (0 : Int)), (5, aI (0 : Int)), (6, aI (4 : Int))]) (L' := []) (by kernel_rfl) (by kernel_rfl) ?_
              refine blockQ_ret ?_
              refine seqQ_ret ?_
              refine round_ret ?_
              refine escQ_ret ?_
              exact exQ_mk (by kernel_rfl) (by kernel_rfl)
            · replace h := ofF h63 h
              refine W_skip [1, 2, 40, 41, 42] [2] (fr' := [(1, aD (.slice (.pair tI (.slice tI))) a1), (2, .one (.ptr 2 0)), (40, aD (.slice (.pair tI (.slice tI))) a1), (41, aI (List.length a1 : Int)), (42, aI i43)]) (L' := [(2, .cells [.dat tI a0])]) (by kernel_rfl) (by kernel_rfl) ?_
              refine blockQ_norm ?_
              refine seqQ_norm ?_
              obtain rfl := Option.some.inj h
              refine W_run 2 [] [1, 2, 40, 41, 42] [2] (fr' := [(1, aD (.slice (.pair tI (.slice tI))) a1), (2, .one (.ptr 2 0)), (40, aD (.slice (.pair tI (.slice tI))) a1), (41, aI (List.length a1 : Int)), (42, aI (w64 (i43 + (1 : Int))))]) (L' := [(2, .cells [.dat tI a0])]) (obs := []) (by kernel_rfl) (by kernel_rfl) (by kernel_rfl) allP0 ?_
              exact round_next' (by kernel_rfl) (by kernel_rfl)
        · obtain rfl := stepL_false h48 h
          refine W_exit (id := 0) [1, 2] [2] (fr' := [(1, aD (.slice (.pair tI (.slice tI))) a1), (2, .one (.ptr 2 0))]) (L' := [(2, .cells [.dat tI a0])]) (by kernel_rfl) (by kernel_rfl) ?_
          refine seqQ_exit ?_
          refine round_exit ?_
          refine escQ_brk ?_
          exact exQ_mk (by kernel_rfl) (by kernel_rfl)
      · intro e fr L hJ
        rcases v65 with v70 | v71
        · obtain ⟨rfl, rfl, rfl⟩ := hJ
          obtain rfl := Option.some.inj h
          refine LT_keep [4, 5, 6] [] (fr' := [(4, aI v70.1), (5, aI v70.2.1), (6, aI v70.2.2)]) (L' := []) (by kernel_rfl) ?_
          refine blockQ_ret ?_
          refine seqQ_ret ?_
          exact retQ_mk (by kernel_rfl) (by kernel_rfl) (by kernel_rfl)
        · obtain ⟨rfl, rfl, rfl⟩ := hJ
          refine LT_keep [1, 2] [2] (fr' := [(1, aD (.slice (.pair tI (.slice tI))) a1), (2, .one (.ptr 2 0))]) (L' := [(2, .cells [.dat tI a0])]) (by kernel_rfl) ?_
          refine blockQ_hit ?_
          refine seqQ_norm ?_
          refine W_seq (by kernel_rfl) ?_
          refine W_run 2 [] [1, 2, 9] [2, 60] (fr' := [(1, aD (.slice (.pair tI (.slice tI))) a1), (2, .one (.ptr 2 0)), (9, .one (.slc 60))]) (L' := [(2, .cells [.dat tI a0]), (60, .map (.arr 3 tI) tI (some [] : Option (List ((List Int) × Int))))]) (obs := []) (by kernel_rfl) (by kernel_rfl) (by kernel_rfl) allP0 ?_
          refine seqQ_norm ?_
          refine W_seq (by kernel_rfl) ?_
          refine W_seq (by kernel_rfl) ?_
          refine W_run 3 [] [2, 9, 61, 62, 63] [2, 60] (fr' := [(2, .one (.ptr 2 0)), (9, .one (.slc 60)), (61, aD (.slice (.pair tI (.slice tI))) a1), (62, aI (List.length a1 : Int)), (63, aI (0 : Int))]) (L' := [(2, .cells [.dat tI a0]), (60, .map (.arr 3 tI) tI (some [] : Option (List ((List Int) × Int))))]) (obs := []) (by kernel_rfl) (by kernel_rfl) (by kernel_rfl) allP0 ?_
          refine seqQ_norm ?_
          refine W_block (id := 2) (by kernel_rfl) ?_
          obtain ⟨v185, h186, h⟩ := bind_of h
          refine W_len (t := 61) (u := (.pair tI (.slice tI))) (xs := a1) (by kernel_rfl) (fun h189 => ?_)
          obtain ⟨h187, h188⟩ := forL_iter h189 h186
          refine W_weaken [2, 9, 61, 62, 63] [2, 60] (fr' := ((guess_Zeros_s21 a0 a1) ((0 : Int), (some [] : Option (List ((List Int) × Int))))).1) (L' := ((guess_Zeros_s21 a0 a1) ((0 : Int), (some [] : Option (List ((List Int) × Int))))).2) (by kernel_rfl) ?_
          refine W_cutK (W_loop (S := (guess_Zeros_s21 a0 a1)) (J := (exQ (.exit 2) (guess_Zeros_s22 a0))) (by kernel_rfl) ?_ h187 _ v185 h188) ?_
          · rintro ⟨i145, x146⟩ s h
            refine W_seq (by kernel_rfl) ?_
            refine W_run 1 [] [2, 9, 61, 62, 63, 64] [2, 60] (fr' := [(2, .one (.ptr 2 0)), (9, .one (.slc 60)), (61, aD (.slice (.pair tI (.slice tI))) a1), (62, aI (List.length a1 : Int)), (63, aI i145), (64, aB (decide (i145 < (List.length a1 : Int))))]) (L' := [(2, .cells [.dat tI a0]), (60, .map (.arr 3 tI) tI x146)]) (obs := []) (by kernel_rfl) (by kernel_rfl) (by kernel_rfl) allP0 ?_
            refine seqQ_norm ?_
            refine W_seq (by kernel_rfl) ?_
            refine W_cond (o := .tmp 64) (b := decide (i145 < (List.length a1 : Int))) (by kernel_rfl) (by kernel_rfl) (fun h150 => ?_) (fun h150 => ?_)
            · replace h := stepL_true h150 h
              obtain ⟨v148, _, h149, h, rfl⟩ := h
              refine W_skip [2, 9, 61, 62, 63] [2, 60] (fr' := [(2, .one (.ptr 2 0)), (9, .one (.slc 60)), (61, aD (.slice (.pair tI (.slice tI))) a1), (62, aI (List.length a1 : Int)), (63, aI i145)]) (L' := [(2, .cells [.dat tI a0]), (60, .map (.arr 3 tI) tI x146)]) (by kernel_rfl) (by kernel_rfl) ?_
              refine seqQ_norm ?_
              refine W_seq (by kernel_rfl) ?_
              refine W_block (id := 3) (by kernel_rfl) ?_
              refine W_seq (by kernel_rfl) ?_
              refine W_run 4 [(1, .val (.dat (.pair tI (.slice tI)) v148)), (5, .typed)] [2, 9, 11, 61, 62, 63] [2, 60, 11] (fr' := [(2, .one (.ptr 2 0)), (9, .one (.slc 60)), (11, .one (.ptr 11 0)), (61, aD (.slice (.pair tI (.slice tI))) a1), (62, aI (List.length a1 : Int)), (63, aI i145)]) (L' := [(2, .cells [.dat tI a0]), (60, .map (.arr 3 tI) tI x146), (11, .one (.pair tI (.slice tI)) v148)]) (obs := [Idx a1 i145 v148, True]) (by kernel_rfl) (by kernel_rfl) (by kernel_rfl) (allP2 (Idx.of h149) (allP1 trivial)) ?_
              refine seqQ_norm ?_
              refine W_seq (by kernel_rfl) ?_
              refine W_run 1 [(1, .typed)] [2, 9, 11, 12, 61, 62, 63] [2, 60, 11, 12] (fr' := [(2, .one (.ptr 2 0)), (9, .one (.slc 60)), (11, .one (.ptr 11 0)), (12, .one (.ptr 12 0)), (61, aD (.slice (.pair tI (.slice tI))) a1), (62, aI (List.length a1 : Int)), (63, aI i145)]) (L' := [(2, .cells [.dat tI a0]), (60, .map (.arr 3 tI) tI x146), (11, .one (.pair tI (.slice tI)) v148), (12, .one (.arr 3 tI) [(0 : Int), (0 : Int), (0 : Int)])]) (obs := []) (by kernel_rfl) (by kernel_rfl) (by kernel_rfl) allP0 ?_
              refine seqQ_norm ?_
              refine W_seq (by kernel_rfl) ?_
              refine W_seq (by kernel_rfl) ?_
              refine W_run 4 [] [2, 9, 11, 12, 61, 62, 63, 68, 69, 70] [2, 60, 11, 12] (fr' := [(2, .one (.ptr 2 0)), (9, .one (.slc 60)), (11, .one (.ptr 11 0)), (12, .one (.ptr 12 0)), (61, aD (.slice (.pair tI (.slice tI))) a1), (62, aI (List.length a1 : Int)), (63, aI i145), (68, aD (.slice tI) v148.2), (69, aI (List.length v148.2 : Int)), (70, aI (0 : Int))]) (L' := [(2, .cells [.dat tI a0]), (60, .map (.arr 3 tI) tI x146), (11, .one (.pair tI (.slice tI)) v148), (12, .one (.arr 3 tI) [(0 : Int), (0 : Int), (0 : Int)])]) (obs := []) (by kernel_rfl) (by kernel_rfl) (by kernel_rfl) allP0 ?_
              refine seqQ_norm ?_
              refine W_block (id := 4) (by kernel_rfl) ?_
              obtain ⟨v178, h179, h⟩ := bind_of h
              refine W_len (t := 68) (u := tI) (xs := v148.2) (by kernel_rfl) (fun h182 => ?_)
              obtain ⟨h180, h181⟩ := forL_iter h182 h179
              refine W_weaken [2, 9, 11, 12, 61, 62, 63, 68, 69, 70] [2, 60, 11, 12] (fr' := ((guess_Zeros_s18 a0 a1 i145 x146 v148) ((0 : Int), [(0 : Int), (0 : Int), (0 : Int)])).1) (L' := ((guess_Zeros_s18 a0 a1 i145 x146 v148) ((0 : Int), [(0 : Int), (0 : Int), (0 : Int)])).2) (by kernel_rfl) ?_
              refine W_cutK (W_loop (S := (guess_Zeros_s18 a0 a1 i145 x146 v148)) (J := (exQ (.exit 4) (guess_Zeros_s19 a0 a1 i145 x146 v148))) (by kernel_rfl) ?_ h180 _ v178 h181) ?_
              · rintro ⟨i166, x167⟩ s h
                refine W_seq (by kernel_rfl) ?_
                refine W_run 1 [] [2, 9, 11, 12, 61, 62, 63, 68, 69, 70, 71] [2, 60, 11, 12] (fr' := [(2, .one (.ptr 2 0)), (9, .one (.slc 60)), (11, .one (.ptr 11 0)), (12, .one (.ptr 12 0)), (61, aD (.slice (.pair tI (.slice tI))) a1), (62, aI (List.length a1 : Int)), (63, aI i145), (68, aD (.slice tI) v148.2), (69, aI (List.length v148.2 : Int)), (70, aI i166), (71, aB (decide (i166 < (List.length v148.2 : Int))))]) (L' := [(2, .cells [.dat tI a0]), (60, .map (.arr 3 tI) tI x146), (11, .one (.pair tI (.slice tI)) v148), (12, .one (.arr 3 tI) x167)]) (obs := []) (by kernel_rfl) (by kernel_rfl) (by kernel_rfl) allP0 ?_
                refine seqQ_norm ?_
                refine W_seq (by kernel_rfl) ?_
                refine W_cond (o := .tmp 71) (b := decide (i166 < (List.length v148.2 : Int))) (by kernel_rfl) (by kernel_rfl) (fun h171 => ?_) (fun h171 => ?_)
                · replace h := stepL_true h171 h
                  obtain ⟨v169, _, h170, h, rfl⟩ := h
                  refine W_skip [2, 9, 11, 12, 61, 62, 63, 68, 69, 70] [2, 60, 11, 12] (fr' := [(2, .one (.ptr 2 0)), (9, .one (.slc 60)), (11, .one (.ptr 11 0)), (12, .one (.ptr 12 0)), (61, aD (.slice (.pair tI (.slice tI))) a1), (62, aI (List.length a1 : Int)), (63, aI i145), (68, aD (.slice tI) v148.2), (69, aI (List.length v148.2 : Int)), (70, aI i166)]) (L' := [(2, .cells [.dat tI a0]), (60, .map (.arr 3 tI) tI x146), (11, .one (.pair tI (.slice tI)) v148), (12, .one (.arr 3 tI) x167)]) (by kernel_rfl) (by kernel_rfl) ?_
                  refine seqQ_norm ?_
                  refine W_seq (by kernel_rfl) ?_
                  refine W_block (id := 5) (by kernel_rfl) ?_
                  refine W_seq (by kernel_rfl) ?_
                  refine W_run 5 [(3, .val (.dat tI v169))] [2, 9, 11, 12, 13, 14, 61, 62, 63, 68, 69, 70] [2, 60, 11, 12] (fr' := [(2, .one (.ptr 2 0)), (9, .one (.slc 60)), (11, .one (.ptr 11 0)), (12, .one (.ptr 12 0)), (13, aI i166), (14, aI v169), (61, aD (.slice (.pair tI (.slice tI))) a1), (62, aI (List.length a1 : Int)), (63, aI i145), (68, aD (.slice tI) v148.2), (69, aI (List.length v148.2 : Int)), (70, aI i166)]) (L' := [(2, .cells [.dat tI a0]), (60, .map (.arr 3 tI) tI x146), (11, .one (.pair tI (.slice tI)) v148), (12, .one (.arr 3 tI) x167)]) (obs := [Idx v148.2 i166 v169]) (by kernel_rfl) (by kernel_rfl) (by kernel_rfl) (allP1 (Idx.of h170)) ?_
                  refine seqQ_norm ?_
                  refine W_region (by kernel_rfl) ?_
                  refine WO_run (j := 2) (k := 2) (orcs := []) (kF := [2, 9, 11, 12, 61, 62, 63, 68, 69, 70, 75, 76]) (kL := [2, 11, 12, 60]) (fr' := [(2, .one (.ptr 2 0)), (9, .one (.slc 60)), (11, .one (.ptr 11 0)), (12, .one (.ptr 12 0)), (61, aD (.slice (.pair tI (.slice tI))) a1), (62, aI (List.length a1 : Int)), (63, aI i145), (68, aD (.slice tI) v148.2), (69, aI (List.length v148.2 : Int)), (70, aI i166), (75, aI i166), (76, aI v169)]) (L' := [(2, .cells [.dat tI a0]), (11, .one (.pair tI (.slice tI)) v148), (12, .one (.arr 3 tI) x167), (60, .map (.arr 3 tI) tI x146)]) (obs := []) rfl (by kernel_rfl) allP0 ?_
                  obtain ⟨r172, h173, h⟩ := bind_of h
                  refine WO_call0 (us := [none]) (d := 77) (p := True) (j := 3) rfl ⟨by kernel_rfl, by kernel_rfl, by kernel_rfl⟩ trivial (guess_reduced_ok h173) (by kernel_rfl) ?_
                  obtain ⟨_, h174, h⟩ := bind_of h
                  replace h174 := ck_some h174
                  obtain ⟨v175, h176, h⟩ := bind_of h
                  refine WO_run (j := 5) (k := 2) (orcs := []) (kF := [2, 9, 11, 12, 61, 62, 63, 68, 69, 70]) (kL := [2, 11, 12, 60]) (fr' := [(2, .one (.ptr 2 0)), (9, .one (.slc 60)), (11, .one (.ptr 11 0)), (12, .one (.ptr 12 0)), (61, aD (.slice (.pair tI (.slice tI))) a1), (62, aI (List.length a1 : Int)), (63, aI i145), (68, aD (.slice tI) v148.2), (69, aI (List.length v148.2 : Int)), (70, aI i166)]) (L' := [(2, .cells [.dat tI a0]), (11, .one (.pair tI (.slice tI)) v148), (12, .one (.arr 3 tI) (List.set x167 (Int.toNat i166) r172)), (60, .map (.arr 3 tI) tI x146)]) (obs := [InR i166 3, InR i166 (List.length x167)]) rfl (by kernel_rfl) (allP2 h174 (allP1 (InR.of h176))) ?_
                  refine WO_fin [2, 9, 11, 12, 61, 62, 63, 68, 69, 70] [2, 60, 11, 12] (fr' := [(2, .one (.ptr 2 0)), (9, .one (.slc 60)), (11, .one (.ptr 11 0)), (12, .one (.ptr 12 0)), (61, aD (.slice (.pair tI (.slice tI))) a1), (62, aI (List.length a1 : Int)), (63, aI i145), (68, aD (.slice tI) v148.2), (69, aI (List.length v148.2 : Int)), (70, aI i166)]) (L' := [(2, .cells [.dat tI a0]), (60, .map (.arr 3 tI) tI x146), (11, .one (.pair tI (.slice tI)) v148), (12, .one (.arr 3 tI) (List.set x167 (Int.toNat i166) r172))]) (by kernel_rfl) (by kernel_rfl) ?_
                  refine blockQ_norm ?_
                  refine seqQ_norm ?_
                  obtain rfl := Option.some.inj h
                  refine W_run 2 [] [2, 9, 11, 12, 61, 62, 63, 68, 69, 70] [2, 60, 11, 12] (fr' := [(2, .one (.ptr 2 0)), (9, .one (.slc 60)), (11, .one (.ptr 11 0)), (12, .one (.ptr 12 0)), (61, aD (.slice (.pair tI (.slice tI))) a1), (62, aI (List.length a1 : Int)), (63, aI i145), (68, aD (.slice tI) v148.2), (69, aI (List.length v148.2 : Int)), (70, aI (w64 (i166 + (1 : Int))))]) (L' := [(2, .cells [.dat tI a0]), (60, .map (.arr 3 tI) tI x146), (11, .one (.pair tI (.slice tI)) v148), (12, .one (.arr 3 tI) (List.set x167 (Int.toNat i166) r172))]) (obs := []) (by kernel_rfl) (by kernel_rfl) (by kernel_rfl) allP0 ?_
                  exact round_next' (by kernel_rfl) (by kernel_rfl)
                · obtain rfl := stepL_false h171 h
                  refine W_exit (id := 4) [2, 9, 11, 12, 61, 62, 63] [2, 60, 11, 12] (fr' := [(2, .one (.ptr 2 0)), (9, .one (.slc 60)), (11, .one (.ptr 11 0)), (12, .one (.ptr 12 0)), (61, aD (.slice (.pair tI (.slice tI))) a1), (62, aI (List.length a1 : Int)), (63, aI i145)]) (L' := [(2, .cells [.dat tI a0]), (60, .map (.arr 3 tI) tI x146), (11, .one (.pair tI (.slice tI)) v148), (12, .one (.arr 3 tI) x167)]) (by kernel_rfl) (by kernel_rfl) ?_
                  refine seqQ_exit ?_
                  refine round_exit ?_
                  exact exQ_mk (by kernel_rfl) (by kernel_rfl)
              · intro e fr L hJ
                obtain ⟨rfl, rfl, rfl⟩ := hJ
                refine LT_keep [2, 9, 11, 12, 61, 62, 63] [2, 60, 11, 12] (fr' := [(2, .one (.ptr 2 0)), (9, .one (.slc 60)), (11, .one (.ptr 11 0)), (12, .one (.ptr 12 0)), (61, aD (.slice (.pair tI (.slice tI))) a1), (62, aI (List.length a1 : Int)), (63, aI i145)]) (L' := [(2, .cells [.dat tI a0]), (60, .map (.arr 3 tI) tI x146), (11, .one (.pair tI (.slice tI)) v148), (12, .one (.arr 3 tI) v178)]) (by kernel_rfl) ?_
                refine blockQ_hit ?_
                refine seqQ_norm ?_
                obtain ⟨_, h183, h⟩ := bind_of h
                replace h183 := ck_some h183
                refine W_draw2 9 [] [] [2, 9, 61, 62, 63] [2, 60] (fr' := [(2, .one (.ptr 2 0)), (9, .one (.slc 60)), (61, aD (.slice (.pair tI (.slice tI))) a1), (62, aI (List.length a1 : Int)), (63, aI i145)]) (L' := [(2, .cells [.dat tI a0]), (60, .map (.arr 3 tI) tI (Option.map (fun l => mPut (deqT (.arr 3 tI)) l v178 (Int.tmod (w64 ((Option.getD (mGet (deqT (.arr 3 tI)) (Option.getD x146 []) v178) (0 : Int)) + v148.1)) (7 : Int))) x146))]) (out := [(80, .one (.slc 60)), (81, aD (.arr 3 tI) v178), (82, .one (.slc 60)), (83, aD (.arr 3 tI) v178), (84, aI (Option.getD (mGet (deqT (.arr 3 tI)) (Option.getD x146 []) v178) (0 : Int))), (85, .one (.ptr 11 0)), (86, aI v148.1), (87, aI (w64 ((Option.getD (mGet (deqT (.arr 3 tI)) (Option.getD x146 []) v178) (0 : Int)) + v148.1))), (88, aI (Int.tmod (w64 ((Option.getD (mGet (deqT (.arr 3 tI)) (Option.getD x146 []) v178) (0 : Int)) + v148.1)) (7 : Int)))]) (obs := [((7 : Int) ≠ 0)]) (obs2 := [Option.isSome x146 = true]) (calls := []) (by kernel_rfl) (by kernel_rfl) (by kernel_rfl) (by kernel_rfl) (allP1 (by decide)) allC0 (by kernel_rfl) (allP1 h183) ?_
                refine blockQ_norm ?_
                refine seqQ_norm ?_
                obtain rfl := Option.some.inj h
                refine W_run 2 [] [2, 9, 61, 62, 63] [2, 60] (fr' := [(2, .one (.ptr 2 0)), (9, .one (.slc 60)), (61, aD (.slice (.pair tI (.slice tI))) a1), (62, aI (List.length a1 : Int)), (63, aI (w64 (i145 + (1 : Int))))]) (L' := [(2, .cells [.dat tI a0]), (60, .map (.arr 3 tI) tI (Option.map (fun l => mPut (deqT (.arr 3 tI)) l v178 (Int.tmod (w64 ((Option.getD (mGet (deqT (.arr 3 tI)) (Option.getD x146 []) v178) (0 : Int)) + v148.1)) (7 : Int))) x146))]) (obs := []) (by kernel_rfl) (by kernel_rfl) (by kernel_rfl) allP0 ?_
                exact round_next' (by kernel_rfl) (by kernel_rfl)
            · obtain rfl := stepL_false h150 h
              refine W_exit (id := 2) [2, 9] [2, 60] (fr' := [(2, .one (.ptr 2 0)), (9, .one (.slc 60))]) (L' := [(2, .cells [.dat tI a0]), (60, .map (.arr 3 tI) tI x146)]) (by kernel_rfl) (by kernel_rfl) ?_
              refine seqQ_exit ?_
              refine round_exit ?_
              exact exQ_mk (by kernel_rfl) (by kernel_rfl)
          · intro e fr L hJ
            obtain ⟨rfl, rfl, rfl⟩ := hJ
            refine LT_keep [2, 9] [2, 60] (fr' := [(2, .one (.ptr 2 0)), (9, .one (.slc 60))]) (L' := [(2, .cells [.dat tI a0]), (60, .map (.arr 3 tI) tI v185)]) (by kernel_rfl) ?_
            refine blockQ_hit ?_
            refine seqQ_norm ?_
            refine W_seq (by kernel_rfl) ?_
            refine W_run 1 [] [2, 9, 15] [2, 60] (fr' := [(2, .one (.ptr 2 0)), (9, .one (.slc 60)), (15, aI (-1 : Int))]) (L' := [(2, .cells [.dat tI a0]), (60, .map (.arr 3 tI) tI v185)]) (obs := []) (by kernel_rfl) (by kernel_rfl) (by kernel_rfl) allP0 ?_
            refine seqQ_norm ?_
            refine W_seq (by kernel_rfl) ?_
            refine W_seq (by kernel_rfl) ?_
            obtain ⟨l190, h191, h⟩ := bind_of h
            refine W_region (by kernel_rfl) ?_
            refine WO_run (j := 1) (k := 1) (orcs := []) (kF := [2, 9, 15, 90]) (kL := [2, 60]) (fr' := [(2, .one (.ptr 2 0)), (9, .one (.slc 60)), (15, aI (-1 : Int)), (90, .one (.slc 60))]) (L' := [(2, .cells [.dat tI a0]), (60, .map (.arr 3 tI) tI v185)]) (obs := []) rfl (by kernel_rfl) allP0 ?_
            refine WO_range (d := 91) (s := 60) (k := (.arr 3 tI)) (v := tI) (m := v185) (l := l190) (j := 2) rfl (by kernel_rfl) h191 (fun bm192 bi193 es195 ck194 h196 => ?_)
            refine WO_fin [2, 9, 15, 91] [2, 60, 91] (fr' := [(2, .one (.ptr 2 0)), (9, .one (.slc 60)), (15, aI (-1 : Int)), (91, .one (.ptr 91 0))]) (L' := [(2, .cells [.dat tI a0]), (60, .raw bm192 (.map es195 ck194)), (91, .raw bi193 (.mapIter (some bm192) ck194 #[] ck194))]) (by kernel_rfl) (by kernel_rfl) ?_
            refine seqQ_norm ?_
            refine W_block (id := 6) (by kernel_rfl) ?_
            obtain ⟨v225, h226, h⟩ := bind_of h
            refine W_weaken [2, 9, 15, 91] [2, 60, 91] (fr' := ((fun v sn197 => (guess_Zeros_s24 a0 bm192 bi193 ck194 es195 sn197) v) (-1 : Int) #[]).1) (L' := ((fun v sn197 => (guess_Zeros_s24 a0 bm192 bi193 ck194 es195 sn197) v) (-1 : Int) #[]).2) (by kernel_rfl) ?_
            refine W_cutK (W_rloop (k := (.arr 3 tI)) (v := tI) (bm := bm192) (b := guess_Zeros_b23) (x0 := (-1 : Int)) (S := (fun v sn197 => (guess_Zeros_s24 a0 bm192 bi193 ck194 es195 sn197) v)) (J := (exQ (.exit 6) (guess_Zeros_s25 a0 l190)) v225) (t := 91) (it := 91) (s := 60) (dn := 92) (dx := 93) (id := 6) (bi := bi193) (by kernel_rfl) (by kernel_rfl) (fun _ _ => by kernel_rfl) (fun _ _ => by kernel_rfl) (fun _ _ => by kernel_rfl) h196 h226 ?_ ?_) ?_
            · intro p201 x210 h227 sn197 e198 h199 h200 h
              refine W_block (id := 7) (by kernel_rfl) ?_
              refine W_seq (by kernel_rfl) ?_
              refine W_region (by kernel_rfl) ?_
              refine WO_entry (d := 94) (it := 91) (s := 60) (bi := bi193) (bm := bm192) (ck := ck194) (es := es195) (sn := sn197) (e := e198) (k := (.arr 3 tI)) (v := tI) (l := l190) (p := p201) (j := 1) rfl (by kernel_rfl) (by kernel_rfl) (by kernel_rfl) h196 h199 h200 ?_
              refine WO_run (j := 6) (k := 5) (orcs := [(7, .typed)]) (kF := [2, 9, 15, 16, 17, 91]) (kL := [2, 16, 60, 91]) (fr' := [(2, .one (.ptr 2 0)), (9, .one (.slc 60)), (15, aI x210), (16, .one (.ptr 16 0)), (17, aI p201.2), (91, .one (.ptr 91 0))]) (L' := [(2, .cells [.dat tI a0]), (16, .one (.arr 3 tI) p201.1), (60, .raw bm192 (.map es195 ck194)), (91, .raw bi193 (.mapIter (some bm192) ck194 (Array.push sn197 (MapEntry.born e198)) ck194))]) (obs := [True]) rfl (by kernel_rfl) (allP1 trivial) ?_
              refine WO_fin [2, 9, 15, 16, 17, 91] [2, 60, 16, 91] (fr' := [(2, .one (.ptr 2 0)), (9, .one (.slc 60)), (15, aI x210), (16, .one (.ptr 16 0)), (17, aI p201.2), (91, .one (.ptr 91 0))]) (L' := [(2, .cells [.dat tI a0]), (60, .raw bm192 (.map es195 ck194)), (16, .one (.arr 3 tI) p201.1), (91, .raw bi193 (.mapIter (some bm192) ck194 (Array.push sn197 (MapEntry.born e198)) ck194))]) (by kernel_rfl) (by kernel_rfl) ?_
              refine seqQ_norm ?_
              refine W_seq (by kernel_rfl) ?_
              refine W_run 2 [] [2, 9, 15, 16, 91, 98] [2, 60, 16, 91] (fr' := [(2, .one (.ptr 2 0)), (9, .one (.slc 60)), (15, aI x210), (16, .one (.ptr 16 0)), (91, .one (.ptr 91 0)), (98, aB (p201.2 != (0 : Int)))]) (L' := [(2, .cells [.dat tI a0]), (60, .raw bm192 (.map es195 ck194)), (16, .one (.arr 3 tI) p201.1), (91, .raw bi193 (.mapIter (some bm192) ck194 (Array.push sn197 (MapEntry.born e198)) ck194))]) (obs := []) (by kernel_rfl) (by kernel_rfl) (by kernel_rfl) allP0 ?_
              refine seqQ_norm ?_
              refine W_cond (o := .tmp 98) (b := p201.2 != (0 : Int)) (by kernel_rfl) (by kernel_rfl) (fun h218 => ?_) (fun h218 => ?_)
              · replace h := ofT h218 h
                obtain ⟨v219, h220, h⟩ := bind_of h
                obtain ⟨v221, h222, h⟩ := bind_of h
                obtain ⟨v223, h224, h⟩ := bind_of h
                obtain rfl := Option.some.inj h
                refine W_run 11 [(5, .val (.dat tI v219)), (9, .val (.dat tI v221)), (15, .val (.dat tI v223))] [2, 9, 15, 91] [2, 60, 91] (fr' := [(2, .one (.ptr 2 0)), (9, .one (.slc 60)), (15, aI (imax x210 (w64 ((w64 (v219 + v221)) + v223)))), (91, .one (.ptr 91 0))]) (L' := [(2, .cells [.dat tI a0]), (60, .raw bm192 (.map es195 ck194)), (91, .raw bi193 (.mapIter (some bm192) ck194 (Array.push sn197 (MapEntry.born e198)) ck194))]) (obs := [InR (0 : Int) 3, Idx p201.1 (0 : Int) v219, InR (1 : Int) 3, Idx p201.1 (1 : Int) v221, InR (2 : Int) 3, Idx p201.1 (2 : Int) v223]) (by kernel_rfl) (by kernel_rfl) (by kernel_rfl) (allP2 (by unfold InR; decide) (allP2 (Idx.of h220) (allP2 (by unfold InR; decide) (allP2 (Idx.of h222) (allP2 (by unfold InR; decide) (allP1 (Idx.of h224))))))) ?_
                refine blockQ_norm ?_
                exact rangeQ_mk (by kernel_rfl) (by kernel_rfl)
              · replace h := ofF h218 h
                obtain rfl := Option.some.inj h
                refine W_skip [2, 9, 15, 91] [2, 60, 91] (fr' := [(2, .one (.ptr 2 0)), (9, .one (.slc 60)), (15, aI x210), (91, .one (.ptr 91 0))]) (L' := [(2, .cells [.dat tI a0]), (60, .raw bm192 (.map es195 ck194)), (91, .raw bi193 (.mapIter (some bm192) ck194 (Array.push sn197 (MapEntry.born e198)) ck194))]) (by kernel_rfl) (by kernel_rfl) ?_
                refine blockQ_norm ?_
                exact rangeQ_mk (by kernel_rfl) (by kernel_rfl)
            · intro sn197
              refine LT_keep [2, 9, 15] [2, 60] (fr' := [(2, .one (.ptr 2 0)), (9, .one (.slc 60)), (15, aI v225)]) (L' := [(2, .cells [.dat tI a0]), (60, .map (.arr 3 tI) tI (some l190 : Option (List ((List Int) × Int))))]) (by kernel_rfl) ?_
              exact exQ_mk (by kernel_rfl) (by kernel_rfl)
            · intro e fr L hJ
              obtain ⟨rfl, rfl, rfl⟩ := hJ
              refine LT_keep [2, 9, 15] [2, 60] (fr' := [(2, .one (.ptr 2 0)), (9, .one (.slc 60)), (15, aI v225)]) (L' := [(2, .cells [.dat tI a0]), (60, .map (.arr 3 tI) tI (some l190 : Option (List ((List Int) × Int))))]) (by kernel_rfl) ?_
              refine blockQ_hit ?_
              refine seqQ_norm ?_
              refine W_seq (by kernel_rfl) ?_
              refine W_run 1 [] [2, 9, 15, 18] [2, 60] (fr' := [(2, .one (.ptr 2 0)), (9, .one (.slc 60)), (15, aI v225), (18, aI (0 : Int))]) (L' := [(2, .cells [.dat tI a0]), (60, .map (.arr 3 tI) tI (some l190 : Option (List ((List Int) × Int))))]) (obs := []) (by kernel_rfl) (by kernel_rfl) (by kernel_rfl) allP0 ?_
              refine seqQ_norm ?_
              refine W_seq (by kernel_rfl) ?_
              obtain ⟨_, h228, h⟩ := bind_of h
              replace h228 := ck_some h228
              refine W_run 3 [] [2, 9, 15, 18, 19] [2, 60, 110] (fr' := [(2, .one (.ptr 2 0)), (9, .one (.slc 60)), (15, aI v225), (18, aI (0 : Int)), (19, .one (.slc 110))]) (L' := [(2, .cells [.dat tI a0]), (60, .map (.arr 3 tI) tI (some l190 : Option (List ((List Int) × Int)))), (110, .seq tI (List.replicate (Int.toNat a0) (0 : Int)))]) (obs := [0 ≤ a0 ∧ a0 = a0 ∧ SmallLen a0]) (by kernel_rfl) (by kernel_rfl) (by kernel_rfl) (allP1 h228) ?_
              refine seqQ_norm ?_
              refine W_block (id := 8) (by kernel_rfl) ?_
              obtain ⟨v1053, h1054, h⟩ := bind_of h
              refine W_weaken [2, 9, 15, 18, 19] [2, 60, 110] (fr' := ((guess_Zeros_s165 a0 v225) ((0 : Int), (some l190 : Option (List ((List Int) × Int))), List.replicate (Int.toNat a0) (0 : Int))).1) (L' := ((guess_Zeros_s165 a0 v225) ((0 : Int), (some l190 : Option (List ((List Int) × Int))), List.replicate (Int.toNat a0) (0 : Int))).2) (by kernel_rfl) ?_
              refine W_cutK (W_loop (S := (guess_Zeros_s165 a0 v225)) (J := (exQ .ret guess_Zeros_s166)) (by kernel_rfl) ?_ fuel _ v1053 h1054) ?_
              · rintro x504 s h
                refine W_block (id := 9) (by kernel_rfl) ?_
                refine W_seq (by kernel_rfl) ?_
                refine W_run 1 [] [2, 9, 15, 18, 19, 20] [2, 60, 110] (fr' := [(2, .one (.ptr 2 0)), (9, .one (.slc 60)), (15, aI v225), (18, aI x504.1), (19, .one (.slc 110)), (20, aI (0 : Int))]) (L' := [(2, .cells [.dat tI a0]), (60, .map (.arr 3 tI) tI x504.2.1), (110, .seq tI x504.2.2)]) (obs := []) (by kernel_rfl) (by kernel_rfl) (by kernel_rfl) allP0 ?_
                refine seqQ_norm ?_
                refine W_seq (by kernel_rfl) ?_
                refine W_seq (by kernel_rfl) ?_
                obtain ⟨l779, h780, h⟩ := bind_of h
                refine W_region (by kernel_rfl) ?_
                refine WO_run (j := 1) (k := 1) (orcs := []) (kF := [2, 9, 15, 18, 19, 20, 111]) (kL := [2, 60, 110]) (fr' := [(2, .one (.ptr 2 0)), (9, .one (.slc 60)), (15, aI v225), (18, aI x504.1), (19, .one (.slc 110)), (20, aI (0 : Int)), (111, .one (.slc 60))]) (L' := [(2, .cells [.dat tI a0]), (60, .map (.arr 3 tI) tI x504.2.1), (110, .seq tI x504.2.2)]) (obs := []) rfl (by kernel_rfl) allP0 ?_
                refine WO_range (d := 112) (s := 60) (k := (.arr 3 tI)) (v := tI) (m := x504.2.1) (l := l779) (j := 2) rfl (by kernel_rfl) h780 (fun bm781 bi782 es784 ck783 h785 => ?_)
                refine WO_fin [2, 9, 15, 18, 19, 20, 112] [2, 60, 110, 112] (fr' := [(2, .one (.ptr 2 0)), (9, .one (.slc 60)), (15, aI v225), (18, aI x504.1), (19, .one (.slc 110)), (20, aI (0 : Int)), (112, .one (.ptr 112 0))]) (L' := [(2, .cells [.dat tI a0]), (60, .raw bm781 (.map es784 ck783)), (110, .seq tI x504.2.2), (112, .raw bi782 (.mapIter (some bm781) ck783 #[] ck783))]) (by kernel_rfl) (by kernel_rfl) ?_
                refine seqQ_norm ?_
                refine W_block (id := 10) (by kernel_rfl) ?_
                obtain ⟨v994, h995, h⟩ := bind_of h
                refine W_weaken [2, 9, 15, 18, 19, 20, 112] [2, 60, 110, 112] (fr' := ((fun v sn786 => (guess_Zeros_s155 a0 v225 x504 bm781 bi782 ck783 es784 sn786) v) (0 : Int) #[]).1) (L' := ((fun v sn786 => (guess_Zeros_s155 a0 v225 x504 bm781 bi782 ck783 es784 sn786) v) (0 : Int) #[]).2) (by kernel_rfl) ?_
                refine W_cutK (W_rloop (k := (.arr 3 tI)) (v := tI) (bm := bm781) (b := (guess_Zeros_b154 x504)) (x0 := (0 : Int)) (S := (fun v sn786 => (guess_Zeros_s155 a0 v225 x504 bm781 bi782 ck783 es784 sn786) v)) (J := (exQ (.exit 10) (guess_Zeros_s156 a0 v225 x504 l779)) v994) (t := 112) (it := 112) (s := 60) (dn := 113) (dx := 114) (id := 10) (bi := bi782) (by kernel_rfl) (by kernel_rfl) (fun _ _ => by kernel_rfl) (fun _ _ => by kernel_rfl) (fun _ _ => by kernel_rfl) h785 h995 ?_ ?_) ?_
                · intro p790 x859 h996 sn786 e787 h788 h789 h
                  refine W_block (id := 11) (by kernel_rfl) ?_
                  refine W_seq (by kernel_rfl) ?_
                  refine W_region (by kernel_rfl) ?_
                  refine WO_entry (d := 115) (it := 112) (s := 60) (bi := bi782) (bm := bm781) (ck := ck783) (es := es784) (sn := sn786) (e := e787) (k := (.arr 3 tI)) (v := tI) (l := l779) (p := p790) (j := 1) rfl (by kernel_rfl) (by kernel_rfl) (by kernel_rfl) h785 h788 h789 ?_
                  refine WO_run (j := 6) (k := 5) (orcs := [(7, .typed)]) (kF := [2, 9, 15, 18, 19, 20, 21, 22, 112]) (kL := [2, 21, 60, 110, 112]) (fr' := [(2, .one (.ptr 2 0)), (9, .one (.slc 60)), (15, aI v225), (18, aI x504.1), (19, .one (.slc 110)), (20, aI x859), (21, .one (.ptr 21 0)), (22, aI p790.2), (112, .one (.ptr 112 0))]) (L' := [(2, .cells [.dat tI a0]), (21, .one (.arr 3 tI) p790.1), (60, .raw bm781 (.map es784 ck783)), (110, .seq tI x504.2.2), (112, .raw bi782 (.mapIter (some bm781) ck783 (Array.push sn786 (MapEntry.born e787)) ck783))]) (obs := [True]) rfl (by kernel_rfl) (allP1 trivial) ?_
                  refine WO_fin [2, 9, 15, 18, 19, 20, 21, 22, 112] [2, 60, 110, 21, 112] (fr' := [(2, .one (.ptr 2 0)), (9, .one (.slc 60)), (15, aI v225), (18, aI x504.1), (19, .one (.slc 110)), (20, aI x859), (21, .one (.ptr 21 0)), (22, aI p790.2), (112, .one (.ptr 112 0))]) (L' := [(2, .cells [.dat tI a0]), (60, .raw bm781 (.map es784 ck783)), (110, .seq tI x504.2.2), (21, .one (.arr 3 tI) p790.1), (112, .raw bi782 (.mapIter (some bm781) ck783 (Array.push sn786 (MapEntry.born e787)) ck783))]) (by kernel_rfl) (by kernel_rfl) ?_
                  refine seqQ_norm ?_
                  refine W_seq (by kernel_rfl) ?_
                  refine W_seq (by kernel_rfl) ?_
                  refine W_run 3 [] [2, 9, 15, 18, 19, 20, 21, 22, 112, 118, 119, 120] [2, 60, 110, 21, 112] (fr' := [(2, .one (.ptr 2 0)), (9, .one (.slc 60)), (15, aI v225), (18, aI x504.1), (19, .one (.slc 110)), (20, aI x859), (21, .one (.ptr 21 0)), (22, aI p790.2), (112, .one (.ptr 112 0)), (118, .one (.slc 110)), (119, aI (List.length x504.2.2 : Int)), (120, aI (0 : Int))]) (L' := [(2, .cells [.dat tI a0]), (60, .raw bm781 (.map es784 ck783)), (110, .seq tI x504.2.2), (21, .one (.arr 3 tI) p790.1), (112, .raw bi782 (.mapIter (some bm781) ck783 (Array.push sn786 (MapEntry.born e787)) ck783))]) (obs := []) (by kernel_rfl) (by kernel_rfl) (by kernel_rfl) allP0 ?_
                  refine seqQ_norm ?_
                  refine W_block (id := 12) (by kernel_rfl) ?_
                  obtain ⟨v989, h990, h⟩ := bind_of h
                  refine W_lenS (s := 110) (u := tI) (xs := x504.2.2) (by kernel_rfl) (fun h993 => ?_)
                  obtain ⟨h991, h992⟩ := forL_iter h993 h990
                  refine W_weaken [2, 9, 15, 18, 19, 20, 21, 22, 112, 118, 119, 120] [2, 60, 110, 21, 112] (fr' := ((guess_Zeros_s152 a0 v225 x504 bm781 bi782 ck783 es784 sn786 e787 p790 x859) ((0 : Int), p790.2)).1) (L' := ((guess_Zeros_s152 a0 v225 x504 bm781 bi782 ck783 es784 sn786 e787 p790 x859) ((0 : Int), p790.2)).2) (by kernel_rfl) ?_
                  refine W_cutK (W_loop (S := (guess_Zeros_s152 a0 v225 x504 bm781 bi782 ck783 es784 sn786 e787 p790 x859)) (J := (exQ (.exit 12) (guess_Zeros_s153 a0 v225 x504 bm781 bi782 ck783 es784 sn786 e787 x859))) (by kernel_rfl) ?_ h991 _ v989 h992) ?_
                  · rintro ⟨i966, x967⟩ s h
                    refine W_seq (by kernel_rfl) ?_
                    refine W_run 1 [] [2, 9, 15, 18, 19, 20, 21, 22, 112, 118, 119, 120, 121] [2, 60, 110, 21, 112] (fr' := [(2, .one (.ptr 2 0)), (9, .one (.slc 60)), (15, aI v225), (18, aI x504.1), (19, .one (.slc 110)), (20, aI x859), (21, .one (.ptr 21 0)), (22, aI x967), (112, .one (.ptr 112 0)), (118, .one (.slc 110)), (119, aI (List.length x504.2.2 : Int)), (120, aI i966), (121, aB (decide (i966 < (List.length x504.2.2 : Int))))]) (L' := [(2, .cells [.dat tI a0]), (60, .raw bm781 (.map es784 ck783)), (110, .seq tI x504.2.2), (21, .one (.arr 3 tI) p790.1), (112, .raw bi782 (.mapIter (some bm781) ck783 (Array.push sn786 (MapEntry.born e787)) ck783))]) (obs := []) (by kernel_rfl) (by kernel_rfl) (by kernel_rfl) allP0 ?_
                    refine seqQ_norm ?_
                    refine W_seq (by kernel_rfl) ?_
                    refine W_cond (o := .tmp 121) (b := decide (i966 < (List.length x504.2.2 : Int))) (by kernel_rfl) (by kernel_rfl) (fun h971 => ?_) (fun h971 => ?_)
                    · replace h := stepL_true h971 h
                      obtain ⟨v969, _, h970, h, rfl⟩ := h
                      refine W_skip [2, 9, 15, 18, 19, 20, 21, 22, 112, 118, 119, 120] [2, 60, 110, 21, 112] (fr' := [(2, .one (.ptr 2 0)), (9, .one (.slc 60)), (15, aI v225), (18, aI x504.1), (19, .one (.slc 110)), (20, aI x859), (21, .one (.ptr 21 0)), (22, aI x967), (112, .one (.ptr 112 0)), (118, .one (.slc 110)), (119, aI (List.length x504.2.2 : Int)), (120, aI i966)]) (L' := [(2, .cells [.dat tI a0]), (60, .raw bm781 (.map es784 ck783)), (110, .seq tI x504.2.2), (21, .one (.arr 3 tI) p790.1), (112, .raw bi782 (.mapIter (some bm781) ck783 (Array.push sn786 (MapEntry.born e787)) ck783))]) (by kernel_rfl) (by kernel_rfl) ?_
                      refine seqQ_norm ?_
                      refine W_seq (by kernel_rfl) ?_
                      refine W_block (id := 13) (by kernel_rfl) ?_
                      refine W_seq (by kernel_rfl) ?_
                      refine W_run 5 [(5, .val (.dat tI v969))] [2, 9, 15, 18, 19, 20, 21, 22, 23, 24, 112, 118, 119, 120] [2, 60, 110, 21, 112] (fr' := [(2, .one (.ptr 2 0)), (9, .one (.slc 60)), (15, aI v225), (18, aI x504.1), (19, .one (.slc 110)), (20, aI x859), (21, .one (.ptr 21 0)), (22, aI x967), (23, aI i966), (24, aI v969), (112, .one (.ptr 112 0)), (118, .one (.slc 110)), (119, aI (List.length x504.2.2 : Int)), (120, aI i966)]) (L' := [(2, .cells [.dat tI a0]), (60, .raw bm781 (.map es784 ck783)), (110, .seq tI x504.2.2), (21, .one (.arr 3 tI) p790.1), (112, .raw bi782 (.mapIter (some bm781) ck783 (Array.push sn786 (MapEntry.born e787)) ck783))]) (obs := [InR i966 (List.length x504.2.2), Idx x504.2.2 i966 v969]) (by kernel_rfl) (by kernel_rfl) (by kernel_rfl) (allP2 (InR.of h970) (allP1 (Idx.of h970))) ?_
                      refine seqQ_norm ?_
                      refine W_seq (by kernel_rfl) ?_
                      obtain ⟨_, h972, h⟩ := bind_of h
                      replace h972 := ck_some h972
                      obtain ⟨v973, h974, h⟩ := bind_of h
                      refine W_run 4 [(5, .val (.dat tI v973))] [2, 9, 15, 18, 19, 20, 21, 22, 24, 112, 118, 119, 120, 127, 128] [2, 60, 110, 21, 112] (fr' := [(2, .one (.ptr 2 0)), (9, .one (.slc 60)), (15, aI v225), (18, aI x504.1), (19, .one (.slc 110)), (20, aI x859), (21, .one (.ptr 21 0)), (22, aI x967), (24, aI v969), (112, .one (.ptr 112 0)), (118, .one (.slc 110)), (119, aI (List.length x504.2.2 : Int)), (120, aI i966), (127, aI v973), (128, aI (0 : Int))]) (L' := [(2, .cells [.dat tI a0]), (60, .raw bm781 (.map es784 ck783)), (110, .seq tI x504.2.2), (21, .one (.arr 3 tI) p790.1), (112, .raw bi782 (.mapIter (some bm781) ck783 (Array.push sn786 (MapEntry.born e787)) ck783))]) (obs := [InR i966 3, Idx p790.1 i966 v973]) (by kernel_rfl) (by kernel_rfl) (by kernel_rfl) (allP2 h972 (allP1 (Idx.of h974))) ?_
                      refine seqQ_norm ?_
                      refine W_block (id := 14) (by kernel_rfl) ?_
                      obtain ⟨v984, h985, h⟩ := bind_of h
                      obtain ⟨h986, h987⟩ := forI_iter h985
                      refine W_weaken [2, 9, 15, 18, 19, 20, 21, 22, 24, 112, 118, 119, 120, 127, 128] [2, 60, 110, 21, 112] (fr' := ((guess_Zeros_s149 a0 v225 x504 bm781 bi782 ck783 es784 sn786 e787 p790 x859 i966 v969 v973) ((0 : Int), x967)).1) (L' := ((guess_Zeros_s149 a0 v225 x504 bm781 bi782 ck783 es784 sn786 e787 p790 x859 i966 v969 v973) ((0 : Int), x967)).2) (by kernel_rfl) ?_
                      refine W_cutK (W_loop (S := (guess_Zeros_s149 a0 v225 x504 bm781 bi782 ck783 es784 sn786 e787 p790 x859 i966 v969 v973)) (J := (exQ (.exit 14) (guess_Zeros_s150 a0 v225 x504 bm781 bi782 ck783 es784 sn786 e787 p790 x859 i966))) (by kernel_rfl) ?_ h986 _ v984 h987) ?_
                      · rintro ⟨i979, x980⟩ s h
                        refine W_seq (by kernel_rfl) ?_
                        refine W_run 1 [] [2, 9, 15, 18, 19, 20, 21, 22, 24, 112, 118, 119, 120, 127, 128, 129] [2, 60, 110, 21, 112] (fr' := [(2, .one (.ptr 2 0)), (9, .one (.slc 60)), (15, aI v225), (18, aI x504.1), (19, .one (.slc 110)), (20, aI x859), (21, .one (.ptr 21 0)), (22, aI x980), (24, aI v969), (112, .one (.ptr 112 0)), (118, .one (.slc 110)), (119, aI (List.length x504.2.2 : Int)), (120, aI i966), (127, aI v973), (128, aI i979), (129, aB (decide (i979 < v973)))]) (L' := [(2, .cells [.dat tI a0]), (60, .raw bm781 (.map es784 ck783)), (110, .seq tI x504.2.2), (21, .one (.arr 3 tI) p790.1), (112, .raw bi782 (.mapIter (some bm781) ck783 (Array.push sn786 (MapEntry.born e787)) ck783))]) (obs := []) (by kernel_rfl) (by kernel_rfl) (by kernel_rfl) allP0 ?_
                        refine seqQ_norm ?_
                        refine W_seq (by kernel_rfl) ?_
                        refine W_cond (o := .tmp 129) (b := decide (i979 < v973)) (by kernel_rfl) (by kernel_rfl) (fun h982 => ?_) (fun h982 => ?_)
                        · replace h := stepI_true h982 h
                          obtain ⟨_, h, rfl⟩ := h
                          refine W_skip [2, 9, 15, 18, 19, 20, 21, 22, 24, 112, 118, 119, 120, 127, 128] [2, 60, 110, 21, 112] (fr' := [(2, .one (.ptr 2 0)), (9, .one (.slc 60)), (15, aI v225), (18, aI x504.1), (19, .one (.slc 110)), (20, aI x859), (21, .one (.ptr 21 0)), (22, aI x980), (24, aI v969), (112, .one (.ptr 112 0)), (118, .one (.slc 110)), (119, aI (List.length x504.2.2 : Int)), (120, aI i966), (127, aI v973), (128, aI i979)]) (L' := [(2, .cells [.dat tI a0]), (60, .raw bm781 (.map es784 ck783)), (110, .seq tI x504.2.2), (21, .one (.arr 3 tI) p790.1), (112, .raw bi782 (.mapIter (some bm781) ck783 (Array.push sn786 (MapEntry.born e787)) ck783))]) (by kernel_rfl) (by kernel_rfl) ?_
                          refine seqQ_norm ?_
                          refine W_seq (by kernel_rfl) ?_
                          refine W_block (id := 15) (by kernel_rfl) ?_
                          refine W_run 5 [] [2, 9, 15, 18, 19, 20, 21, 22, 24, 112, 118, 119, 120, 127, 128] [2, 60, 110, 21, 112] (fr' := [(2, .one (.ptr 2 0)), (9, .one (.slc 60)), (15, aI v225), (18, aI x504.1), (19, .one (.slc 110)), (20, aI x859), (21, .one (.ptr 21 0)), (22, aI (Int.tmod (w64 (x980 * v969)) (7 : Int))), (24, aI v969), (112, .one (.ptr 112 0)), (118, .one (.slc 110)), (119, aI (List.length x504.2.2 : Int)), (120, aI i966), (127, aI v973), (128, aI i979)]) (L' := [(2, .cells [.dat tI a0]), (60, .raw bm781 (.map es784 ck783)), (110, .seq tI x504.2.2), (21, .one (.arr 3 tI) p790.1), (112, .raw bi782 (.mapIter (some bm781) ck783 (Array.push sn786 (MapEntry.born e787)) ck783))]) (obs := [((7 : Int) ≠ 0)]) (by kernel_rfl) (by kernel_rfl) (by kernel_rfl) (allP1 (by decide)) ?_
                          refine blockQ_norm ?_
                          refine seqQ_norm ?_
                          obtain rfl := Option.some.inj h
                          refine W_run 2 [] [2, 9, 15, 18, 19, 20, 21, 22, 24, 112, 118, 119, 120, 127, 128] [2, 60, 110, 21, 112] (fr' := [(2, .one (.ptr 2 0)), (9, .one (.slc 60)), (15, aI v225), (18, aI x504.1), (19, .one (.slc 110)), (20, aI x859), (21, .one (.ptr 21 0)), (22, aI (Int.tmod (w64 (x980 * v969)) (7 : Int))), (24, aI v969), (112, .one (.ptr 112 0)), (118, .one (.slc 110)), (119, aI (List.length x504.2.2 : Int)), (120, aI i966), (127, aI v973), (128, aI (w64 (i979 + (1 : Int))))]) (L' := [(2, .cells [.dat tI a0]), (60, .raw bm781 (.map es784 ck783)), (110, .seq tI x504.2.2), (21, .one (.arr 3 tI) p790.1), (112, .raw bi782 (.mapIter (some bm781) ck783 (Array.push sn786 (MapEntry.born e787)) ck783))]) (obs := []) (by kernel_rfl) (by kernel_rfl) (by kernel_rfl) allP0 ?_
                          exact round_next' (by kernel_rfl) (by kernel_rfl)
                        · obtain rfl := stepI_false h982 h
                          refine W_exit (id := 14) [2, 9, 15, 18, 19, 20, 21, 22, 112, 118, 119, 120] [2, 60, 110, 21, 112] (fr' := [(2, .one (.ptr 2 0)), (9, .one (.slc 60)), (15, aI v225), (18, aI x504.1), (19, .one (.slc 110)), (20, aI x859), (21, .one (.ptr 21 0)), (22, aI x980), (112, .one (.ptr 112 0)), (118, .one (.slc 110)), (119, aI (List.length x504.2.2 : Int)), (120, aI i966)]) (L' := [(2, .cells [.dat tI a0]), (60, .raw bm781 (.map es784 ck783)), (110, .seq tI x504.2.2), (21, .one (.arr 3 tI) p790.1), (112, .raw bi782 (.mapIter (some bm781) ck783 (Array.push sn786 (MapEntry.born e787)) ck783))]) (by kernel_rfl) (by kernel_rfl) ?_
                          refine seqQ_exit ?_
                          refine round_exit ?_
                          exact exQ_mk (by kernel_rfl) (by kernel_rfl)
                      · intro e fr L hJ
                        obtain ⟨rfl, rfl, rfl⟩ := hJ
                        refine LT_keep [2, 9, 15, 18, 19, 20, 21, 22, 112, 118, 119, 120] [2, 60, 110, 21, 112] (fr' := [(2, .one (.ptr 2 0)), (9, .one (.slc 60)), (15, aI v225), (18, aI x504.1), (19, .one (.slc 110)), (20, aI x859), (21, .one (.ptr 21 0)), (22, aI v984), (112, .one (.ptr 112 0)), (118, .one (.slc 110)), (119, aI (List.length x504.2.2 : Int)), (120, aI i966)]) (L' := [(2, .cells [.dat tI a0]), (60, .raw bm781 (.map es784 ck783)), (110, .seq tI x504.2.2), (21, .one (.arr 3 tI) p790.1), (112, .raw bi782 (.mapIter (some bm781) ck783 (Array.push sn786 (MapEntry.born e787)) ck783))]) (by kernel_rfl) ?_
                        refine blockQ_hit ?_
                        refine blockQ_norm ?_
                        refine seqQ_norm ?_
                        obtain rfl := Option.some.inj h
                        refine W_run 2 [] [2, 9, 15, 18, 19, 20, 21, 22, 112, 118, 119, 120] [2, 60, 110, 21, 112] (fr' := [(2, .one (.ptr 2 0)), (9, .one (.slc 60)), (15, aI v225), (18, aI x504.1), (19, .one (.slc 110)), (20, aI x859), (21, .one (.ptr 21 0)), (22, aI v984), (112, .one (.ptr 112 0)), (118, .one (.slc 110)), (119, aI (List.length x504.2.2 : Int)), (120, aI (w64 (i966 + (1 : Int))))]) (L' := [(2, .cells [.dat tI a0]), (60, .raw bm781 (.map es784 ck783)), (110, .seq tI x504.2.2), (21, .one (.arr 3 tI) p790.1), (112, .raw bi782 (.mapIter (some bm781) ck783 (Array.push sn786 (MapEntry.born e787)) ck783))]) (obs := []) (by kernel_rfl) (by kernel_rfl) (by kernel_rfl) allP0 ?_
                        exact round_next' (by kernel_rfl) (by kernel_rfl)
                    · obtain rfl := stepL_false h971 h
                      refine W_exit (id := 12) [2, 9, 15, 18, 19, 20, 22, 112] [2, 60, 110, 112] (fr' := [(2, .one (.ptr 2 0)), (9, .one (.slc 60)), (15, aI v225), (18, aI x504.1), (19, .one (.slc 110)), (20, aI x859), (22, aI x967), (112, .one (.ptr 112 0))]) (L' := [(2, .cells [.dat tI a0]), (60, .raw bm781 (.map es784 ck783)), (110, .seq tI x504.2.2), (112, .raw bi782 (.mapIter (some bm781) ck783 (Array.push sn786 (MapEntry.born e787)) ck783))]) (by kernel_rfl) (by kernel_rfl) ?_
                      refine seqQ_exit ?_
                      refine round_exit ?_
                      exact exQ_mk (by kernel_rfl) (by kernel_rfl)
                  · intro e fr L hJ
                    obtain ⟨rfl, rfl, rfl⟩ := hJ
                    refine LT_keep [2, 9, 15, 18, 19, 20, 22, 112] [2, 60, 110, 112] (fr' := [(2, .one (.ptr 2 0)), (9, .one (.slc 60)), (15, aI v225), (18, aI x504.1), (19, .one (.slc 110)), (20, aI x859), (22, aI v989), (112, .one (.ptr 112 0))]) (L' := [(2, .cells [.dat tI a0]), (60, .raw bm781 (.map es784 ck783)), (110, .seq tI x504.2.2), (112, .raw bi782 (.mapIter (some bm781) ck783 (Array.push sn786 (MapEntry.born e787)) ck783))]) (by kernel_rfl) ?_
                    refine blockQ_hit ?_
                    refine seqQ_norm ?_
                    obtain rfl := Option.some.inj h
                    refine W_run 4 [] [2, 9, 15, 18, 19, 20, 112] [2, 60, 110, 112] (fr' := [(2, .one (.ptr 2 0)), (9, .one (.slc 60)), (15, aI v225), (18, aI x504.1), (19, .one (.slc 110)), (20, aI (w64 (x859 + v989))), (112, .one (.ptr 112 0))]) (L' := [(2, .cells [.dat tI a0]), (60, .raw bm781 (.map es784 ck783)), (110, .seq tI x504.2.2), (112, .raw bi782 (.mapIter (some bm781) ck783 (Array.push sn786 (MapEntry.born e787)) ck783))]) (obs := []) (by kernel_rfl) (by kernel_rfl) (by kernel_rfl) allP0 ?_
                    refine blockQ_norm ?_
                    exact rangeQ_mk (by kernel_rfl) (by kernel_rfl)
                · intro sn786
                  refine LT_keep [2, 9, 15, 18, 19, 20] [2, 60, 110] (fr' := [(2, .one (.ptr 2 0)), (9, .one (.slc 60)), (15, aI v225), (18, aI x504.1), (19, .one (.slc 110)), (20, aI v994)]) (L' := [(2, .cells [.dat tI a0]), (60, .map (.arr 3 tI) tI (some l779 : Option (List ((List Int) × Int)))), (110, .seq tI x504.2.2)]) (by kernel_rfl) ?_
                  exact exQ_mk (by kernel_rfl) (by kernel_rfl)
                · intro e fr L hJ
                  obtain ⟨rfl, rfl, rfl⟩ := hJ
                  refine LT_keep [2, 9, 15, 18, 19, 20] [2, 60, 110] (fr' := [(2, .one (.ptr 2 0)), (9, .one (.slc 60)), (15, aI v225), (18, aI x504.1), (19, .one (.slc 110)), (20, aI v994)]) (L' := [(2, .cells [.dat tI a0]), (60, .map (.arr 3 tI) tI (some l779 : Option (List ((List Int) × Int)))), (110, .seq tI x504.2.2)]) (by kernel_rfl) ?_
                  refine blockQ_hit ?_
                  refine seqQ_norm ?_
                  refine W_seq (by kernel_rfl) ?_
                  obtain ⟨v1000, h1001, h⟩ := bind_of h
                  refine W_cutK (Q' := (exQ .normal (guess_Zeros_s163 a0 v225 x504 l779)) v1000) ?_ ?_
                  · replace h := h1001
                    refine W_seq (by kernel_rfl) ?_
                    refine W_run 3 [] [2, 9, 15, 18, 19, 141] [2, 60, 110] (fr' := [(2, .one (.ptr 2 0)), (9, .one (.slc 60)), (15, aI v225), (18, aI x504.1), (19, .one (.slc 110)), (141, aB ((Int.tmod v994 (7 : Int)) == (0 : Int)))]) (L' := [(2, .cells [.dat tI a0]), (60, .map (.arr 3 tI) tI (some l779 : Option (List ((List Int) × Int)))), (110, .seq tI x504.2.2)]) (obs := [((7 : Int) ≠ 0)]) (by kernel_rfl) (by kernel_rfl) (by kernel_rfl) (allP1 (by decide)) ?_
                    refine seqQ_norm ?_
                    refine W_cond (o := .tmp 141) (b := (Int.tmod v994 (7 : Int)) == (0 : Int)) (by kernel_rfl) (by kernel_rfl) (fun h999 => ?_) (fun h999 => ?_)
                    · replace h := ofT h999 h
                      obtain rfl := Option.some.inj h
                      refine W_run 3 [] [2, 9, 15, 18, 19] [2, 60, 110] (fr' := [(2, .one (.ptr 2 0)), (9, .one (.slc 60)), (15, aI v225), (18, aI (w64 (x504.1 + (1 : Int)))), (19, .one (.slc 110))]) (L' := [(2, .cells [.dat tI a0]), (60, .map (.arr 3 tI) tI (some l779 : Option (List ((List Int) × Int)))), (110, .seq tI x504.2.2)]) (obs := []) (by kernel_rfl) (by kernel_rfl) (by kernel_rfl) allP0 ?_
                      exact exQ_mk (by kernel_rfl) (by kernel_rfl)
                    · replace h := ofF h999 h
                      obtain rfl := Option.some.inj h
                      refine W_skip [2, 9, 15, 18, 19] [2, 60, 110] (fr' := [(2, .one (.ptr 2 0)), (9, .one (.slc 60)), (15, aI v225), (18, aI x504.1), (19, .one (.slc 110))]) (L' := [(2, .cells [.dat tI a0]), (60, .map (.arr 3 tI) tI (some l779 : Option (List ((List Int) × Int)))), (110, .seq tI x504.2.2)]) (by kernel_rfl) (by kernel_rfl) ?_
                      exact exQ_mk (by kernel_rfl) (by kernel_rfl)
                  · intro e fr L hJ
                    obtain ⟨rfl, rfl, rfl⟩ := hJ
                    refine LT_keep [2, 9, 15, 18, 19] [2, 60, 110] (fr' := [(2, .one (.ptr 2 0)), (9, .one (.slc 60)), (15, aI v225), (18, aI v1000), (19, .one (.slc 110))]) (L' := [(2, .cells [.dat tI a0]), (60, .map (.arr 3 tI) tI (some l779 : Option (List ((List Int) × Int)))), (110, .seq tI x504.2.2)]) (by kernel_rfl) ?_
                    refine seqQ_norm ?_
                    refine W_seq (by kernel_rfl) ?_
                    refine W_run 1 [] [2, 9, 15, 18, 19, 25] [2, 60, 110] (fr' := [(2, .one (.ptr 2 0)), (9, .one (.slc 60)), (15, aI v225), (18, aI v1000), (19, .one (.slc 110)), (25, aI (0 : Int))]) (L' := [(2, .cells [.dat tI a0]), (60, .map (.arr 3 tI) tI (some l779 : Option (List ((List Int) × Int)))), (110, .seq tI x504.2.2)]) (obs := []) (by kernel_rfl) (by kernel_rfl) (by kernel_rfl) allP0 ?_
                    refine seqQ_norm ?_
                    refine W_seq (by kernel_rfl) ?_
                    refine W_block (id := 16) (by kernel_rfl) ?_
                    obtain ⟨v1046, h1047, h⟩ := bind_of h
                    refine W_weaken [2, 9, 15, 18, 19, 25] [2, 60, 110] (fr' := ((guess_Zeros_s161 a0 v225 l779 v1000) ((0 : Int), x504.2.2)).1) (L' := ((guess_Zeros_s161 a0 v225 l779 v1000) ((0 : Int), x504.2.2)).2) (by kernel_rfl) ?_
                    refine W_cutK (W_loop (S := (guess_Zeros_s161 a0 v225 l779 v1000)) (J := (exQ (.exit 16) (guess_Zeros_s162 a0 v225 l779 v1000))) (by kernel_rfl) ?_ fuel _ v1046 h1047) ?_
                    · rintro x1017 s h
                      refine W_seq (by kernel_rfl) ?_
                      refine W_seq (by kernel_rfl) ?_
                      obtain ⟨v1041, h1042, h⟩ := bind_of h
                      refine W_cutK (Q' := (exQ .normal (guess_Zeros_s159 a0 v225 l779 v1000 x1017)) v1041) ?_ ?_
                      · replace h := h1042
                        refine W_region (by kernel_rfl) ?_
                        refine WO_run (j := 4) (k := 4) (orcs := []) (kF := [2, 9, 15, 18, 19, 25, 147]) (kL := [2, 60, 110]) (fr' := [(2, .one (.ptr 2 0)), (9, .one (.slc 60)), (15, aI v225), (18, aI v1000), (19, .one (.slc 110)), (25, aI x1017.1), (147, aB (decide (x1017.1 < a0)))]) (L' := [(2, .cells [.dat tI a0]), (60, .map (.arr 3 tI) tI (some l779 : Option (List ((List Int) × Int)))), (110, .seq tI x1017.2)]) (obs := []) rfl (by kernel_rfl) allP0 ?_
                        rcases Bool.eq_false_or_eq_true (decide (x1017.1 < a0)) with h1038 | h1038
                        · replace h := ofT h1038 h
                          obtain ⟨v1039, h1040, h⟩ := bind_of h
                          refine WO_run (j := 10) (k := 6) (orcs := [(8, .known true), (10, .known true), (12, .known true), (14, .known true), (15, .val (.dat tI v1039)), (16, .known true), (19, .val (.dat .bool true))]) (kF := [2, 9, 15, 18, 19, 25, 153]) (kL := [2, 60, 110]) (fr' := [(2, .one (.ptr 2 0)), (9, .one (.slc 60)), (15, aI v225), (18, aI v1000), (19, .one (.slc 110)), (25, aI x1017.1), (153, aB (v1039 == (6 : Int)))]) (L' := [(2, .cells [.dat tI a0]), (60, .map (.arr 3 tI) tI (some l779 : Option (List ((List Int) × Int)))), (110, .seq tI x1017.2)]) (obs := [((decide (x1017.1 < a0)) = true), ((decide (x1017.1 < a0)) = true), ((decide (x1017.1 < a0)) = true), InR x1017.1 (List.length x1017.2), ((decide (x1017.1 < a0)) = true), Idx x1017.2 x1017.1 v1039, ((decide (x1017.1 < a0)) = true), ((decide (x1017.1 < a0)) = true)]) rfl (by kernel_rfl) (allP2 h1038 (allP2 h1038 (allP2 h1038 (allP2 (InR.of h1040) (allP2 h1038 (allP2 (Idx.of h1040) (allP2 h1038 (allP1 h1038)))))))) ?_
                          obtain rfl := Option.some.inj h
                          refine WO_fin [2, 9, 15, 18, 19, 25, 153] [2, 60, 110] (fr' := [(2, .one (.ptr 2 0)), (9, .one (.slc 60)), (15, aI v225), (18, aI v1000), (19, .one (.slc 110)), (25, aI x1017.1), (153, aB (v1039 == (6 : Int)))]) (L' := [(2, .cells [.dat tI a0]), (60, .map (.arr 3 tI) tI (some l779 : Option (List ((List Int) × Int)))), (110, .seq tI x1017.2)]) (by kernel_rfl) (by kernel_rfl) ?_
                          exact exQ_mk (by kernel_rfl) (by kernel_rfl)
                        · replace h := ofF h1038 h
                          refine WO_run (j := 10) (k := 6) (orcs := [(8, .known false), (10, .known false), (12, .known false), (14, .known false), (16, .known false), (19, .val (.dat .bool false))]) (kF := [2, 9, 15, 18, 19, 25, 153]) (kL := [2, 60, 110]) (fr' := [(2, .one (.ptr 2 0)), (9, .one (.slc 60)), (15, aI v225), (18, aI v1000), (19, .one (.slc 110)), (25, aI x1017.1), (153, aB false)]) (L' := [(2, .cells [.dat tI a0]), (60, .map (.arr 3 tI) tI (some l779 : Option (List ((List Int) × Int)))), (110, .seq tI x1017.2)]) (obs := [((decide (x1017.1 < a0)) = false), ((decide (x1017.1 < a0)) = false), ((decide (x1017.1 < a0)) = false), ((decide (x1017.1 < a0)) = false), ((decide (x1017.1 < a0)) = false), ((decide (x1017.1 < a0)) = false)]) rfl (by kernel_rfl) (allP2 h1038 (allP2 h1038 (allP2 h1038 (allP2 h1038 (allP2 h1038 (allP1 h1038)))))) ?_
                          obtain rfl := Option.some.inj h
                          refine WO_fin [2, 9, 15, 18, 19, 25, 153] [2, 60, 110] (fr' := [(2, .one (.ptr 2 0)), (9, .one (.slc 60)), (15, aI v225), (18, aI v1000), (19, .one (.slc 110)), (25, aI x1017.1), (153, aB false)]) (L' := [(2, .cells [.dat tI a0]), (60, .map (.arr 3 tI) tI (some l779 : Option (List ((List Int) × Int)))), (110, .seq tI x1017.2)]) (by kernel_rfl) (by kernel_rfl) ?_
                          exact exQ_mk (by kernel_rfl) (by kernel_rfl)
                      · intro e fr L hJ
                        obtain ⟨rfl, rfl, rfl⟩ := hJ
                        refine LT_keep [2, 9, 15, 18, 19, 25, 153] [2, 60, 110] (fr' := [(2, .one (.ptr 2 0)), (9, .one (.slc 60)), (15, aI v225), (18, aI v1000), (19, .one (.slc 110)), (25, aI x1017.1), (153, aB v1041)]) (L' := [(2, .cells [.dat tI a0]), (60, .map (.arr 3 tI) tI (some l779 : Option (List ((List Int) × Int)))), (110, .seq tI x1017.2)]) (by kernel_rfl) ?_
                        refine seqQ_norm ?_
                        refine W_cond (o := .tmp 153) (b := v1041) (by kernel_rfl) (by kernel_rfl) (fun h1043 => ?_) (fun h1043 => ?_)
                        · replace h := ofT h1043 h
                          refine W_skip [2, 9, 15, 18, 19, 25] [2, 60, 110] (fr' := [(2, .one (.ptr 2 0)), (9, .one (.slc 60)), (15, aI v225), (18, aI v1000), (19, .one (.slc 110)), (25, aI x1017.1)]) (L' := [(2, .cells [.dat tI a0]), (60, .map (.arr 3 tI) tI (some l779 : Option (List ((List Int) × Int)))), (110, .seq tI x1017.2)]) (by kernel_rfl) (by kernel_rfl) ?_
                          refine seqQ_norm ?_
                          refine W_seq (by kernel_rfl) ?_
                          refine W_block (id := 17) (by kernel_rfl) ?_
                          obtain ⟨v1044, h1045, h⟩ := bind_of h
                          refine W_run 4 [] [2, 9, 15, 18, 19, 25] [2, 60, 110] (fr' := [(2, .one (.ptr 2 0)), (9, .one (.slc 60)), (15, aI v225), (18, aI v1000), (19, .one (.slc 110)), (25, aI x1017.1)]) (L' := [(2, .cells [.dat tI a0]), (60, .map (.arr 3 tI) tI (some l779 : Option (List ((List Int) × Int)))), (110, .seq tI (List.set x1017.2 (Int.toNat x1017.1) (0 : Int)))]) (obs := [InR x1017.1 (List.length x1017.2), InR x1017.1 (List.length x1017.2)]) (by kernel_rfl) (by kernel_rfl) (by kernel_rfl) (allP2 (InR.of h1045) (allP1 (InR.of h1045))) ?_
                          refine blockQ_norm ?_
                          refine seqQ_norm ?_
                          obtain rfl := Option.some.inj h
                          refine W_run 3 [] [2, 9, 15, 18, 19, 25] [2, 60, 110] (fr' := [(2, .one (.ptr 2 0)), (9, .one (.slc 60)), (15, aI v225), (18, aI v1000), (19, .one (.slc 110)), (25, aI (w64 (x1017.1 + (1 : Int))))]) (L' := [(2, .cells [.dat tI a0]), (60, .map (.arr 3 tI) tI (some l779 : Option (List ((List Int) × Int)))), (110, .seq tI (List.set x1017.2 (Int.toNat x1017.1) (0 : Int)))]) (obs := []) (by kernel_rfl) (by kernel_rfl) (by kernel_rfl) allP0 ?_
                          exact round_next' (by kernel_rfl) (by kernel_rfl)
                        · replace h := ofF h1043 h
                          obtain rfl := Option.some.inj h
                          refine W_exit (id := 16) [2, 9, 15, 18, 19, 25] [2, 60, 110] (fr' := [(2, .one (.ptr 2 0)), (9, .one (.slc 60)), (15, aI v225), (18, aI v1000), (19, .one (.slc 110)), (25, aI x1017.1)]) (L' := [(2, .cells [.dat tI a0]), (60, .map (.arr 3 tI) tI (some l779 : Option (List ((List Int) × Int)))), (110, .seq tI x1017.2)]) (by kernel_rfl) (by kernel_rfl) ?_
                          refine seqQ_exit ?_
                          refine round_exit ?_
                          exact exQ_mk (by kernel_rfl) (by kernel_rfl)
                    · intro e fr L hJ
                      obtain ⟨rfl, rfl, rfl⟩ := hJ
                      refine LT_keep [2, 9, 15, 18, 19, 25] [2, 60, 110] (fr' := [(2, .one (.ptr 2 0)), (9, .one (.slc 60)), (15, aI v225), (18, aI v1000), (19, .one (.slc 110)), (25, aI v1046.1)]) (L' := [(2, .cells [.dat tI a0]), (60, .map (.arr 3 tI) tI (some l779 : Option (List ((List Int) × Int)))), (110, .seq tI v1046.2)]) (by kernel_rfl) ?_
                      refine blockQ_hit ?_
                      refine seqQ_norm ?_
                      refine W_seq (by kernel_rfl) ?_
                      refine W_seq (by kernel_rfl) ?_
                      refine W_run 3 [] [2, 9, 15, 18, 19, 25, 161] [2, 60, 110] (fr' := [(2, .one (.ptr 2 0)), (9, .one (.slc 60)), (15, aI v225), (18, aI v1000), (19, .one (.slc 110)), (25, aI v1046.1), (161, aB (v1046.1 == a0))]) (L' := [(2, .cells [.dat tI a0]), (60, .map (.arr 3 tI) tI (some l779 : Option (List ((List Int) × Int)))), (110, .seq tI v1046.2)]) (obs := []) (by kernel_rfl) (by kernel_rfl) (by kernel_rfl) allP0 ?_
                      refine seqQ_norm ?_
                      refine W_cond (o := .tmp 161) (b := v1046.1 == a0) (by kernel_rfl) (by kernel_rfl) (fun h1050 => ?_) (fun h1050 => ?_)
                      · replace h := ofT h1050 h
                        refine W_seq (by kernel_rfl) ?_
                        refine W_run 5 [] [4, 5, 6] [] (fr' := [(4, aI v1000), (5, aI v225), (6, aI (0 : Int))]) (L' := []) (obs := []) (by kernel_rfl) (by kernel_rfl) (by kernel_rfl) allP0 ?_
                        refine seqQ_norm ?_
                        obtain rfl := Option.some.inj h
                        refine W_ret [4, 5, 6] [] (fr' := [(4, aI v1000), (5, aI v225), (6, aI (0 : Int))]) (L' := []) (by kernel_rfl) (by kernel_rfl) ?_
                        refine seqQ_ret ?_
                        refine blockQ_ret ?_
                        refine round_ret ?_
                        exact exQ_mk (by kernel_rfl) (by kernel_rfl)
                      · replace h := ofF h1050 h
                        refine W_skip [2, 9, 15, 18, 19, 25] [2, 60, 110] (fr' := [(2, .one (.ptr 2 0)), (9, .one (.slc 60)), (15, aI v225), (18, aI v1000), (19, .one (.slc 110)), (25, aI v1046.1)]) (L' := [(2, .cells [.dat tI a0]), (60, .map (.arr 3 tI) tI (some l779 : Option (List ((List Int) × Int)))), (110, .seq tI v1046.2)]) (by kernel_rfl) (by kernel_rfl) ?_
                        refine seqQ_norm ?_
                        obtain ⟨v1051, h1052, h⟩ := bind_of h
                        obtain rfl := Option.some.inj h
                        refine W_run 7 [(7, .val (.dat tI v1051))] [2, 9, 15, 18, 19] [2, 60, 110] (fr' := [(2, .one (.ptr 2 0)), (9, .one (.slc 60)), (15, aI v225), (18, aI v1000), (19, .one (.slc 110))]) (L' := [(2, .cells [.dat tI a0]), (60, .map (.arr 3 tI) tI (some l779 : Option (List ((List Int) × Int)))), (110, .seq tI (List.set v1046.2 (Int.toNat v1046.1) (w64 (v1051 + (1 : Int)))))]) (obs := [InR v1046.1 (List.length v1046.2), Idx v1046.2 v1046.1 v1051, InR v1046.1 (List.length v1046.2), InR v1046.1 (List.length v1046.2)]) (by kernel_rfl) (by kernel_rfl) (by kernel_rfl) (allP2 (InR.of h1052) (allP2 (Idx.of h1052) (allP2 (InR.of h1052) (allP1 (InR.of h1052))))) ?_
                        refine blockQ_norm ?_
                        exact round_next' (by kernel_rfl) (by kernel_rfl)
              · intro e fr L hJ
                obtain ⟨rfl, rfl, rfl⟩ := hJ
                obtain rfl := Option.some.inj h
                refine LT_keep [4, 5, 6] [] (fr' := [(4, aI v1053.1), (5, aI v1053.2.1), (6, aI v1053.2.2)]) (L' := []) (by kernel_rfl) ?_
                refine blockQ_ret ?_
                exact retQ_mk (by kernel_rfl) (by kernel_rfl) (by kernel_rfl)

noncomputable def ref_Within (a0 : Int) (a1 : Int) (a2 : Int) : Option Bool :=
some ((decide (a0 ≤ a1)) && (decide (a1 ≤ a2)))
theorem ref_Within_ok {a0 : Int} {a1 : Int} {a2 : Int} {r : Bool} (h : ref_Within a0 a1 a2 = some r) : FnC Try.prog 18 [aI a0, aI a1, aI a2] [] (aB r) [] := by
  refine fnC_of_W (B := bodyOf Try.f18) (n := 15) Try.func18 (by kernel_rfl) (by kernel_rfl) (by kernel_rfl) (by kernel_rfl) (by kernel_rfl) ?_
  intro K
  refine W_seq (by kernel_rfl) ?_
  refine W_run 1 [] [0, 1, 2] [] (fr' := [(0, aI a0), (1, aI a1), (2, aI a2)]) (L' := []) (obs := []) (by kernel_rfl) (by kernel_rfl) (by kernel_rfl) allP0 ?_
  refine seqQ_norm ?_
  refine W_seq (by kernel_rfl) ?_
  refine W_run 9 [] [6] [] (fr' := [(6, aB ((decide (a0 ≤ a1)) && (decide (a1 ≤ a2))))]) (L' := []) (obs := []) (by kernel_rfl) (by kernel_rfl) (by kernel_rfl) allP0 ?_
  refine seqQ_norm ?_
  obtain rfl := Option.some.inj h
  refine W_ret [6] [] (fr' := [(6, aB ((decide (a0 ≤ a1)) && (decide (a1 ≤ a2))))]) (L' := []) (by kernel_rfl) (by kernel_rfl) ?_
  exact retQ_mk (by kernel_rfl) (by kernel_rfl) (by kernel_rfl)

noncomputable def ref_Inside_b1 (a0 : Int) (i11 : Int) (v14 : Int) (x12 : Unit) : Option (Flow Unit (Esc Bool Unit)) :=
bif (decide (v14 < (0 : Int))) || (decide (v14 ≥ a0)) then
(some (.done (.ret false)))
else
(some (.next ()))
@[reducible] def ref_Inside_s2 (a0 : Int) (a1 : (List Int)) (v : Int × Unit) : Fr × LL := ([(0, aI a0), (7, aD (.slice tI) a1), (8, aI (List.length a1 : Int)), (9, aI v.1)], [])
@[reducible] def ref_Inside_s3 (v : Bool) : Fr × LL := ([(4, aB v)], [])
@[reducible] def ref_Inside_s4 (v : Unit) : Fr × LL := ([], [])
noncomputable def ref_Inside (a0 : Int) (a1 : (List Int)) : Option Bool :=
(forL (ref_Inside_b1 a0) (fun x12 => (.brk ())) a1 0 ()).bind fun v19 =>
match v19 with
| .ret v24 =>
(some v24)
| .brk v25 =>
(some true)
theorem ref_Inside_ok {a0 : Int} {a1 : (List Int)} {r : Bool} (h : ref_Inside a0 a1 = some r) : FnC Try.prog 11 [aI a0, aD (.slice tI) a1] [] (aB r) [] := by
  refine fnC_of_W (B := bodyOf Try.f11) (n := 21) Try.func11 (by kernel_rfl) (by kernel_rfl) (by kernel_rfl) (by kernel_rfl) (by kernel_rfl) ?_
  intro K
  refine W_seq (by kernel_rfl) ?_
  refine W_run 1 [] [0, 1] [] (fr' := [(0, aI a0), (1, aD (.slice tI) a1)]) (L' := []) (obs := []) (by kernel_rfl) (by kernel_rfl) (by kernel_rfl) allP0 ?_
  refine seqQ_norm ?_
  refine W_seq (by kernel_rfl) ?_
  refine W_seq (by kernel_rfl) ?_
  refine W_run 3 [] [0, 7, 8, 9] [] (fr' := [(0, aI a0), (7, aD (.slice tI) a1), (8, aI (List.length a1 : Int)), (9, aI (0 : Int))]) (L' := []) (obs := []) (by kernel_rfl) (by kernel_rfl) (by kernel_rfl) allP0 ?_
  refine seqQ_norm ?_
  refine W_block (id := 0) (by kernel_rfl) ?_
  obtain ⟨v19, h20, h⟩ := bind_of h
  refine W_len (t := 7) (u := tI) (xs := a1) (by kernel_rfl) (fun h23 => ?_)
  obtain ⟨h21, h22⟩ := forL_iter h23 h20
  refine W_weaken [0, 7, 8, 9] [] (fr' := ((ref_Inside_s2 a0 a1) ((0 : Int), ())).1) (L' := ((ref_Inside_s2 a0 a1) ((0 : Int), ())).2) (by kernel_rfl) ?_
  refine W_cutK (W_loop (S := (ref_Inside_s2 a0 a1)) (J := (escQ (exQ .ret ref_Inside_s3) (exQ (.exit 0) ref_Inside_s4))) (by kernel_rfl) ?_ h21 _ v19 h22) ?_
  · rintro ⟨i11, x12⟩ s h
    refine W_seq (by kernel_rfl) ?_
    refine W_run 1 [] [0, 7, 8, 9, 10] [] (fr' := [(0, aI a0), (7, aD (.slice tI) a1), (8, aI (List.length a1 : Int)), (9, aI i11), (10, aB (decide (i11 < (List.length a1 : Int))))]) (L' := []) (obs := []) (by kernel_rfl) (by kernel_rfl) (by kernel_rfl) allP0 ?_
    refine seqQ_norm ?_
    refine W_seq (by kernel_rfl) ?_
    refine W_cond (o := .tmp 10) (b := decide (i11 < (List.length a1 : Int))) (by kernel_rfl) (by kernel_rfl) (fun h16 => ?_) (fun h16 => ?_)
    · replace h := stepL_true h16 h
      obtain ⟨v14, _, h15, h, rfl⟩ := h
      refine W_skip [0, 7, 8, 9] [] (fr' := [(0, aI a0), (7, aD (.slice tI) a1), (8, aI (List.length a1 : Int)), (9, aI i11)]) (L' := []) (by kernel_rfl) (by kernel_rfl) ?_
      refine seqQ_norm ?_
      refine W_seq (by kernel_rfl) ?_
      refine W_block (id := 1) (by kernel_rfl) ?_
      refine W_seq (by kernel_rfl) ?_
      refine W_run 3 [(1, .val (.dat tI v14))] [0, 6, 7, 8, 9] [] (fr' := [(0, aI a0), (6, aI v14), (7, aD (.slice tI) a1), (8, aI (List.length a1 : Int)), (9, aI i11)]) (L' := []) (obs := [Idx a1 i11 v14]) (by kernel_rfl) (by kernel_rfl) (by kernel_rfl) (allP1 (Idx.of h15)) ?_
      refine seqQ_norm ?_
      refine W_seq (by kernel_rfl) ?_
      refine W_run 7 [] [0, 7, 8, 9, 19] [] (fr' := [(0, aI a0), (7, aD (.slice tI) a1), (8, aI (List.length a1 : Int)), (9, aI i11), (19, aB ((decide (v14 < (0 : Int))) || (decide (v14 ≥ a0))))]) (L' := []) (obs := []) (by kernel_rfl) (by kernel_rfl) (by kernel_rfl) allP0 ?_
      refine seqQ_norm ?_
      refine W_cond (o := .tmp 19) (b := (decide (v14 < (0 : Int))) || (decide (v14 ≥ a0))) (by kernel_rfl) (by kernel_rfl) (fun h17 => ?_) (fun h17 => ?_)
      · replace h := ofT h17 h
        refine W_seq (by kernel_rfl) ?_
        refine W_run 1 [] [4] [] (fr' := [(4, aB false)]) (L' := []) (obs := []) (by kernel_rfl) (by kernel_rfl) (by kernel_rfl) allP0 ?_
        refine seqQ_norm ?_
        obtain rfl := Option.some.inj h
        refine W_ret [4] [] (fr' := [(4, aB false)]) (L' := []) (by kernel_rfl) (by kernel_rfl) ?_
        refine blockQ_ret ?_
        refine seqQ_ret ?_
        refine round_ret ?_
        refine escQ_ret ?_
        exact exQ_mk (by kernel_rfl) (by kernel_rfl)
      · replace h := ofF h17 h
        refine W_skip [0, 7, 8, 9] [] (fr' := [(0, aI a0), (7, aD (.slice tI) a1), (8, aI (List.length a1 : Int)), (9, aI i11)]) (L' := []) (by kernel_rfl) (by kernel_rfl) ?_
        refine blockQ_norm ?_
        refine seqQ_norm ?_
        obtain rfl := Option.some.inj h
        refine W_run 2 [] [0, 7, 8, 9] [] (fr' := [(0, aI a0), (7, aD (.slice tI) a1), (8, aI (List.length a1 : Int)), (9, aI (w64 (i11 + (1 : Int))))]) (L' := []) (obs := []) (by kernel_rfl) (by kernel_rfl) (by kernel_rfl) allP0 ?_
        exact round_next' (by kernel_rfl) (by kernel_rfl)
    · obtain rfl := stepL_false h16 h
      refine W_exit (id := 0) [] [] (fr' := []) (L' := []) (by kernel_rfl) (by kernel_rfl) ?_
      refine seqQ_exit ?_
      refine round_exit ?_
      refine escQ_brk ?_
      exact exQ_mk (by kernel_rfl) (by kernel_rfl)
  · intro e fr L hJ
    rcases v19 with v24 | v25
    · obtain ⟨rfl, rfl, rfl⟩ := hJ
      obtain rfl := Option.some.inj h
      refine LT_keep [4] [] (fr' := [(4, aB v24)]) (L' := []) (by kernel_rfl) ?_
      refine blockQ_ret ?_
      refine seqQ_ret ?_
      exact retQ_mk (by kernel_rfl) (by kernel_rfl) (by kernel_rfl)
    · obtain ⟨rfl, rfl, rfl⟩ := hJ
      refine LT_keep [] [] (fr' := []) (L' := []) (by kernel_rfl) ?_
      refine blockQ_hit ?_
      refine seqQ_norm ?_
      refine W_seq (by kernel_rfl) ?_
      refine W_run 1 [] [4] [] (fr' := [(4, aB true)]) (L' := []) (obs := []) (by kernel_rfl) (by kernel_rfl) (by kernel_rfl) allP0 ?_
      refine seqQ_norm ?_
      obtain rfl := Option.some.inj h
      refine W_ret [4] [] (fr' := [(4, aB true)]) (L' := []) (by kernel_rfl) (by kernel_rfl) ?_
      exact retQ_mk (by kernel_rfl) (by kernel_rfl) (by kernel_rfl)

noncomputable def ref_PolyCheck_b1 (a0 : Int) (i16 : Int) (v19 : (Int × (List Int))) (x17 : Unit) : Option (Flow Unit (Esc Int Unit)) :=
bif (List.length v19.2 : Int) != a0 then
(some (.done (.ret (3 : Int))))
else
(some (.next ()))
@[reducible] def ref_PolyCheck_s2 (a0 : Int) (a1 : (List (Int × (List Int)))) (v : Int × Unit) : Fr × LL := ([(0, aI a0), (1, aD (.slice (.pair tI (.slice tI))) a1), (19, aD (.slice (.pair tI (.slice tI))) a1), (20, aI (List.length a1 : Int)), (21, aI v.1)], [])
@[reducible] def ref_PolyCheck_s3 (v : Int) : Fr × LL := ([(4, aI v)], [])
@[reducible] def ref_PolyCheck_s4 (a1 : (List (Int × (List Int)))) (v : Unit) : Fr × LL := ([(1, aD (.slice (.pair tI (.slice tI))) a1)], [])
noncomputable def ref_PolyCheck_b11 (i130 : Int) (v133 : Int) (x131 : Unit) : Option (Flow Unit (Esc Int Unit)) :=
(ref_Within (0 : Int) v133 (8 : Int)).bind fun r136 =>
bif !r136 then
(some (.done (.ret (4 : Int))))
else
(some (.next ()))
@[reducible] def ref_PolyCheck_s12 (a1 : (List (Int × (List Int)))) (i107 : Int) (v110 : (Int × (List Int))) (v : Int × Unit) : Fr × LL := ([(31, aD (.slice (.pair tI (.slice tI))) a1), (32, aI (List.length a1 : Int)), (33, aI i107), (43, aD (.slice tI) v110.2), (44, aI (List.length v110.2 : Int)), (45, aI v.1)], [])
@[reducible] def ref_PolyCheck_s13 (v : Int) : Fr × LL := ([(4, aI v)], [])
@[reducible] def ref_PolyCheck_s14 (a1 : (List (Int × (List Int)))) (i107 : Int) (v : Unit) : Fr × LL := ([(31, aD (.slice (.pair tI (.slice tI))) a1), (32, aI (List.length a1 : Int)), (33, aI i107)], [])
noncomputable def ref_PolyCheck_b15 (i107 : Int) (v110 : (Int × (List Int))) (x108 : Unit) : Option (Flow Unit (Esc Int Unit)) :=
(ref_Inside (7 : Int) [v110.1]).bind fun r113 =>
bif !r113 then
(some (.done (.ret (4 : Int))))
else
((forL ref_PolyCheck_b11 (fun x131 => (.brk ())) v110.2 0 ()).bind fun v140 =>
match v140 with
| .ret v145 =>
(some (.done (.ret v145)))
| .brk v146 =>
(some (.next ())))
@[reducible] def ref_PolyCheck_s16 (a1 : (List (Int × (List Int)))) (v : Int × Unit) : Fr × LL := ([(31, aD (.slice (.pair tI (.slice tI))) a1), (32, aI (List.length a1 : Int)), (33, aI v.1)], [])
@[reducible] def ref_PolyCheck_s17 (v : Int) : Fr × LL := ([(4, aI v)], [])
@[reducible] def ref_PolyCheck_s18 (v : Unit) : Fr × LL := ([], [])
noncomputable def ref_PolyCheck (a0 : Int) (a1 : (List (Int × (List Int)))) : Option Int :=
(ref_Within (1 : Int) a0 (3 : Int)).bind fun r3 =>
bif (!r3) || (decide ((List.length a1 : Int) > (12 : Int))) then
(some (1 : Int))
else
((forL (ref_PolyCheck_b1 a0) (fun x17 => (.brk ())) a1 0 ()).bind fun v24 =>
match v24 with
| .ret v29 =>
(some v29)
| .brk v30 =>
((forL ref_PolyCheck_b15 (fun x108 => (.brk ())) a1 0 ()).bind fun v148 =>
match v148 with
| .ret v153 =>
(some v153)
| .brk v154 =>
(some (0 : Int))))
theorem ref_PolyCheck_ok {a0 : Int} {a1 : (List (Int × (List Int)))} {r : Int} (h : ref_PolyCheck a0 a1 = some r) : FnC Try.prog 22 [aI a0, aD (.slice (.pair tI (.slice tI))) a1] [] (aI r) [] := by
  refine fnC_of_W (B := bodyOf Try.f22) (n := 54) Try.func22 (by kernel_rfl) (by kernel_rfl) (by kernel_rfl) (by kernel_rfl) (by kernel_rfl) ?_
  intro K
  refine W_seq (by kernel_rfl) ?_
  refine W_run 1 [] [0, 1] [] (fr' := [(0, aI a0), (1, aD (.slice (.pair tI (.slice tI))) a1)]) (L' := []) (obs := []) (by kernel_rfl) (by kernel_rfl) (by kernel_rfl) allP0 ?_
  refine seqQ_norm ?_
  refine W_seq (by kernel_rfl) ?_
  refine W_seq (by kernel_rfl) ?_
  refine W_region (by kernel_rfl) ?_
  refine WO_run (j := 1) (k := 1) (orcs := []) (kF := [0, 1, 11]) (kL := []) (fr' := [(0, aI a0), (1, aD (.slice (.pair tI (.slice tI))) a1), (11, aI a0)]) (L' := []) (obs := []) rfl (by kernel_rfl) allP0 ?_
  obtain ⟨r3, h4, h⟩ := bind_of h
  refine WO_call0 (us := [none, none, none]) (d := 12) (p := True) (j := 2) rfl ⟨by kernel_rfl, by kernel_rfl, by kernel_rfl⟩ trivial (ref_Within_ok h4) (by kernel_rfl) ?_
  refine WO_run (j := 8) (k := 6) (orcs := []) (kF := [0, 1, 18]) (kL := []) (fr' := [(0, aI a0), (1, aD (.slice (.pair tI (.slice tI))) a1), (18, aB ((!r3) || (decide ((List.length a1 : Int) > (12 : Int)))))]) (L' := []) (obs := []) rfl (by kernel_rfl) allP0 ?_
  refine WO_fin [0, 1, 18] [] (fr' := [(0, aI a0), (1, aD (.slice (.pair tI (.slice tI))) a1), (18, aB ((!r3) || (decide ((List.length a1 : Int) > (12 : Int)))))]) (L' := []) (by kernel_rfl) (by kernel_rfl) ?_
  refine seqQ_norm ?_
  refine W_cond (o := .tmp 18) (b := (!r3) || (decide ((List.length a1 : Int) > (12 : Int)))) (by kernel_rfl) (by kernel_rfl) (fun h5 => ?_) (fun h5 => ?_)
  · replace h := ofT h5 h
    refine W_seq (by kernel_rfl) ?_
    refine W_run 1 [] [4] [] (fr' := [(4, aI (1 : Int))]) (L' := []) (obs := []) (by kernel_rfl) (by kernel_rfl) (by kernel_rfl) allP0 ?_
    refine seqQ_norm ?_
    obtain rfl := Option.some.inj h
    refine W_ret [4] [] (fr' := [(4, aI (1 : Int))]) (L' := []) (by kernel_rfl) (by kernel_rfl) ?_
    refine seqQ_ret ?_
    exact retQ_mk (by kernel_rfl) (by kernel_rfl) (by kernel_rfl)
  · replace h := ofF h5 h
    refine W_skip [0, 1] [] (fr' := [(0, aI a0), (1, aD (.slice (.pair tI (.slice tI))) a1)]) (L' := []) (by kernel_rfl) (by kernel_rfl) ?_
    refine seqQ_norm ?_
    refine W_seq (by kernel_rfl) ?_
    refine W_seq (by kernel_rfl) ?_
    refine W_run 3 [] [0, 1, 19, 20, 21] [] (fr' := [(0, aI a0), (1, aD (.slice (.pair tI (.slice tI))) a1), (19, aD (.slice (.pair tI (.slice tI))) a1), (20, aI (List.length a1 : Int)), (21, aI (0 : Int))]) (L' := []) (obs := []) (by kernel_rfl) (by kernel_rfl) (by kernel_rfl) allP0 ?_
    refine seqQ_norm ?_
    refine W_block (id := 0) (by kernel_rfl) ?_
    obtain ⟨v24, h25, h⟩ := bind_of h
    refine W_len (t := 19) (u := (.pair tI (.slice tI))) (xs := a1) (by kernel_rfl) (fun h28 => ?_)
    obtain ⟨h26, h27⟩ := forL_iter h28 h25
    refine W_weaken [0, 1, 19, 20, 21] [] (fr' := ((ref_PolyCheck_s2 a0 a1) ((0 : Int), ())).1) (L' := ((ref_PolyCheck_s2 a0 a1) ((0 : Int), ())).2) (by kernel_rfl) ?_
    refine W_cutK (W_loop (S := (ref_PolyCheck_s2 a0 a1)) (J := (escQ (exQ .ret ref_PolyCheck_s3) (exQ (.exit 0) (ref_PolyCheck_s4 a1)))) (by kernel_rfl) ?_ h26 _ v24 h27) ?_
    · rintro ⟨i16, x17⟩ s h
      refine W_seq (by kernel_rfl) ?_
      refine W_run 1 [] [0, 1, 19, 20, 21, 22] [] (fr' := [(0, aI a0), (1, aD (.slice (.pair tI (.slice tI))) a1), (19, aD (.slice (.pair tI (.slice tI))) a1), (20, aI (List.length a1 : Int)), (21, aI i16), (22, aB (decide (i16 < (List.length a1 : Int))))]) (L' := []) (obs := []) (by kernel_rfl) (by kernel_rfl) (by kernel_rfl) allP0 ?_
      refine seqQ_norm ?_
      refine W_seq (by kernel_rfl) ?_
      refine W_cond (o := .tmp 22) (b := decide (i16 < (List.length a1 : Int))) (by kernel_rfl) (by kernel_rfl) (fun h21 => ?_) (fun h21 => ?_)
      · replace h := stepL_true h21 h
        obtain ⟨v19, _, h20, h, rfl⟩ := h
        refine W_skip [0, 1, 19, 20, 21] [] (fr' := [(0, aI a0), (1, aD (.slice (.pair tI (.slice tI))) a1), (19, aD (.slice (.pair tI (.slice tI))) a1), (20, aI (List.length a1 : Int)), (21, aI i16)]) (L' := []) (by kernel_rfl) (by kernel_rfl) ?_
        refine seqQ_norm ?_
        refine W_seq (by kernel_rfl) ?_
        refine W_block (id := 1) (by kernel_rfl) ?_
        refine W_seq (by kernel_rfl) ?_
        refine W_run 4 [(1, .val (.dat (.pair tI (.slice tI)) v19)), (5, .typed)] [0, 1, 6, 19, 20, 21] [6] (fr' := [(0, aI a0), (1, aD (.slice (.pair tI (.slice tI))) a1), (6, .one (.ptr 6 0)), (19, aD (.slice (.pair tI (.slice tI))) a1), (20, aI (List.length a1 : Int)), (21, aI i16)]) (L' := [(6, .one (.pair tI (.slice tI)) v19)]) (obs := [Idx a1 i16 v19, True]) (by kernel_rfl) (by kernel_rfl) (by kernel_rfl) (allP2 (Idx.of h20) (allP1 trivial)) ?_
        refine seqQ_norm ?_
        refine W_seq (by kernel_rfl) ?_
        refine W_run 5 [] [0, 1, 19, 20, 21, 29] [] (fr' := [(0, aI a0), (1, aD (.slice (.pair tI (.slice tI))) a1), (19, aD (.slice (.pair tI (.slice tI))) a1), (20, aI (List.length a1 : Int)), (21, aI i16), (29, aB ((List.length v19.2 : Int) != a0))]) (L' := []) (obs := []) (by kernel_rfl) (by kernel_rfl) (by kernel_rfl) allP0 ?_
        refine seqQ_norm ?_
        refine W_cond (o := .tmp 29) (b := (List.length v19.2 : Int) != a0) (by kernel_rfl) (by kernel_rfl) (fun h22 => ?_) (fun h22 => ?_)
        · replace h := ofT h22 h
          refine W_seq (by kernel_rfl) ?_
          refine W_run 1 [] [4] [] (fr' := [(4, aI (3 : Int))]) (L' := []) (obs := []) (by kernel_rfl) (by kernel_rfl) (by kernel_rfl) allP0 ?_
          refine seqQ_norm ?_
          obtain rfl := Option.some.inj h
          refine W_ret [4] [] (fr' := [(4, aI (3 : Int))]) (L' := []) (by kernel_rfl) (by kernel_rfl) ?_
          refine blockQ_ret ?_
          refine seqQ_ret ?_
          refine round_ret ?_
          refine escQ_ret ?_
          exact exQ_mk (by kernel_rfl) (by kernel_rfl)
        · replace h := ofF h22 h
          refine W_skip [0, 1, 19, 20, 21] [] (fr' := [(0, aI a0), (1, aD (.slice (.pair tI (.slice tI))) a1), (19, aD (.slice (.pair tI (.slice tI))) a1), (20, aI (List.length a1 : Int)), (21, aI i16)]) (L' := []) (by kernel_rfl) (by kernel_rfl) ?_
          refine blockQ_norm ?_
          refine seqQ_norm ?_
          obtain rfl := Option.some.inj h
          refine W_run 2 [] [0, 1, 19, 20, 21] [] (fr' := [(0, aI a0), (1, aD (.slice (.pair tI (.slice tI))) a1), (19, aD (.slice (.pair tI (.slice tI))) a1), (20, aI (List.length a1 : Int)), (21, aI (w64 (i16 + (1 : Int))))]) (L' := []) (obs := []) (by kernel_rfl) (by kernel_rfl) (by kernel_rfl) allP0 ?_
          exact round_next' (by kernel_rfl) (by kernel_rfl)
      · obtain rfl := stepL_false h21 h
        refine W_exit (id := 0) [1] [] (fr' := [(1, aD (.slice (.pair tI (.slice tI))) a1)]) (L' := []) (by kernel_rfl) (by kernel_rfl) ?_
        refine seqQ_exit ?_
        refine round_exit ?_
        refine escQ_brk ?_
        exact exQ_mk (by kernel_rfl) (by kernel_rfl)
    · intro e fr L hJ
      rcases v24 with v29 | v30
      · obtain ⟨rfl, rfl, rfl⟩ := hJ
        obtain rfl := Option.some.inj h
        refine LT_keep [4] [] (fr' := [(4, aI v29)]) (L' := []) (by kernel_rfl) ?_
        refine blockQ_ret ?_
        refine seqQ_ret ?_
        exact retQ_mk (by kernel_rfl) (by kernel_rfl) (by kernel_rfl)
      · obtain ⟨rfl, rfl, rfl⟩ := hJ
        refine LT_keep [1] [] (fr' := [(1, aD (.slice (.pair tI (.slice tI))) a1)]) (L' := []) (by kernel_rfl) ?_
        refine blockQ_hit ?_
        refine seqQ_norm ?_
        refine W_seq (by kernel_rfl) ?_
        refine W_seq (by kernel_rfl) ?_
        refine W_run 3 [] [31, 32, 33] [] (fr' := [(31, aD (.slice (.pair tI (.slice tI))) a1), (32, aI (List.length a1 : Int)), (33, aI (0 : Int))]) (L' := []) (obs := []) (by kernel_rfl) (by kernel_rfl) (by kernel_rfl) allP0 ?_
        refine seqQ_norm ?_
        refine W_block (id := 2) (by kernel_rfl) ?_
        obtain ⟨v148, h149, h⟩ := bind_of h
        refine W_len (t := 31) (u := (.pair tI (.slice tI))) (xs := a1) (by kernel_rfl) (fun h152 => ?_)
        obtain ⟨h150, h151⟩ := forL_iter h152 h149
        refine W_weaken [31, 32, 33] [] (fr' := ((ref_PolyCheck_s16 a1) ((0 : Int), ())).1) (L' := ((ref_PolyCheck_s16 a1) ((0 : Int), ())).2) (by kernel_rfl) ?_
        refine W_cutK (W_loop (S := (ref_PolyCheck_s16 a1)) (J := (escQ (exQ .ret ref_PolyCheck_s17) (exQ (.exit 2) ref_PolyCheck_s18))) (by kernel_rfl) ?_ h150 _ v148 h151) ?_
        · rintro ⟨i107, x108⟩ s h
          refine W_seq (by kernel_rfl) ?_
          refine W_run 1 [] [31, 32, 33, 34] [] (fr' := [(31, aD (.slice (.pair tI (.slice tI))) a1), (32, aI (List.length a1 : Int)), (33, aI i107), (34, aB (decide (i107 < (List.length a1 : Int))))]) (L' := []) (obs := []) (by kernel_rfl) (by kernel_rfl) (by kernel_rfl) allP0 ?_
          refine seqQ_norm ?_
          refine W_seq (by kernel_rfl) ?_
          refine W_cond (o := .tmp 34) (b := decide (i107 < (List.length a1 : Int))) (by kernel_rfl) (by kernel_rfl) (fun h112 => ?_) (fun h112 => ?_)
          · replace h := stepL_true h112 h
            obtain ⟨v110, _, h111, h, rfl⟩ := h
            refine W_skip [31, 32, 33] [] (fr' := [(31, aD (.slice (.pair tI (.slice tI))) a1), (32, aI (List.length a1 : Int)), (33, aI i107)]) (L' := []) (by kernel_rfl) (by kernel_rfl) ?_
            refine seqQ_norm ?_
            refine W_seq (by kernel_rfl) ?_
            refine W_block (id := 3) (by kernel_rfl) ?_
            refine W_seq (by kernel_rfl) ?_
            refine W_run 4 [(1, .val (.dat (.pair tI (.slice tI)) v110)), (5, .typed)] [8, 31, 32, 33] [8] (fr' := [(8, .one (.ptr 8 0)), (31, aD (.slice (.pair tI (.slice tI))) a1), (32, aI (List.length a1 : Int)), (33, aI i107)]) (L' := [(8, .one (.pair tI (.slice tI)) v110)]) (obs := [Idx a1 i107 v110, True]) (by kernel_rfl) (by kernel_rfl) (by kernel_rfl) (allP2 (Idx.of h111) (allP1 trivial)) ?_
            refine seqQ_norm ?_
            refine W_seq (by kernel_rfl) ?_
            refine W_seq (by kernel_rfl) ?_
            refine W_region (by kernel_rfl) ?_
            refine WO_run (j := 3) (k := 3) (orcs := []) (kF := [8, 31, 32, 33, 39]) (kL := [8, 39]) (fr' := [(8, .one (.ptr 8 0)), (31, aD (.slice (.pair tI (.slice tI))) a1), (32, aI (List.length a1 : Int)), (33, aI i107), (39, .one (.slc 39))]) (L' := [(8, .one (.pair tI (.slice tI)) v110), (39, .seq tI [v110.1])]) (obs := []) rfl (by kernel_rfl) allP0 ?_
            obtain ⟨r113, h114, h⟩ := bind_of h
            refine WO_frz 39 (by kernel_rfl) ?_
            refine WO_call0 (us := [none, none]) (d := 40) (p := True) (j := 4) rfl ⟨by kernel_rfl, by kernel_rfl, by kernel_rfl⟩ trivial (ref_Inside_ok h114) (by kernel_rfl) ?_
            refine WO_run (j := 5) (k := 1) (orcs := []) (kF := [8, 31, 32, 33, 41]) (kL := [8]) (fr' := [(8, .one (.ptr 8 0)), (31, aD (.slice (.pair tI (.slice tI))) a1), (32, aI (List.length a1 : Int)), (33, aI i107), (41, aB (!r113))]) (L' := [(8, .one (.pair tI (.slice tI)) v110)]) (obs := []) rfl (by kernel_rfl) allP0 ?_
            refine WO_fin [8, 31, 32, 33, 41] [8] (fr' := [(8, .one (.ptr 8 0)), (31, aD (.slice (.pair tI (.slice tI))) a1), (32, aI (List.length a1 : Int)), (33, aI i107), (41, aB (!r113))]) (L' := [(8, .one (.pair tI (.slice tI)) v110)]) (by kernel_rfl) (by kernel_rfl) ?_
            refine seqQ_norm ?_
            refine W_cond (o := .tmp 41) (b := !r113) (by kernel_rfl) (by kernel_rfl) (fun h115 => ?_) (fun h115 => ?_)
            · replace h := ofT h115 h
              refine W_seq (by kernel_rfl) ?_
              refine W_run 1 [] [4] [] (fr' := [(4, aI (4 : Int))]) (L' := []) (obs := []) (by kernel_rfl) (by kernel_rfl) (by kernel_rfl) allP0 ?_
              refine seqQ_norm ?_
              obtain rfl := Option.some.inj h
              refine W_ret [4] [] (fr' := [(4, aI (4 : Int))]) (L' := []) (by kernel_rfl) (by kernel_rfl) ?_
              refine seqQ_ret ?_
              refine blockQ_ret ?_
              refine seqQ_ret ?_
              refine round_ret ?_
              refine escQ_ret ?_
              exact exQ_mk (by kernel_rfl) (by kernel_rfl)
            · replace h := ofF h115 h
              refine W_skip [8, 31, 32, 33] [8] (fr' := [(8, .one (.ptr 8 0)), (31, aD (.slice (.pair tI (.slice tI))) a1), (32, aI (List.length a1 : Int)), (33, aI i107)]) (L' := [(8, .one (.pair tI (.slice tI)) v110)]) (by kernel_rfl) (by kernel_rfl) ?_
              refine seqQ_norm ?_
              refine W_seq (by kernel_rfl) ?_
              refine W_run 4 [] [31, 32, 33, 43, 44, 45] [] (fr' := [(31, aD (.slice (.pair tI (.slice tI))) a1), (32, aI (List.length a1 : Int)), (33, aI i107), (43, aD (.slice tI) v110.2), (44, aI (List.length v110.2 : Int)), (45, aI (0 : Int))]) (L' := []) (obs := []) (by kernel_rfl) (by kernel_rfl) (by kernel_rfl) allP0 ?_
              refine seqQ_norm ?_
              refine W_block (id := 4) (by kernel_rfl) ?_
              obtain ⟨v140, h141, h⟩ := bind_of h
              refine W_len (t := 43) (u := tI) (xs := v110.2) (by kernel_rfl) (fun h144 => ?_)
              obtain ⟨h142, h143⟩ := forL_iter h144 h141
              refine W_weaken [31, 32, 33, 43, 44, 45] [] (fr' := ((ref_PolyCheck_s12 a1 i107 v110) ((0 : Int), ())).1) (L' := ((ref_PolyCheck_s12 a1 i107 v110) ((0 : Int), ())).2) (by kernel_rfl) ?_
              refine W_cutK (W_loop (S := (ref_PolyCheck_s12 a1 i107 v110)) (J := (escQ (exQ .ret ref_PolyCheck_s13) (exQ (.exit 4) (ref_PolyCheck_s14 a1 i107)))) (by kernel_rfl) ?_ h142 _ v140 h143) ?_
              · rintro ⟨i130, x131⟩ s h
                refine W_seq (by kernel_rfl) ?_
                refine W_run 1 [] [31, 32, 33, 43, 44, 45, 46] [] (fr' := [(31, aD (.slice (.pair tI (.slice tI))) a1), (32, aI (List.length a1 : Int)), (33, aI i107), (43, aD (.slice tI) v110.2), (44, aI (List.length v110.2 : Int)), (45, aI i130), (46, aB (decide (i130 < (List.length v110.2 : Int))))]) (L' := []) (obs := []) (by kernel_rfl) (by kernel_rfl) (by kernel_rfl) allP0 ?_
                refine seqQ_norm ?_
                refine W_seq (by kernel_rfl) ?_
                refine W_cond (o := .tmp 46) (b := decide (i130 < (List.length v110.2 : Int))) (by kernel_rfl) (by kernel_rfl) (fun h135 => ?_) (fun h135 => ?_)
                · replace h := stepL_true h135 h
                  obtain ⟨v133, _, h134, h, rfl⟩ := h
                  refine W_skip [31, 32, 33, 43, 44, 45] [] (fr' := [(31, aD (.slice (.pair tI (.slice tI))) a1), (32, aI (List.length a1 : Int)), (33, aI i107), (43, aD (.slice tI) v110.2), (44, aI (List.length v110.2 : Int)), (45, aI i130)]) (L' := []) (by kernel_rfl) (by kernel_rfl) ?_
                  refine seqQ_norm ?_
                  refine W_seq (by kernel_rfl) ?_
                  refine W_block (id := 5) (by kernel_rfl) ?_
                  refine W_seq (by kernel_rfl) ?_
                  refine W_run 3 [(1, .val (.dat tI v133))] [10, 31, 32, 33, 43, 44, 45] [] (fr' := [(10, aI v133), (31, aD (.slice (.pair tI (.slice tI))) a1), (32, aI (List.length a1 : Int)), (33, aI i107), (43, aD (.slice tI) v110.2), (44, aI (List.length v110.2 : Int)), (45, aI i130)]) (L' := []) (obs := [Idx v110.2 i130 v133]) (by kernel_rfl) (by kernel_rfl) (by kernel_rfl) (allP1 (Idx.of h134)) ?_
                  refine seqQ_norm ?_
                  refine W_seq (by kernel_rfl) ?_
                  refine W_region (by kernel_rfl) ?_
                  refine WO_run (j := 1) (k := 1) (orcs := []) (kF := [31, 32, 33, 43, 44, 45, 49]) (kL := []) (fr' := [(31, aD (.slice (.pair tI (.slice tI))) a1), (32, aI (List.length a1 : Int)), (33, aI i107), (43, aD (.slice tI) v110.2), (44, aI (List.length v110.2 : Int)), (45, aI i130), (49, aI v133)]) (L' := []) (obs := []) rfl (by kernel_rfl) allP0 ?_
                  obtain ⟨r136, h137, h⟩ := bind_of h
                  refine WO_call0 (us := [none, none, none]) (d := 50) (p := True) (j := 2) rfl ⟨by kernel_rfl, by kernel_rfl, by kernel_rfl⟩ trivial (ref_Within_ok h137) (by kernel_rfl) ?_
                  refine WO_run (j := 3) (k := 1) (orcs := []) (kF := [31, 32, 33, 43, 44, 45, 51]) (kL := []) (fr' := [(31, aD (.slice (.pair tI (.slice tI))) a1), (32, aI (List.length a1 : Int)), (33, aI i107), (43, aD (.slice tI) v110.2), (44, aI (List.length v110.2 : Int)), (45, aI i130), (51, aB (!r136))]) (L' := []) (obs := []) rfl (by kernel_rfl) allP0 ?_
                  refine WO_fin [31, 32, 33, 43, 44, 45, 51] [] (fr' := [(31, aD (.slice (.pair tI (.slice tI))) a1), (32, aI (List.length a1 : Int)), (33, aI i107), (43, aD (.slice tI) v110.2), (44, aI (List.length v110.2 : Int)), (45, aI i130), (51, aB (!r136))]) (L' := []) (by kernel_rfl) (by kernel_rfl) ?_
                  refine seqQ_norm ?_
                  refine W_cond (o := .tmp 51) (b := !r136) (by kernel_rfl) (by kernel_rfl) (fun h138 => ?_) (fun h138 => ?_)
                  · replace h := ofT h138 h
                    refine W_seq (by kernel_rfl) ?_
                    refine W_run 1 [] [4] [] (fr' := [(4, aI (4 : Int))]) (L' := []) (obs := []) (by kernel_rfl) (by kernel_rfl) (by kernel_rfl) allP0 ?_
                    refine seqQ_norm ?_
                    obtain rfl := Option.some.inj h
                    refine W_ret [4] [] (fr' := [(4, aI (4 : Int))]) (L' := []) (by kernel_rfl) (by kernel_rfl) ?_
                    refine blockQ_ret ?_
                    refine seqQ_ret ?_
                    refine round_ret ?_
                    refine escQ_ret ?_
                    exact exQ_mk (by kernel_rfl) (by kernel_rfl)
                  · replace h := ofF h138 h
                    refine W_skip [31, 32, 33, 43, 44, 45] [] (fr' := [(31, aD (.slice (.pair tI (.slice tI))) a1), (32, aI (List.length a1 : Int)), (33, aI i107), (43, aD (.slice tI) v110.2), (44, aI (List.length v110.2 : Int)), (45, aI i130)]) (L' := []) (by kernel_rfl) (by kernel_rfl) ?_
                    refine blockQ_norm ?_
                    refine seqQ_norm ?_
                    obtain rfl := Option.some.inj h
                    refine W_run 2 [] [31, 32, 33, 43, 44, 45] [] (fr' := [(31, aD (.slice (.pair tI (.slice tI))) a1), (32, aI (List.length a1 : Int)), (33, aI i107), (43, aD (.slice tI) v110.2), (44, aI (List.length v110.2 : Int)), (45, aI (w64 (i130 + (1 : Int))))]) (L' := []) (obs := []) (by kernel_rfl) (by kernel_rfl) (by kernel_rfl) allP0 ?_
                    exact round_next' (by kernel_rfl) (by kernel_rfl)
                · obtain rfl := stepL_false h135 h
                  refine W_exit (id := 4) [31, 32, 33] [] (fr' := [(31, aD (.slice (.pair tI (.slice tI))) a1), (32, aI (List.length a1 : Int)), (33, aI i107)]) (L' := []) (by kernel_rfl) (by kernel_rfl) ?_
                  refine seqQ_exit ?_
                  refine round_exit ?_
                  refine escQ_brk ?_
                  exact exQ_mk (by kernel_rfl) (by kernel_rfl)
              · intro e fr L hJ
                rcases v140 with v145 | v146
                · obtain ⟨rfl, rfl, rfl⟩ := hJ
                  obtain rfl := Option.some.inj h
                  refine LT_keep [4] [] (fr' := [(4, aI v145)]) (L' := []) (by kernel_rfl) ?_
                  refine blockQ_ret ?_
                  refine blockQ_ret ?_
                  refine seqQ_ret ?_
                  refine round_ret ?_
                  refine escQ_ret ?_
                  exact exQ_mk (by kernel_rfl) (by kernel_rfl)
                · obtain ⟨rfl, rfl, rfl⟩ := hJ
                  refine LT_keep [31, 32, 33] [] (fr' := [(31, aD (.slice (.pair tI (.slice tI))) a1), (32, aI (List.length a1 : Int)), (33, aI i107)]) (L' := []) (by kernel_rfl) ?_
                  refine blockQ_hit ?_
                  refine blockQ_norm ?_
                  refine seqQ_norm ?_
                  obtain rfl := Option.some.inj h
                  refine W_run 2 [] [31, 32, 33] [] (fr' := [(31, aD (.slice (.pair tI (.slice tI))) a1), (32, aI (List.length a1 : Int)), (33, aI (w64 (i107 + (1 : Int))))]) (L' := []) (obs := []) (by kernel_rfl) (by kernel_rfl) (by kernel_rfl) allP0 ?_
                  exact round_next' (by kernel_rfl) (by kernel_rfl)
          · obtain rfl := stepL_false h112 h
            refine W_exit (id := 2) [] [] (fr' := []) (L' := []) (by kernel_rfl) (by kernel_rfl) ?_
            refine seqQ_exit ?_
            refine round_exit ?_
            refine escQ_brk ?_
            exact exQ_mk (by kernel_rfl) (by kernel_rfl)
        · intro e fr L hJ
          rcases v148 with v153 | v154
          · obtain ⟨rfl, rfl, rfl⟩ := hJ
            obtain rfl := Option.some.inj h
            refine LT_keep [4] [] (fr' := [(4, aI v153)]) (L' := []) (by kernel_rfl) ?_
            refine blockQ_ret ?_
            refine seqQ_ret ?_
            exact retQ_mk (by kernel_rfl) (by kernel_rfl) (by kernel_rfl)
          · obtain ⟨rfl, rfl, rfl⟩ := hJ
            refine LT_keep [] [] (fr' := []) (L' := []) (by kernel_rfl) ?_
            refine blockQ_hit ?_
            refine seqQ_norm ?_
            refine W_seq (by kernel_rfl) ?_
            refine W_run 1 [] [4] [] (fr' := [(4, aI (0 : Int))]) (L' := []) (obs := []) (by kernel_rfl) (by kernel_rfl) (by kernel_rfl) allP0 ?_
            refine seqQ_norm ?_
            obtain rfl := Option.some.inj h
            refine W_ret [4] [] (fr' := [(4, aI (0 : Int))]) (L' := []) (by kernel_rfl) (by kernel_rfl) ?_
            exact retQ_mk (by kernel_rfl) (by kernel_rfl) (by kernel_rfl)

noncomputable def ref_Power_b1 (a0 : Int) (i5 : Int) (x6 : Int) : Option (Flow Int Int) :=
some (.next (w64 (x6 * a0)))
@[reducible] def ref_Power_s2 (a0 : Int) (a1 : Int) (v : Int × Int) : Fr × LL := ([(0, aI a0), (1, aI a1), (5, aI v.2), (6, aI v.1)], [])
@[reducible] def ref_Power_s3 (v : Int) : Fr × LL := ([(5, aI v)], [])
noncomputable def ref_Power (a0 : Int) (a1 : Int) : Option Int :=
(forI (0 : Int) a1 (ref_Power_b1 a0) (fun x6 => x6) (1 : Int)).bind fun v10 =>
some v10
theorem ref_Power_ok {a0 : Int} {a1 : Int} {r : Int} (h : ref_Power a0 a1 = some r) : FnC Try.prog 14 [aI a0, aI a1] [] (aI r) [] := by
  refine fnC_of_W (B := bodyOf Try.f14) (n := 16) Try.func14 (by kernel_rfl) (by kernel_rfl) (by kernel_rfl) (by kernel_rfl) (by kernel_rfl) ?_
  intro K
  refine W_seq (by kernel_rfl) ?_
  refine W_run 1 [] [0, 1] [] (fr' := [(0, aI a0), (1, aI a1)]) (L' := []) (obs := []) (by kernel_rfl) (by kernel_rfl) (by kernel_rfl) allP0 ?_
  refine seqQ_norm ?_
  refine W_seq (by kernel_rfl) ?_
  refine W_run 1 [] [0, 1, 5] [] (fr' := [(0, aI a0), (1, aI a1), (5, aI (1 : Int))]) (L' := []) (obs := []) (by kernel_rfl) (by kernel_rfl) (by kernel_rfl) allP0 ?_
  refine seqQ_norm ?_
  refine W_seq (by kernel_rfl) ?_
  refine W_seq (by kernel_rfl) ?_
  refine W_run 1 [] [0, 1, 5, 6] [] (fr' := [(0, aI a0), (1, aI a1), (5, aI (1 : Int)), (6, aI (0 : Int))]) (L' := []) (obs := []) (by kernel_rfl) (by kernel_rfl) (by kernel_rfl) allP0 ?_
  refine seqQ_norm ?_
  refine W_block (id := 0) (by kernel_rfl) ?_
  obtain ⟨v10, h11, h⟩ := bind_of h
  obtain ⟨h12, h13⟩ := forI_iter h11
  refine W_weaken [0, 1, 5, 6] [] (fr' := ((ref_Power_s2 a0 a1) ((0 : Int), (1 : Int))).1) (L' := ((ref_Power_s2 a0 a1) ((0 : Int), (1 : Int))).2) (by kernel_rfl) ?_
  refine W_cutK (W_loop (S := (ref_Power_s2 a0 a1)) (J := (exQ (.exit 0) ref_Power_s3)) (by kernel_rfl) ?_ h12 _ v10 h13) ?_
  · rintro ⟨i5, x6⟩ s h
    refine W_seq (by kernel_rfl) ?_
    refine W_seq (by kernel_rfl) ?_
    refine W_run 3 [] [0, 1, 5, 6, 9] [] (fr' := [(0, aI a0), (1, aI a1), (5, aI x6), (6, aI i5), (9, aB (decide (i5 < a1)))]) (L' := []) (obs := []) (by kernel_rfl) (by kernel_rfl) (by kernel_rfl) allP0 ?_
    refine seqQ_norm ?_
    refine W_cond (o := .tmp 9) (b := decide (i5 < a1)) (by kernel_rfl) (by kernel_rfl) (fun h8 => ?_) (fun h8 => ?_)
    · replace h := stepI_true h8 h
      obtain ⟨_, h, rfl⟩ := h
      refine W_skip [0, 1, 5, 6] [] (fr' := [(0, aI a0), (1, aI a1), (5, aI x6), (6, aI i5)]) (L' := []) (by kernel_rfl) (by kernel_rfl) ?_
      refine seqQ_norm ?_
      refine W_seq (by kernel_rfl) ?_
      refine W_block (id := 1) (by kernel_rfl) ?_
      refine W_run 4 [] [0, 1, 5, 6] [] (fr' := [(0, aI a0), (1, aI a1), (5, aI (w64 (x6 * a0))), (6, aI i5)]) (L' := []) (obs := []) (by kernel_rfl) (by kernel_rfl) (by kernel_rfl) allP0 ?_
      refine blockQ_norm ?_
      refine seqQ_norm ?_
      obtain rfl := Option.some.inj h
      refine W_run 3 [] [0, 1, 5, 6] [] (fr' := [(0, aI a0), (1, aI a1), (5, aI (w64 (x6 * a0))), (6, aI (w64 (i5 + (1 : Int))))]) (L' := []) (obs := []) (by kernel_rfl) (by kernel_rfl) (by kernel_rfl) allP0 ?_
      exact round_next' (by kernel_rfl) (by kernel_rfl)
    · obtain rfl := stepI_false h8 h
      refine W_exit (id := 0) [5] [] (fr' := [(5, aI x6)]) (L' := []) (by kernel_rfl) (by kernel_rfl) ?_
      refine seqQ_exit ?_
      refine round_exit ?_
      exact exQ_mk (by kernel_rfl) (by kernel_rfl)
  · intro e fr L hJ
    obtain ⟨rfl, rfl, rfl⟩ := hJ
    refine LT_keep [5] [] (fr' := [(5, aI v10)]) (L' := []) (by kernel_rfl) ?_
    refine blockQ_hit ?_
    refine seqQ_norm ?_
    refine W_seq (by kernel_rfl) ?_
    refine W_run 2 [] [4] [] (fr' := [(4, aI v10)]) (L' := []) (obs := []) (by kernel_rfl) (by kernel_rfl) (by kernel_rfl) allP0 ?_
    refine seqQ_norm ?_
    obtain rfl := Option.some.inj h
    refine W_ret [4] [] (fr' := [(4, aI v10)]) (L' := []) (by kernel_rfl) (by kernel_rfl) ?_
    exact retQ_mk (by kernel_rfl) (by kernel_rfl) (by kernel_rfl)

noncomputable def ref_Dice_b1 (a1 : Int) (i8 : Int) (x9 : (Int × (List Int))) : Option (Flow (Int × (List Int)) (List Int)) :=
(ck (a1 ≠ 0)).bind fun _ =>
(ck ((List.length x9.2 : Int) + 1 ≤ 4294967296)).bind fun _ =>
some (.next (w64 (Int.tdiv x9.1 a1), x9.2 ++ [Int.tmod x9.1 a1]))
@[reducible] def ref_Dice_s2 (a0 : Int) (a1 : Int) (v : Int × (Int × (List Int))) : Fr × LL := ([(0, aI a0), (1, aI a1), (2, aI v.2.1), (7, .one (.slc 19)), (8, aI v.1)], [(19, .seq tI v.2.2)])
@[reducible] def ref_Dice_s3 (v : (List Int)) : Fr × LL := ([(7, .one (.slc 19))], [(19, .seq tI v)])
noncomputable def ref_Dice (a0 : Int) (a1 : Int) (a2 : Int) : Option (List Int) :=
(forI (0 : Int) a0 (ref_Dice_b1 a1) (fun x9 => x9.2) (a2, [])).bind fun v15 =>
some v15
theorem ref_Dice_ok {a0 : Int} {a1 : Int} {a2 : Int} {r : (List Int)} (h : ref_Dice a0 a1 a2 = some r) : FnC Try.prog 15 [aI a0, aI a1, aI a2] [] (aD (.slice tI) r) [] := by
  refine fnC_of_W (B := bodyOf Try.f15) (n := 24) Try.func15 (by kernel_rfl) (by kernel_rfl) (by kernel_rfl) (by kernel_rfl) (by kernel_rfl) ?_
  intro K
  refine W_seq (by kernel_rfl) ?_
  refine W_run 1 [] [0, 1, 2] [] (fr' := [(0, aI a0), (1, aI a1), (2, aI a2)]) (L' := []) (obs := []) (by kernel_rfl) (by kernel_rfl) (by kernel_rfl) allP0 ?_
  refine seqQ_norm ?_
  refine W_seq (by kernel_rfl) ?_
  refine W_run 1 [] [0, 1, 2, 7] [] (fr' := [(0, aI a0), (1, aI a1), (2, aI a2), (7, .one (.nilS))]) (L' := []) (obs := []) (by kernel_rfl) (by kernel_rfl) (by kernel_rfl) allP0 ?_
  refine seqQ_norm ?_
  refine W_seq (by kernel_rfl) ?_
  refine W_seq (by kernel_rfl) ?_
  refine W_run 1 [] [0, 1, 2, 7, 8] [] (fr' := [(0, aI a0), (1, aI a1), (2, aI a2), (7, .one (.nilS)), (8, aI (0 : Int))]) (L' := []) (obs := []) (by kernel_rfl) (by kernel_rfl) (by kernel_rfl) allP0 ?_
  refine seqQ_norm ?_
  refine W_block (id := 0) (by kernel_rfl) ?_
  obtain ⟨v15, h16, h⟩ := bind_of h
  obtain ⟨h17, h18⟩ := forI_iter h16
  refine W_mine 7 19 tI (by kernel_rfl) ?_
  refine W_weaken [0, 1, 2, 7, 8] [19] (fr' := ((ref_Dice_s2 a0 a1) ((0 : Int), (a2, []))).1) (L' := ((ref_Dice_s2 a0 a1) ((0 : Int), (a2, []))).2) (by kernel_rfl) ?_
  refine W_cutK (W_loop (S := (ref_Dice_s2 a0 a1)) (J := (exQ (.exit 0) ref_Dice_s3)) (by kernel_rfl) ?_ h17 _ v15 h18) ?_
  · rintro ⟨i8, x9⟩ s h
    refine W_seq (by kernel_rfl) ?_
    refine W_seq (by kernel_rfl) ?_
    refine W_run 3 [] [0, 1, 2, 7, 8, 11] [19] (fr' := [(0, aI a0), (1, aI a1), (2, aI x9.1), (7, .one (.slc 19)), (8, aI i8), (11, aB (decide (i8 < a0)))]) (L' := [(19, .seq tI x9.2)]) (obs := []) (by kernel_rfl) (by kernel_rfl) (by kernel_rfl) allP0 ?_
    refine seqQ_norm ?_
    refine W_cond (o := .tmp 11) (b := decide (i8 < a0)) (by kernel_rfl) (by kernel_rfl) (fun h11 => ?_) (fun h11 => ?_)
    · replace h := stepI_true h11 h
      obtain ⟨_, h, rfl⟩ := h
      refine W_skip [0, 1, 2, 7, 8] [19] (fr' := [(0, aI a0), (1, aI a1), (2, aI x9.1), (7, .one (.slc 19)), (8, aI i8)]) (L' := [(19, .seq tI x9.2)]) (by kernel_rfl) (by kernel_rfl) ?_
      refine seqQ_norm ?_
      refine W_seq (by kernel_rfl) ?_
      refine W_block (id := 1) (by kernel_rfl) ?_
      refine W_seq (by kernel_rfl) ?_
      obtain ⟨_, h12, h⟩ := bind_of h
      replace h12 := ck_some h12
      obtain ⟨_, h13, h⟩ := bind_of h
      replace h13 := ck_some h13
      refine W_run 7 [] [0, 1, 2, 7, 8] [19] (fr' := [(0, aI a0), (1, aI a1), (2, aI x9.1), (7, .one (.slc 19)), (8, aI i8)]) (L' := [(19, .seq tI (x9.2 ++ [Int.tmod x9.1 a1]))]) (obs := [(a1 ≠ 0), SmallLen (List.length x9.2 + List.length [Int.tmod x9.1 a1])]) (by kernel_rfl) (by kernel_rfl) (by kernel_rfl) (allP2 h12 (allP1 h13)) ?_
      refine seqQ_norm ?_
      refine W_run 4 [] [0, 1, 2, 7, 8] [19] (fr' := [(0, aI a0), (1, aI a1), (2, aI (w64 (Int.tdiv x9.1 a1))), (7, .one (.slc 19)), (8, aI i8)]) (L' := [(19, .seq tI (x9.2 ++ [Int.tmod x9.1 a1]))]) (obs := [(a1 ≠ 0)]) (by kernel_rfl) (by kernel_rfl) (by kernel_rfl) (allP1 h12) ?_
      refine blockQ_norm ?_
      refine seqQ_norm ?_
      obtain rfl := Option.some.inj h
      refine W_run 3 [] [0, 1, 2, 7, 8] [19] (fr' := [(0, aI a0), (1, aI a1), (2, aI (w64 (Int.tdiv x9.1 a1))), (7, .one (.slc 19)), (8, aI (w64 (i8 + (1 : Int))))]) (L' := [(19, .seq tI (x9.2 ++ [Int.tmod x9.1 a1]))]) (obs := []) (by kernel_rfl) (by kernel_rfl) (by kernel_rfl) allP0 ?_
      exact round_next' (by kernel_rfl) (by kernel_rfl)
    · obtain rfl := stepI_false h11 h
      refine W_exit (id := 0) [7] [19] (fr' := [(7, .one (.slc 19))]) (L' := [(19, .seq tI x9.2)]) (by kernel_rfl) (by kernel_rfl) ?_
      refine seqQ_exit ?_
      refine round_exit ?_
      exact exQ_mk (by kernel_rfl) (by kernel_rfl)
  · intro e fr L hJ
    obtain ⟨rfl, rfl, rfl⟩ := hJ
    refine LT_keep [7] [19] (fr' := [(7, .one (.slc 19))]) (L' := [(19, .seq tI v15)]) (by kernel_rfl) ?_
    refine blockQ_hit ?_
    refine seqQ_norm ?_
    refine W_seq (by kernel_rfl) ?_
    refine W_run 2 [] [6] [19] (fr' := [(6, .one (.slc 19))]) (L' := [(19, .seq tI v15)]) (obs := []) (by kernel_rfl) (by kernel_rfl) (by kernel_rfl) allP0 ?_
    refine seqQ_norm ?_
    obtain rfl := Option.some.inj h
    refine W_frz 19 (by kernel_rfl) ?_
    refine W_ret [6] [] (fr' := [(6, aD (.slice tI) v15)]) (L' := []) (by kernel_rfl) (by kernel_rfl) ?_
    exact retQ_mk (by kernel_rfl) (by kernel_rfl) (by kernel_rfl)

noncomputable def ref_Poly_b31 (a1 : (List Int)) (i215 : Int) (i229 : Int) (x230 : Int) : Option (Flow Int Int) :=
(idx a1 i215).bind fun v233 =>
some (.next (Int.tmod (w64 (x230 * v233)) (7 : Int)))
@[reducible] def ref_Poly_s32 (a0 : (List (Int × (List Int)))) (a1 : (List Int)) (i163 : Int) (x164 : Int) (v166 : (Int × (List Int))) (i215 : Int) (v218 : Int) (v : Int × Int) : Fr × LL := ([(1, aD (.slice tI) a1), (5, aI x164), (8, aI v.2), (9, aI i215), (10, aI v218), (11, aI v.1), (12, aD (.slice (.pair tI (.slice tI))) a0), (13, aI (List.length a0 : Int)), (14, aI i163), (21, aD (.slice tI) v166.2), (22, aI (List.length v166.2 : Int)), (23, aI i215)], [])
@[reducible] def ref_Poly_s33 (a0 : (List (Int × (List Int)))) (a1 : (List Int)) (i163 : Int) (x164 : Int) (v166 : (Int × (List Int))) (i215 : Int) (v : Int) : Fr × LL := ([(1, aD (.slice tI) a1), (5, aI x164), (8, aI v), (12, aD (.slice (.pair tI (.slice tI))) a0), (13, aI (List.length a0 : Int)), (14, aI i163), (21, aD (.slice tI) v166.2), (22, aI (List.length v166.2 : Int)), (23, aI i215)], [])
noncomputable def ref_Poly_b34 (a1 : (List Int)) (i215 : Int) (v218 : Int) (x216 : Int) : Option (Flow Int Int) :=
(forI (0 : Int) v218 (ref_Poly_b31 a1 i215) (fun x230 => x230) x216).bind fun v236 =>
some (.next v236)
@[reducible] def ref_Poly_s35 (a0 : (List (Int × (List Int)))) (a1 : (List Int)) (i163 : Int) (x164 : Int) (v166 : (Int × (List Int))) (v : Int × Int) : Fr × LL := ([(1, aD (.slice tI) a1), (5, aI x164), (8, aI v.2), (12, aD (.slice (.pair tI (.slice tI))) a0), (13, aI (List.length a0 : Int)), (14, aI i163), (21, aD (.slice tI) v166.2), (22, aI (List.length v166.2 : Int)), (23, aI v.1)], [])
@[reducible] def ref_Poly_s36 (a0 : (List (Int × (List Int)))) (a1 : (List Int)) (i163 : Int) (x164 : Int) (v : Int) : Fr × LL := ([(1, aD (.slice tI) a1), (5, aI x164), (8, aI v), (12, aD (.slice (.pair tI (.slice tI))) a0), (13, aI (List.length a0 : Int)), (14, aI i163)], [])
noncomputable def ref_Poly_b37 (a1 : (List Int)) (i163 : Int) (v166 : (Int × (List Int))) (x164 : Int) : Option (Flow Int Int) :=
(forL (ref_Poly_b34 a1) (fun x216 => x216) v166.2 0 v166.1).bind fun v241 =>
some (.next (w64 (x164 + v241)))
@[reducible] def ref_Poly_s38 (a0 : (List (Int × (List Int)))) (a1 : (List Int)) (v : Int × Int) : Fr × LL := ([(1, aD (.slice tI) a1), (5, aI v.2), (12, aD (.slice (.pair tI (.slice tI))) a0), (13, aI (List.length a0 : Int)), (14, aI v.1)], [])
@[reducible] def ref_Poly_s39 (v : Int) : Fr × LL := ([(5, aI v)], [])
noncomputable def ref_Poly (a0 : (List (Int × (List Int)))) (a1 : (List Int)) : Option Int :=
(forL (ref_Poly_b37 a1) (fun x164 => x164) a0 0 (0 : Int)).bind fun v247 =>
some (Int.tmod v247 (7 : Int))
theorem ref_Poly_ok {a0 : (List (Int × (List Int)))} {a1 : (List Int)} {r : Int} (h : ref_Poly a0 a1 = some r) : FnC Try.prog 23 [aD (.slice (.pair tI (.slice tI))) a0, aD (.slice tI) a1] [] (aI r) [] := by
  refine fnC_of_W (B := bodyOf Try.f23) (n := 47) Try.func23 (by kernel_rfl) (by kernel_rfl) (by kernel_rfl) (by kernel_rfl) (by kernel_rfl) ?_
  intro K
  refine W_seq (by kernel_rfl) ?_
  refine W_run 1 [] [0, 1] [] (fr' := [(0, aD (.slice (.pair tI (.slice tI))) a0), (1, aD (.slice tI) a1)]) (L' := []) (obs := []) (by kernel_rfl) (by kernel_rfl) (by kernel_rfl) allP0 ?_
  refine seqQ_norm ?_
  refine W_seq (by kernel_rfl) ?_
  refine W_run 1 [] [0, 1, 5] [] (fr' := [(0, aD (.slice (.pair tI (.slice tI))) a0), (1, aD (.slice tI) a1), (5, aI (0 : Int))]) (L' := []) (obs := []) (by kernel_rfl) (by kernel_rfl) (by kernel_rfl) allP0 ?_
  refine seqQ_norm ?_
  refine W_seq (by kernel_rfl) ?_
  refine W_seq (by kernel_rfl) ?_
  refine W_run 3 [] [1, 5, 12, 13, 14] [] (fr' := [(1, aD (.slice tI) a1), (5, aI (0 : Int)), (12, aD (.slice (.pair tI (.slice tI))) a0), (13, aI (List.length a0 : Int)), (14, aI (0 : Int))]) (L' := []) (obs := []) (by kernel_rfl) (by kernel_rfl) (by kernel_rfl) allP0 ?_
  refine seqQ_norm ?_
  refine W_block (id := 0) (by kernel_rfl) ?_
  obtain ⟨v247, h248, h⟩ := bind_of h
  refine W_len (t := 12) (u := (.pair tI (.slice tI))) (xs := a0) (by kernel_rfl) (fun h251 => ?_)
  obtain ⟨h249, h250⟩ := forL_iter h251 h248
  refine W_weaken [1, 5, 12, 13, 14] [] (fr' := ((ref_Poly_s38 a0 a1) ((0 : Int), (0 : Int))).1) (L' := ((ref_Poly_s38 a0 a1) ((0 : Int), (0 : Int))).2) (by kernel_rfl) ?_
  refine W_cutK (W_loop (S := (ref_Poly_s38 a0 a1)) (J := (exQ (.exit 0) ref_Poly_s39)) (by kernel_rfl) ?_ h249 _ v247 h250) ?_
  · rintro ⟨i163, x164⟩ s h
    refine W_seq (by kernel_rfl) ?_
    refine W_run 1 [] [1, 5, 12, 13, 14, 15] [] (fr' := [(1, aD (.slice tI) a1), (5, aI x164), (12, aD (.slice (.pair tI (.slice tI))) a0), (13, aI (List.length a0 : Int)), (14, aI i163), (15, aB (decide (i163 < (List.length a0 : Int))))]) (L' := []) (obs := []) (by kernel_rfl) (by kernel_rfl) (by kernel_rfl) allP0 ?_
    refine seqQ_norm ?_
    refine W_seq (by kernel_rfl) ?_
    refine W_cond (o := .tmp 15) (b := decide (i163 < (List.length a0 : Int))) (by kernel_rfl) (by kernel_rfl) (fun h168 => ?_) (fun h168 => ?_)
    · replace h := stepL_true h168 h
      obtain ⟨v166, _, h167, h, rfl⟩ := h
      refine W_skip [1, 5, 12, 13, 14] [] (fr' := [(1, aD (.slice tI) a1), (5, aI x164), (12, aD (.slice (.pair tI (.slice tI))) a0), (13, aI (List.length a0 : Int)), (14, aI i163)]) (L' := []) (by kernel_rfl) (by kernel_rfl) ?_
      refine seqQ_norm ?_
      refine W_seq (by kernel_rfl) ?_
      refine W_block (id := 1) (by kernel_rfl) ?_
      refine W_seq (by kernel_rfl) ?_
      refine W_run 4 [(1, .val (.dat (.pair tI (.slice tI)) v166)), (5, .typed)] [1, 5, 7, 12, 13, 14] [7] (fr' := [(1, aD (.slice tI) a1), (5, aI x164), (7, .one (.ptr 7 0)), (12, aD (.slice (.pair tI (.slice tI))) a0), (13, aI (List.length a0 : Int)), (14, aI i163)]) (L' := [(7, .one (.pair tI (.slice tI)) v166)]) (obs := [Idx a0 i163 v166, True]) (by kernel_rfl) (by kernel_rfl) (by kernel_rfl) (allP2 (Idx.of h167) (allP1 trivial)) ?_
      refine seqQ_norm ?_
      refine W_seq (by kernel_rfl) ?_
      refine W_run 3 [] [1, 5, 7, 8, 12, 13, 14] [7] (fr' := [(1, aD (.slice tI) a1), (5, aI x164), (7, .one (.ptr 7 0)), (8, aI v166.1), (12, aD (.slice (.pair tI (.slice tI))) a0), (13, aI (List.length a0 : Int)), (14, aI i163)]) (L' := [(7, .one (.pair tI (.slice tI)) v166)]) (obs := []) (by kernel_rfl) (by kernel_rfl) (by kernel_rfl) allP0 ?_
      refine seqQ_norm ?_
      refine W_seq (by kernel_rfl) ?_
      refine W_seq (by kernel_rfl) ?_
      refine W_run 4 [] [1, 5, 8, 12, 13, 14, 21, 22, 23] [] (fr' := [(1, aD (.slice tI) a1), (5, aI x164), (8, aI v166.1), (12, aD (.slice (.pair tI (.slice tI))) a0), (13, aI (List.length a0 : Int)), (14, aI i163), (21, aD (.slice tI) v166.2), (22, aI (List.length v166.2 : Int)), (23, aI (0 : Int))]) (L' := []) (obs := []) (by kernel_rfl) (by kernel_rfl) (by kernel_rfl) allP0 ?_
      refine seqQ_norm ?_
      refine W_block (id := 2) (by kernel_rfl) ?_
      obtain ⟨v241, h242, h⟩ := bind_of h
      refine W_len (t := 21) (u := tI) (xs := v166.2) (by kernel_rfl) (fun h245 => ?_)
      obtain ⟨h243, h244⟩ := forL_iter h245 h242
      refine W_weaken [1, 5, 8, 12, 13, 14, 21, 22, 23] [] (fr' := ((ref_Poly_s35 a0 a1 i163 x164 v166) ((0 : Int), v166.1)).1) (L' := ((ref_Poly_s35 a0 a1 i163 x164 v166) ((0 : Int), v166.1)).2) (by kernel_rfl) ?_
      refine W_cutK (W_loop (S := (ref_Poly_s35 a0 a1 i163 x164 v166)) (J := (exQ (.exit 2) (ref_Poly_s36 a0 a1 i163 x164))) (by kernel_rfl) ?_ h243 _ v241 h244) ?_
      · rintro ⟨i215, x216⟩ s h
        refine W_seq (by kernel_rfl) ?_
        refine W_run 1 [] [1, 5, 8, 12, 13, 14, 21, 22, 23, 24] [] (fr' := [(1, aD (.slice tI) a1), (5, aI x164), (8, aI x216), (12, aD (.slice (.pair tI (.slice tI))) a0), (13, aI (List.length a0 : Int)), (14, aI i163), (21, aD (.slice tI) v166.2), (22, aI (List.length v166.2 : Int)), (23, aI i215), (24, aB (decide (i215 < (List.length v166.2 : Int))))]) (L' := []) (obs := []) (by kernel_rfl) (by kernel_rfl) (by kernel_rfl) allP0 ?_
        refine seqQ_norm ?_
        refine W_seq (by kernel_rfl) ?_
        refine W_cond (o := .tmp 24) (b := decide (i215 < (List.length v166.2 : Int))) (by kernel_rfl) (by kernel_rfl) (fun h220 => ?_) (fun h220 => ?_)
        · replace h := stepL_true h220 h
          obtain ⟨v218, _, h219, h, rfl⟩ := h
          refine W_skip [1, 5, 8, 12, 13, 14, 21, 22, 23] [] (fr' := [(1, aD (.slice tI) a1), (5, aI x164), (8, aI x216), (12, aD (.slice (.pair tI (.slice tI))) a0), (13, aI (List.length a0 : Int)), (14, aI i163), (21, aD (.slice tI) v166.2), (22, aI (List.length v166.2 : Int)), (23, aI i215)]) (L' := []) (by kernel_rfl) (by kernel_rfl) ?_
          refine seqQ_norm ?_
          refine W_seq (by kernel_rfl) ?_
          refine W_block (id := 3) (by kernel_rfl) ?_
          refine W_seq (by kernel_rfl) ?_
          refine W_run 5 [(3, .val (.dat tI v218))] [1, 5, 8, 9, 10, 12, 13, 14, 21, 22, 23] [] (fr' := [(1, aD (.slice tI) a1), (5, aI x164), (8, aI x216), (9, aI i215), (10, aI v218), (12, aD (.slice (.pair tI (.slice tI))) a0), (13, aI (List.length a0 : Int)), (14, aI i163), (21, aD (.slice tI) v166.2), (22, aI (List.length v166.2 : Int)), (23, aI i215)]) (L' := []) (obs := [Idx v166.2 i215 v218]) (by kernel_rfl) (by kernel_rfl) (by kernel_rfl) (allP1 (Idx.of h219)) ?_
          refine seqQ_norm ?_
          refine W_seq (by kernel_rfl) ?_
          refine W_run 1 [] [1, 5, 8, 9, 10, 11, 12, 13, 14, 21, 22, 23] [] (fr' := [(1, aD (.slice tI) a1), (5, aI x164), (8, aI x216), (9, aI i215), (10, aI v218), (11, aI (0 : Int)), (12, aD (.slice (.pair tI (.slice tI))) a0), (13, aI (List.length a0 : Int)), (14, aI i163), (21, aD (.slice tI) v166.2), (22, aI (List.length v166.2 : Int)), (23, aI i215)]) (L' := []) (obs := []) (by kernel_rfl) (by kernel_rfl) (by kernel_rfl) allP0 ?_
          refine seqQ_norm ?_
          refine W_block (id := 4) (by kernel_rfl) ?_
          obtain ⟨v236, h237, h⟩ := bind_of h
          obtain ⟨h238, h239⟩ := forI_iter h237
          refine W_weaken [1, 5, 8, 9, 10, 11, 12, 13, 14, 21, 22, 23] [] (fr' := ((ref_Poly_s32 a0 a1 i163 x164 v166 i215 v218) ((0 : Int), x216)).1) (L' := ((ref_Poly_s32 a0 a1 i163 x164 v166 i215 v218) ((0 : Int), x216)).2) (by kernel_rfl) ?_
          refine W_cutK (W_loop (S := (ref_Poly_s32 a0 a1 i163 x164 v166 i215 v218)) (J := (exQ (.exit 4) (ref_Poly_s33 a0 a1 i163 x164 v166 i215))) (by kernel_rfl) ?_ h238 _ v236 h239) ?_
          · rintro ⟨i229, x230⟩ s h
            refine W_seq (by kernel_rfl) ?_
            refine W_seq (by kernel_rfl) ?_
            refine W_run 3 [] [1, 5, 8, 9, 10, 11, 12, 13, 14, 21, 22, 23, 30] [] (fr' := [(1, aD (.slice tI) a1), (5, aI x164), (8, aI x230), (9, aI i215), (10, aI v218), (11, aI i229), (12, aD (.slice (.pair tI (.slice tI))) a0), (13, aI (List.length a0 : Int)), (14, aI i163), (21, aD (.slice tI) v166.2), (22, aI (List.length v166.2 : Int)), (23, aI i215), (30, aB (decide (i229 < v218)))]) (L' := []) (obs := []) (by kernel_rfl) (by kernel_rfl) (by kernel_rfl) allP0 ?_
            refine seqQ_norm ?_
            refine W_cond (o := .tmp 30) (b := decide (i229 < v218)) (by kernel_rfl) (by kernel_rfl) (fun h232 => ?_) (fun h232 => ?_)
            · replace h := stepI_true h232 h
              obtain ⟨_, h, rfl⟩ := h
              refine W_skip [1, 5, 8, 9, 10, 11, 12, 13, 14, 21, 22, 23] [] (fr' := [(1, aD (.slice tI) a1), (5, aI x164), (8, aI x230), (9, aI i215), (10, aI v218), (11, aI i229), (12, aD (.slice (.pair tI (.slice tI))) a0), (13, aI (List.length a0 : Int)), (14, aI i163), (21, aD (.slice tI) v166.2), (22, aI (List.length v166.2 : Int)), (23, aI i215)]) (L' := []) (by kernel_rfl) (by kernel_rfl) ?_
              refine seqQ_norm ?_
              refine W_seq (by kernel_rfl) ?_
              refine W_block (id := 5) (by kernel_rfl) ?_
              obtain ⟨v233, h234, h⟩ := bind_of h
              refine W_run 8 [(7, .val (.dat tI v233))] [1, 5, 8, 9, 10, 11, 12, 13, 14, 21, 22, 23] [] (fr' := [(1, aD (.slice tI) a1), (5, aI x164), (8, aI (Int.tmod (w64 (x230 * v233)) (7 : Int))), (9, aI i215), (10, aI v218), (11, aI i229), (12, aD (.slice (.pair tI (.slice tI))) a0), (13, aI (List.length a0 : Int)), (14, aI i163), (21, aD (.slice tI) v166.2), (22, aI (List.length v166.2 : Int)), (23, aI i215)]) (L' := []) (obs := [Idx a1 i215 v233, ((7 : Int) ≠ 0)]) (by kernel_rfl) (by kernel_rfl) (by kernel_rfl) (allP2 (Idx.of h234) (allP1 (by decide))) ?_
              refine blockQ_norm ?_
              refine seqQ_norm ?_
              obtain rfl := Option.some.inj h
              refine W_run 3 [] [1, 5, 8, 9, 10, 11, 12, 13, 14, 21, 22, 23] [] (fr' := [(1, aD (.slice tI) a1), (5, aI x164), (8, aI (Int.tmod (w64 (x230 * v233)) (7 : Int))), (9, aI i215), (10, aI v218), (11, aI (w64 (i229 + (1 : Int)))), (12, aD (.slice (.pair tI (.slice tI))) a0), (13, aI (List.length a0 : Int)), (14, aI i163), (21, aD (.slice tI) v166.2), (22, aI (List.length v166.2 : Int)), (23, aI i215)]) (L' := []) (obs := []) (by kernel_rfl) (by kernel_rfl) (by kernel_rfl) allP0 ?_
              exact round_next' (by kernel_rfl) (by kernel_rfl)
            · obtain rfl := stepI_false h232 h
              refine W_exit (id := 4) [1, 5, 8, 12, 13, 14, 21, 22, 23] [] (fr' := [(1, aD (.slice tI) a1), (5, aI x164), (8, aI x230), (12, aD (.slice (.pair tI (.slice tI))) a0), (13, aI (List.length a0 : Int)), (14, aI i163), (21, aD (.slice tI) v166.2), (22, aI (List.length v166.2 : Int)), (23, aI i215)]) (L' := []) (by kernel_rfl) (by kernel_rfl) ?_
              refine seqQ_exit ?_
              refine round_exit ?_
              exact exQ_mk (by kernel_rfl) (by kernel_rfl)
          · intro e fr L hJ
            obtain ⟨rfl, rfl, rfl⟩ := hJ
            refine LT_keep [1, 5, 8, 12, 13, 14, 21, 22, 23] [] (fr' := [(1, aD (.slice tI) a1), (5, aI x164), (8, aI v236), (12, aD (.slice (.pair tI (.slice tI))) a0), (13, aI (List.length a0 : Int)), (14, aI i163), (21, aD (.slice tI) v166.2), (22, aI (List.length v166.2 : Int)), (23, aI i215)]) (L' := []) (by kernel_rfl) ?_
            refine blockQ_hit ?_
            refine blockQ_norm ?_
            refine seqQ_norm ?_
            obtain rfl := Option.some.inj h
            refine W_run 2 [] [1, 5, 8, 12, 13, 14, 21, 22, 23] [] (fr' := [(1, aD (.slice tI) a1), (5, aI x164), (8, aI v236), (12, aD (.slice (.pair tI (.slice tI))) a0), (13, aI (List.length a0 : Int)), (14, aI i163), (21, aD (.slice tI) v166.2), (22, aI (List.length v166.2 : Int)), (23, aI (w64 (i215 + (1 : Int))))]) (L' := []) (obs := []) (by kernel_rfl) (by kernel_rfl) (by kernel_rfl) allP0 ?_
            exact round_next' (by kernel_rfl) (by kernel_rfl)
        · obtain rfl := stepL_false h220 h
          refine W_exit (id := 2) [1, 5, 8, 12, 13, 14] [] (fr' := [(1, aD (.slice tI) a1), (5, aI x164), (8, aI x216), (12, aD (.slice (.pair tI (.slice tI))) a0), (13, aI (List.length a0 : Int)), (14, aI i163)]) (L' := []) (by kernel_rfl) (by kernel_rfl) ?_
          refine seqQ_exit ?_
          refine round_exit ?_
          exact exQ_mk (by kernel_rfl) (by kernel_rfl)
      · intro e fr L hJ
        obtain ⟨rfl, rfl, rfl⟩ := hJ
        refine LT_keep [1, 5, 8, 12, 13, 14] [] (fr' := [(1, aD (.slice tI) a1), (5, aI x164), (8, aI v241), (12, aD (.slice (.pair tI (.slice tI))) a0), (13, aI (List.length a0 : Int)), (14, aI i163)]) (L' := []) (by kernel_rfl) ?_
        refine blockQ_hit ?_
        refine seqQ_norm ?_
        refine W_run 4 [] [1, 5, 12, 13, 14] [] (fr' := [(1, aD (.slice tI) a1), (5, aI (w64 (x164 + v241))), (12, aD (.slice (.pair tI (.slice tI))) a0), (13, aI (List.length a0 : Int)), (14, aI i163)]) (L' := []) (obs := []) (by kernel_rfl) (by kernel_rfl) (by kernel_rfl) allP0 ?_
        refine blockQ_norm ?_
        refine seqQ_norm ?_
        obtain rfl := Option.some.inj h
        refine W_run 2 [] [1, 5, 12, 13, 14] [] (fr' := [(1, aD (.slice tI) a1), (5, aI (w64 (x164 + v241))), (12, aD (.slice (.pair tI (.slice tI))) a0), (13, aI (List.length a0 : Int)), (14, aI (w64 (i163 + (1 : Int))))]) (L' := []) (obs := []) (by kernel_rfl) (by kernel_rfl) (by kernel_rfl) allP0 ?_
        exact round_next' (by kernel_rfl) (by kernel_rfl)
    · obtain rfl := stepL_false h168 h
      refine W_exit (id := 0) [5] [] (fr' := [(5, aI x164)]) (L' := []) (by kernel_rfl) (by kernel_rfl) ?_
      refine seqQ_exit ?_
      refine round_exit ?_
      exact exQ_mk (by kernel_rfl) (by kernel_rfl)
  · intro e fr L hJ
    obtain ⟨rfl, rfl, rfl⟩ := hJ
    refine LT_keep [5] [] (fr' := [(5, aI v247)]) (L' := []) (by kernel_rfl) ?_
    refine blockQ_hit ?_
    refine seqQ_norm ?_
    refine W_seq (by kernel_rfl) ?_
    refine W_run 3 [] [4] [] (fr' := [(4, aI (Int.tmod v247 (7 : Int)))]) (L' := []) (obs := [((7 : Int) ≠ 0)]) (by kernel_rfl) (by kernel_rfl) (by kernel_rfl) (allP1 (by decide)) ?_
    refine seqQ_norm ?_
    obtain rfl := Option.some.inj h
    refine W_ret [4] [] (fr' := [(4, aI (Int.tmod v247 (7 : Int)))]) (L' := []) (by kernel_rfl) (by kernel_rfl) ?_
    exact retQ_mk (by kernel_rfl) (by kernel_rfl) (by kernel_rfl)

noncomputable def ref_reduced_b1 (x3 : Int) : Option (Flow Int Int) :=
bif decide (x3 > (6 : Int)) then
(some (.next (w64 (x3 - (6 : Int)))))
else
(some (.done x3))
@[reducible] def ref_reduced_s2 (v : Int) : Fr × LL := ([(0, aI v)], [])
@[reducible] def ref_reduced_s3 (v : Int) : Fr × LL := ([(0, aI v)], [])
noncomputable def ref_reduced (fuel : Nat) (a0 : Int) : Option Int :=
(iter ref_reduced_b1 fuel a0).bind fun v6 =>
some v6
theorem ref_reduced_ok {fuel : Nat} {a0 : Int} {r : Int} (h : ref_reduced fuel a0 = some r) : FnC Try.prog 45 [aI a0] [] (aI r) [] := by
  refine fnC_of_W (B := bodyOf Try.f45) (n := 8) Try.func45 (by kernel_rfl) (by kernel_rfl) (by kernel_rfl) (by kernel_rfl) (by kernel_rfl) ?_
  intro K
  refine W_seq (by kernel_rfl) ?_
  refine W_run 1 [] [0] [] (fr' := [(0, aI a0)]) (L' := []) (obs := []) (by kernel_rfl) (by kernel_rfl) (by kernel_rfl) allP0 ?_
  refine seqQ_norm ?_
  refine W_seq (by kernel_rfl) ?_
  refine W_block (id := 0) (by kernel_rfl) ?_
  obtain ⟨v6, h7, h⟩ := bind_of h
  refine W_weaken [0] [] (fr' := (ref_reduced_s2 a0).1) (L' := (ref_reduced_s2 a0).2) (by kernel_rfl) ?_
  refine W_cutK (W_loop (S := ref_reduced_s2) (J := (exQ (.exit 0) ref_reduced_s3)) (by kernel_rfl) ?_ fuel _ v6 h7) ?_
  · rintro x3 s h
    refine W_seq (by kernel_rfl) ?_
    refine W_seq (by kernel_rfl) ?_
    refine W_run 2 [] [0, 4] [] (fr' := [(0, aI x3), (4, aB (decide (x3 > (6 : Int))))]) (L' := []) (obs := []) (by kernel_rfl) (by kernel_rfl) (by kernel_rfl) allP0 ?_
    refine seqQ_norm ?_
    refine W_cond (o := .tmp 4) (b := decide (x3 > (6 : Int))) (by kernel_rfl) (by kernel_rfl) (fun h5 => ?_) (fun h5 => ?_)
    · replace h := ofT h5 h
      refine W_skip [0] [] (fr' := [(0, aI x3)]) (L' := []) (by kernel_rfl) (by kernel_rfl) ?_
      refine seqQ_norm ?_
      refine W_block (id := 1) (by kernel_rfl) ?_
      obtain rfl := Option.some.inj h
      refine W_run 3 [] [0] [] (fr' := [(0, aI (w64 (x3 - (6 : Int))))]) (L' := []) (obs := []) (by kernel_rfl) (by kernel_rfl) (by kernel_rfl) allP0 ?_
      refine blockQ_norm ?_
      exact round_next' (by kernel_rfl) (by kernel_rfl)
    · replace h := ofF h5 h
      obtain rfl := Option.some.inj h
      refine W_exit (id := 0) [0] [] (fr' := [(0, aI x3)]) (L' := []) (by kernel_rfl) (by kernel_rfl) ?_
      refine seqQ_exit ?_
      refine round_exit ?_
      exact exQ_mk (by kernel_rfl) (by kernel_rfl)
  · intro e fr L hJ
    obtain ⟨rfl, rfl, rfl⟩ := hJ
    refine LT_keep [0] [] (fr' := [(0, aI v6)]) (L' := []) (by kernel_rfl) ?_
    refine blockQ_hit ?_
    refine seqQ_norm ?_
    refine W_seq (by kernel_rfl) ?_
    refine W_run 2 [] [2] [] (fr' := [(2, aI v6)]) (L' := []) (obs := []) (by kernel_rfl) (by kernel_rfl) (by kernel_rfl) allP0 ?_
    refine seqQ_norm ?_
    obtain rfl := Option.some.inj h
    refine W_ret [2] [] (fr' := [(2, aI v6)]) (L' := []) (by kernel_rfl) (by kernel_rfl) ?_
    exact retQ_mk (by kernel_rfl) (by kernel_rfl) (by kernel_rfl)

noncomputable def ref_PolyDegree_b345 (fuel : Nat) (v2478 : (Int × (List Int))) (v3586 : (Int × (List Int))) (i3690 : Int) (x3691 : Bool) : Option (Flow Bool Bool) :=
bif x3691 then
((idx v2478.2 i3690).bind fun v3695 =>
(ref_reduced fuel v3695).bind fun r3697 =>
(idx v3586.2 i3690).bind fun v3699 =>
(ref_reduced fuel v3699).bind fun r3701 =>
some (.next (r3697 == r3701)))
else
(some (.next false))
@[reducible] def ref_PolyDegree_s346 (a0 : (List (Int × (List Int)))) (i2475 : Int) (x2476 : Int) (v2478 : (Int × (List Int))) (i3583 : Int) (x3584 : Int) (v3586 : (Int × (List Int))) (v : Int × Bool) : Fr × LL := ([(0, aD (.slice (.pair tI (.slice tI))) a0), (3, aI x2476), (5, .one (.ptr 5 0)), (6, aI x3584), (8, .one (.ptr 8 0)), (9, aB v.2), (14, aD (.slice (.pair tI (.slice tI))) a0), (15, aI (List.length a0 : Int)), (16, aI i2475), (20, aD (.slice (.pair tI (.slice tI))) a0), (21, aI (List.length a0 : Int)), (22, aI i3583), (28, aI (List.length v2478.2 : Int)), (29, aI v.1)], [(5, .one (.pair tI (.slice tI)) v2478), (8, .one (.pair tI (.slice tI)) v3586)])
@[reducible] def ref_PolyDegree_s347 (a0 : (List (Int × (List Int)))) (i2475 : Int) (x2476 : Int) (v2478 : (Int × (List Int))) (i3583 : Int) (x3584 : Int) (v3586 : (Int × (List Int))) (v : Bool) : Fr × LL := ([(0, aD (.slice (.pair tI (.slice tI))) a0), (3, aI x2476), (5, .one (.ptr 5 0)), (6, aI x3584), (8, .one (.ptr 8 0)), (9, aB v), (14, aD (.slice (.pair tI (.slice tI))) a0), (15, aI (List.length a0 : Int)), (16, aI i2475), (20, aD (.slice (.pair tI (.slice tI))) a0), (21, aI (List.length a0 : Int)), (22, aI i3583)], [(5, .one (.pair tI (.slice tI)) v2478), (8, .one (.pair tI (.slice tI)) v3586)])
noncomputable def ref_PolyDegree_g348 (fuel : Nat) (v2478 : (Int × (List Int))) (x3584 : Int) (v3586 : (Int × (List Int))) : Option Int :=
(forI (0 : Int) (List.length v2478.2 : Int) (ref_PolyDegree_b345 fuel v2478 v3586) (fun x3691 => x3691) true).bind fun v3704 =>
bif v3704 then
(some (w64 (x3584 + v3586.1)))
else
(some x3584)
@[reducible] def ref_PolyDegree_s349 (a0 : (List (Int × (List Int)))) (i2475 : Int) (x2476 : Int) (v2478 : (Int × (List Int))) (i3583 : Int) (v : Int) : Fr × LL := ([(0, aD (.slice (.pair tI (.slice tI))) a0), (3, aI x2476), (5, .one (.ptr 5 0)), (6, aI v), (14, aD (.slice (.pair tI (.slice tI))) a0), (15, aI (List.length a0 : Int)), (16, aI i2475), (20, aD (.slice (.pair tI (.slice tI))) a0), (21, aI (List.length a0 : Int)), (22, aI i3583)], [(5, .one (.pair tI (.slice tI)) v2478)])
noncomputable def ref_PolyDegree_b350 (fuel : Nat) (v2478 : (Int × (List Int))) (i3583 : Int) (v3586 : (Int × (List Int))) (x3584 : Int) : Option (Flow Int Int) :=
(ref_PolyDegree_g348 fuel v2478 x3584 v3586).bind fun v3709 =>
some (.next v3709)
@[reducible] def ref_PolyDegree_s351 (a0 : (List (Int × (List Int)))) (i2475 : Int) (x2476 : Int) (v2478 : (Int × (List Int))) (v : Int × Int) : Fr × LL := ([(0, aD (.slice (.pair tI (.slice tI))) a0), (3, aI x2476), (5, .one (.ptr 5 0)), (6, aI v.2), (14, aD (.slice (.pair tI (.slice tI))) a0), (15, aI (List.length a0 : Int)), (16, aI i2475), (20, aD (.slice (.pair tI (.slice tI))) a0), (21, aI (List.length a0 : Int)), (22, aI v.1)], [(5, .one (.pair tI (.slice tI)) v2478)])
@[reducible] def ref_PolyDegree_s352 (a0 : (List (Int × (List Int)))) (i2475 : Int) (x2476 : Int) (v2478 : (Int × (List Int))) (v : Int) : Fr × LL := ([(0, aD (.slice (.pair tI (.slice tI))) a0), (3, aI x2476), (5, .one (.ptr 5 0)), (6, aI v), (14, aD (.slice (.pair tI (.slice tI))) a0), (15, aI (List.length a0 : Int)), (16, aI i2475)], [(5, .one (.pair tI (.slice tI)) v2478)])
noncomputable def ref_PolyDegree_b353 (fuel : Nat) (i3729 : Int) (v3732 : Int) (x3730 : Int) : Option (Flow Int Int) :=
(ref_reduced fuel v3732).bind fun r3735 =>
some (.next (w64 (x3730 + r3735)))
@[reducible] def ref_PolyDegree_s354 (a0 : (List (Int × (List Int)))) (i2475 : Int) (x2476 : Int) (v2478 : (Int × (List Int))) (v3712 : Int) (v : Int × Int) : Fr × LL := ([(0, aD (.slice (.pair tI (.slice tI))) a0), (3, aI x2476), (6, aI v3712), (11, aI v.2), (14, aD (.slice (.pair tI (.slice tI))) a0), (15, aI (List.length a0 : Int)), (16, aI i2475), (56, aD (.slice tI) v2478.2), (57, aI (List.length v2478.2 : Int)), (58, aI v.1)], [])
@[reducible] def ref_PolyDegree_s355 (a0 : (List (Int × (List Int)))) (i2475 : Int) (x2476 : Int) (v3712 : Int) (v : Int) : Fr × LL := ([(0, aD (.slice (.pair tI (.slice tI))) a0), (3, aI x2476), (6, aI v3712), (11, aI v), (14, aD (.slice (.pair tI (.slice tI))) a0), (15, aI (List.length a0 : Int)), (16, aI i2475)], [])
noncomputable def ref_PolyDegree_g356 (a0 : (List (Int × (List Int)))) (fuel : Nat) (x2476 : Int) (v2478 : (Int × (List Int))) : Option Int :=
(forL (ref_PolyDegree_b350 fuel v2478) (fun x3584 => x3584) a0 0 (0 : Int)).bind fun v3712 =>
(forL (ref_PolyDegree_b353 fuel) (fun x3730 => x3730) v2478.2 0 (0 : Int)).bind fun v3738 =>
bif ((Int.tmod v3712 (7 : Int)) != (0 : Int)) && (decide (v3738 > x2476)) then
(some v3738)
else
(some x2476)
@[reducible] def ref_PolyDegree_s357 (a0 : (List (Int × (List Int)))) (i2475 : Int) (v : Int) : Fr × LL := ([(0, aD (.slice (.pair tI (.slice tI))) a0), (3, aI v), (14, aD (.slice (.pair tI (.slice tI))) a0), (15, aI (List.length a0 : Int)), (16, aI i2475)], [])
noncomputable def ref_PolyDegree_b358 (a0 : (List (Int × (List Int)))) (fuel : Nat) (i2475 : Int) (v2478 : (Int × (List Int))) (x2476 : Int) : Option (Flow Int Int) :=
(ref_PolyDegree_g356 a0 fuel x2476 v2478).bind fun v3744 =>
some (.next v3744)
@[reducible] def ref_PolyDegree_s359 (a0 : (List (Int × (List Int)))) (v : Int × Int) : Fr × LL := ([(0, aD (.slice (.pair tI (.slice tI))) a0), (3, aI v.2), (14, aD (.slice (.pair tI (.slice tI))) a0), (15, aI (List.length a0 : Int)), (16, aI v.1)], [])
@[reducible] def ref_PolyDegree_s360 (v : Int) : Fr × LL := ([(3, aI v)], [])
noncomputable def ref_PolyDegree (fuel : Nat) (a0 : (List (Int × (List Int)))) : Option Int :=
(forL (ref_PolyDegree_b358 a0 fuel) (fun x2476 => x2476) a0 0 (-1 : Int)).bind fun v3747 =>
some v3747
theorem ref_PolyDegree_ok {fuel : Nat} {a0 : (List (Int × (List Int)))} {r : Int} (h : ref_PolyDegree fuel a0 = some r) : FnC Try.prog 24 [aD (.slice (.pair tI (.slice tI))) a0] [] (aI r) [] := by
  refine fnC_of_W (B := bodyOf Try.f24) (n := 78) Try.func24 (by kernel_rfl) (by kernel_rfl) (by kernel_rfl) (by kernel_rfl) (by kernel_rfl) ?_
  intro K
  refine W_seq (by kernel_rfl) ?_
  refine W_run 1 [] [0] [] (fr' := [(0, aD (.slice (.pair tI (.slice tI))) a0)]) (L' := []) (obs := []) (by kernel_rfl) (by kernel_rfl) (by kernel_rfl) allP0 ?_
  refine seqQ_norm ?_
  refine W_seq (by kernel_rfl) ?_
  refine W_run 1 [] [0, 3] [] (fr' := [(0, aD (.slice (.pair tI (.slice tI))) a0), (3, aI (-1 : Int))]) (L' := []) (obs := []) (by kernel_rfl) (by kernel_rfl) (by kernel_rfl) allP0 ?_
  refine seqQ_norm ?_
  refine W_seq (by kernel_rfl) ?_
  refine W_seq (by kernel_rfl) ?_
  refine W_run 3 [] [0, 3, 14, 15, 16] [] (fr' := [(0, aD (.slice (.pair tI (.slice tI))) a0), (3, aI (-1 : Int)), (14, aD (.slice (.pair tI (.slice tI))) a0), (15, aI (List.length a0 : Int)), (16, aI (0 : Int))]) (L' := []) (obs := []) (by kernel_rfl) (by kernel_rfl) (by kernel_rfl) allP0 ?_
  refine seqQ_norm ?_
  refine W_block (id := 0) (by kernel_rfl) ?_
  obtain ⟨v3747, h3748, h⟩ := bind_of h
  refine W_len (t := 14) (u := (.pair tI (.slice tI))) (xs := a0) (by kernel_rfl) (fun h3751 => ?_)
  obtain ⟨h3749, h3750⟩ := forL_iter h3751 h3748
  refine W_weaken [0, 3, 14, 15, 16] [] (fr' := ((ref_PolyDegree_s359 a0) ((0 : Int), (-1 : Int))).1) (L' := ((ref_PolyDegree_s359 a0) ((0 : Int), (-1 : Int))).2) (by kernel_rfl) ?_
  refine W_cutK (W_loop (S := (ref_PolyDegree_s359 a0)) (J := (exQ (.exit 0) ref_PolyDegree_s360)) (by kernel_rfl) ?_ h3749 _ v3747 h3750) ?_
  · rintro ⟨i2475, x2476⟩ s h
    refine W_seq (by kernel_rfl) ?_
    refine W_run 1 [] [0, 3, 14, 15, 16, 17] [] (fr' := [(0, aD (.slice (.pair tI (.slice tI))) a0), (3, aI x2476), (14, aD (.slice (.pair tI (.slice tI))) a0), (15, aI (List.length a0 : Int)), (16, aI i2475), (17, aB (decide (i2475 < (List.length a0 : Int))))]) (L' := []) (obs := []) (by kernel_rfl) (by kernel_rfl) (by kernel_rfl) allP0 ?_
    refine seqQ_norm ?_
    refine W_seq (by kernel_rfl) ?_
    refine W_cond (o := .tmp 17) (b := decide (i2475 < (List.length a0 : Int))) (by kernel_rfl) (by kernel_rfl) (fun h2480 => ?_) (fun h2480 => ?_)
    · replace h := stepL_true h2480 h
      obtain ⟨v2478, _, h2479, h, rfl⟩ := h
      refine W_skip [0, 3, 14, 15, 16] [] (fr' := [(0, aD (.slice (.pair tI (.slice tI))) a0), (3, aI x2476), (14, aD (.slice (.pair tI (.slice tI))) a0), (15, aI (List.length a0 : Int)), (16, aI i2475)]) (L' := []) (by kernel_rfl) (by kernel_rfl) ?_
      refine seqQ_norm ?_
      refine W_seq (by kernel_rfl) ?_
      obtain ⟨v3744, h3745, h⟩ := bind_of h
      refine W_cutK (Q' := (exQ .normal (ref_PolyDegree_s357 a0 i2475)) v3744) ?_ ?_
      · replace h := h3745
        refine W_block (id := 1) (by kernel_rfl) ?_
        refine W_seq (by kernel_rfl) ?_
        refine W_run 4 [(1, .val (.dat (.pair tI (.slice tI)) v2478)), (5, .typed)] [0, 3, 5, 14, 15, 16] [5] (fr' := [(0, aD (.slice (.pair tI (.slice tI))) a0), (3, aI x2476), (5, .one (.ptr 5 0)), (14, aD (.slice (.pair tI (.slice tI))) a0), (15, aI (List.length a0 : Int)), (16, aI i2475)]) (L' := [(5, .one (.pair tI (.slice tI)) v2478)]) (obs := [Idx a0 i2475 v2478, True]) (by kernel_rfl) (by kernel_rfl) (by kernel_rfl) (allP2 (Idx.of h2479) (allP1 trivial)) ?_
        refine seqQ_norm ?_
        refine W_seq (by kernel_rfl) ?_
        refine W_run 1 [] [0, 3, 5, 6, 14, 15, 16] [5] (fr' := [(0, aD (.slice (.pair tI (.slice tI))) a0), (3, aI x2476), (5, .one (.ptr 5 0)), (6, aI (0 : Int)), (14, aD (.slice (.pair tI (.slice tI))) a0), (15, aI (List.length a0 : Int)), (16, aI i2475)]) (L' := [(5, .one (.pair tI (.slice tI)) v2478)]) (obs := []) (by kernel_rfl) (by kernel_rfl) (by kernel_rfl) allP0 ?_
        refine seqQ_norm ?_
        refine W_seq (by kernel_rfl) ?_
        refine W_seq (by kernel_rfl) ?_
        refine W_run 3 [] [0, 3, 5, 6, 14, 15, 16, 20, 21, 22] [5] (fr' := [(0, aD (.slice (.pair tI (.slice tI))) a0), (3, aI x2476), (5, .one (.ptr 5 0)), (6, aI (0 : Int)), (14, aD (.slice (.pair tI (.slice tI))) a0), (15, aI (List.length a0 : Int)), (16, aI i2475), (20, aD (.slice (.pair tI (.slice tI))) a0), (21, aI (List.length a0 : Int)), (22, aI (0 : Int))]) (L' := [(5, .one (.pair tI (.slice tI)) v2478)]) (obs := []) (by kernel_rfl) (by kernel_rfl) (by kernel_rfl) allP0 ?_
        refine seqQ_norm ?_
        refine W_block (id := 2) (by kernel_rfl) ?_
        obtain ⟨v3712, h3713, h⟩ := bind_of h
        refine W_len (t := 20) (u := (.pair tI (.slice tI))) (xs := a0) (by kernel_rfl) (fun h3716 => ?_)
        obtain ⟨h3714, h3715⟩ := forL_iter h3716 h3713
        refine W_weaken [0, 3, 5, 6, 14, 15, 16, 20, 21, 22] [5] (fr' := ((ref_PolyDegree_s351 a0 i2475 x2476 v2478) ((0 : Int), (0 : Int))).1) (L' := ((ref_PolyDegree_s351 a0 i2475 x2476 v2478) ((0 : Int), (0 : Int))).2) (by kernel_rfl) ?_
        refine W_cutK (W_loop (S := (ref_PolyDegree_s351 a0 i2475 x2476 v2478)) (J := (exQ (.exit 2) (ref_PolyDegree_s352 a0 i2475 x2476 v2478))) (by kernel_rfl) ?_ h3714 _ v3712 h3715) ?_
        · rintro ⟨i3583, x3584⟩ s h
          refine W_seq (by kernel_rfl) ?_
          refine W_run 1 [] [0, 3, 5, 6, 14, 15, 16, 20, 21, 22, 23] [5] (fr' := [(0, aD (.slice (.pair tI (.slice tI))) a0), (3, aI x2476), (5, .one (.ptr 5 0)), (6, aI x3584), (14, aD (.slice (.pair tI (.slice tI))) a0), (15, aI (List.length a0 : Int)), (16, aI i2475), (20, aD (.slice (.pair tI (.slice tI))) a0), (21, aI (List.length a0 : Int)), (22, aI i3583), (23, aB (decide (i3583 < (List.length a0 : Int))))]) (L' := [(5, .one (.pair tI (.slice tI)) v2478)]) (obs := []) (by kernel_rfl) (by kernel_rfl) (by kernel_rfl) allP0 ?_
          refine seqQ_norm ?_
          refine W_seq (by kernel_rfl) ?_
          refine W_cond (o := .tmp 23) (b := decide (i3583 < (List.length a0 : Int))) (by kernel_rfl) (by kernel_rfl) (fun h3588 => ?_) (fun h3588 => ?_)
          · replace h := stepL_true h3588 h
            obtain ⟨v3586, _, h3587, h, rfl⟩ := h
            refine W_skip [0, 3, 5, 6, 14, 15, 16, 20, 21, 22] [5] (fr' := [(0, aD (.slice (.pair tI (.slice tI))) a0), (3, aI x2476), (5, .one (.ptr 5 0)), (6, aI x3584), (14, aD (.slice (.pair tI (.slice tI))) a0), (15, aI (List.length a0 : Int)), (16, aI i2475), (20, aD (.slice (.pair tI (.slice tI))) a0), (21, aI (List.length a0 : Int)), (22, aI i3583)]) (L' := [(5, .one (.pair tI (.slice tI)) v2478)]) (by kernel_rfl) (by kernel_rfl) ?_
            refine seqQ_norm ?_
            refine W_seq (by kernel_rfl) ?_
            obtain ⟨v3709, h3710, h⟩ := bind_of h
            refine W_cutK (Q' := (exQ .normal (ref_PolyDegree_s349 a0 i2475 x2476 v2478 i3583)) v3709) ?_ ?_
            · replace h := h3710
              refine W_block (id := 3) (by kernel_rfl) ?_
              refine W_seq (by kernel_rfl) ?_
              refine W_run 4 [(1, .val (.dat (.pair tI (.slice tI)) v3586)), (5, .typed)] [0, 3, 5, 6, 8, 14, 15, 16, 20, 21, 22] [5, 8] (fr' := [(0, aD (.slice (.pair tI (.slice tI))) a0), (3, aI x2476), (5, .one (.ptr 5 0)), (6, aI x3584), (8, .one (.ptr 8 0)), (14, aD (.slice (.pair tI (.slice tI))) a0), (15, aI (List.length a0 : Int)), (16, aI i2475), (20, aD (.slice (.pair tI (.slice tI))) a0), (21, aI (List.length a0 : Int)), (22, aI i3583)]) (L' := [(5, .one (.pair tI (.slice tI)) v2478), (8, .one (.pair tI (.slice tI)) v3586)]) (obs := [Idx a0 i3583 v3586, True]) (by kernel_rfl) (by kernel_rfl) (by kernel_rfl) (allP2 (Idx.of h3587) (allP1 trivial)) ?_
              refine seqQ_norm ?_
              refine W_seq (by kernel_rfl) ?_
              refine W_run 1 [] [0, 3, 5, 6, 8, 9, 14, 15, 16, 20, 21, 22] [5, 8] (fr' := [(0, aD (.slice (.pair tI (.slice tI))) a0), (3, aI x2476), (5, .one (.ptr 5 0)), (6, aI x3584), (8, .one (.ptr 8 0)), (9, aB true), (14, aD (.slice (.pair tI (.slice tI))) a0), (15, aI (List.length a0 : Int)), (16, aI i2475), (20, aD (.slice (.pair tI (.slice tI))) a0), (21, aI (List.length a0 : Int)), (22, aI i3583)]) (L' := [(5, .one (.pair tI (.slice tI)) v2478), (8, .one (.pair tI (.slice tI)) v3586)]) (obs := []) (by kernel_rfl) (by kernel_rfl) (by kernel_rfl) allP0 ?_
              refine seqQ_norm ?_
              refine W_seq (by kernel_rfl) ?_
              refine W_seq (by kernel_rfl) ?_
              refine W_run 4 [] [0, 3, 5, 6, 8, 9, 14, 15, 16, 20, 21, 22, 28, 29] [5, 8] (fr' := [(0, aD (.slice (.pair tI (.slice tI))) a0), (3, aI x2476), (5, .one (.ptr 5 0)), (6, aI x3584), (8, .one (.ptr 8 0)), (9, aB true), (14, aD (.slice (.pair tI (.slice tI))) a0), (15, aI (List.length a0 : Int)), (16, aI i2475), (20, aD (.slice (.pair tI (.slice tI))) a0), (21, aI (List.length a0 : Int)), (22, aI i3583), (28, aI (List.length v2478.2 : Int)), (29, aI (0 : Int))]) (L' := [(5, .one (.pair tI (.slice tI)) v2478), (8, .one (.pair tI (.slice tI)) v3586)]) (obs := []) (by kernel_rfl) (by kernel_rfl) (by kernel_rfl) allP0 ?_
              refine seqQ_norm ?_
              refine W_block (id := 4) (by kernel_rfl) ?_
              obtain ⟨v3704, h3705, h⟩ := bind_of h
              obtain ⟨h3706, h3707⟩ := forI_iter h3705
              refine W_weaken [0, 3, 5, 6, 8, 9, 14, 15, 16, 20, 21, 22, 28, 29] [5, 8] (fr' := ((ref_PolyDegree_s346 a0 i2475 x2476 v2478 i3583 x3584 v3586) ((0 : Int), true)).1) (L' := ((ref_PolyDegree_s346 a0 i2475 x2476 v2478 i3583 x3584 v3586) ((0 : Int), true)).2) (by kernel_rfl) ?_
              refine W_cutK (W_loop (S := (ref_PolyDegree_s346 a0 i2475 x2476 v2478 i3583 x3584 v3586)) (J := (exQ (.exit 4) (ref_PolyDegree_s347 a0 i2475 x2476 v2478 i3583 x3584 v3586))) (by kernel_rfl) ?_ h3706 _ v3704 h3707) ?_
              · rintro ⟨i3690, x3691⟩ s h
                refine W_seq (by kernel_rfl) ?_
                refine W_run 1 [] [0, 3, 5, 6, 8, 9, 14, 15, 16, 20, 21, 22, 28, 29, 30] [5, 8] (fr' := [(0, aD (.slice (.pair tI (.slice tI))) a0), (3, aI x2476), (5, .one (.ptr 5 0)), (6, aI x3584), (8, .one (.ptr 8 0)), (9, aB x3691), (14, aD (.slice (.pair tI (.slice tI))) a0), (15, aI (List.length a0 : Int)), (16, aI i2475), (20, aD (.slice (.pair tI (.slice tI))) a0), (21, aI (List.length a0 : Int)), (22, aI i3583), (28, aI (List.length v2478.2 : Int)), (29, aI i3690), (30, aB (decide (i3690 < (List.length v2478.2 : Int))))]) (L' := [(5, .one (.pair tI (.slice tI)) v2478), (8, .one (.pair tI (.slice tI)) v3586)]) (obs := []) (by kernel_rfl) (by kernel_rfl) (by kernel_rfl) allP0 ?_
                refine seqQ_norm ?_
                refine W_seq (by kernel_rfl) ?_
                refine W_cond (o := .tmp 30) (b := decide (i3690 < (List.length v2478.2 : Int))) (by kernel_rfl) (by kernel_rfl) (fun h3693 => ?_) (fun h3693 => ?_)
                · replace h := stepI_true h3693 h
                  obtain ⟨_, h, rfl⟩ := h
                  refine W_skip [0, 3, 5, 6, 8, 9, 14, 15, 16, 20, 21, 22, 28, 29] [5, 8] (fr' := [(0, aD (.slice (.pair tI (.slice tI))) a0), (3, aI x2476), (5, .one (.ptr 5 0)), (6, aI x3584), (8, .one (.ptr 8 0)), (9, aB x3691), (14, aD (.slice (.pair tI (.slice tI))) a0), (15, aI (List.length a0 : Int)), (16, aI i2475), (20, aD (.slice (.pair tI (.slice tI))) a0), (21, aI (List.length a0 : Int)), (22, aI i3583), (28, aI (List.length v2478.2 : Int)), (29, aI i3690)]) (L' := [(5, .one (.pair tI (.slice tI)) v2478), (8, .one (.pair tI (.slice tI)) v3586)]) (by kernel_rfl) (by kernel_rfl) ?_
                  refine seqQ_norm ?_
                  refine W_seq (by kernel_rfl) ?_
                  refine W_block (id := 5) (by kernel_rfl) ?_
                  refine W_seq (by kernel_rfl) ?_
                  refine W_run 2 [] [0, 3, 5, 6, 8, 9, 10, 14, 15, 16, 20, 21, 22, 28, 29] [5, 8] (fr' := [(0, aD (.slice (.pair tI (.slice tI))) a0), (3, aI x2476), (5, .one (.ptr 5 0)), (6, aI x3584), (8, .one (.ptr 8 0)), (9, aB x3691), (10, aI i3690), (14, aD (.slice (.pair tI (.slice tI))) a0), (15, aI (List.length a0 : Int)), (16, aI i2475), (20, aD (.slice (.pair tI (.slice tI))) a0), (21, aI (List.length a0 : Int)), (22, aI i3583), (28, aI (List.length v2478.2 : Int)), (29, aI i3690)]) (L' := [(5, .one (.pair tI (.slice tI)) v2478), (8, .one (.pair tI (.slice tI)) v3586)]) (obs := []) (by kernel_rfl) (by kernel_rfl) (by kernel_rfl) allP0 ?_
                  refine seqQ_norm ?_
                  rcases Bool.eq_false_or_eq_true (x3691) with h3694 | h3694
                  · replace h := ofT h3694 h
                    obtain ⟨v3695, h3696, h⟩ := bind_of h
                    obtain ⟨r3697, h3698, h⟩ := bind_of h
                    obtain ⟨v3699, h3700, h⟩ := bind_of h
                    obtain ⟨r3701, h3702, h⟩ := bind_of h
                    refine W_draw2 16 [(4, .known true), (6, .known true), (8, .known true), (10, .known true), (11, .val (.dat tI v3695)), (12, .known true), (16, .known true), (18, .known true), (20, .known true), (22, .known true), (23, .val (.dat tI v3699)), (24, .known true), (28, .known true), (31, .val (.dat .bool true))] [(7, [none], aI r3697), (13, [none], aI r3701)] [0, 3, 5, 6, 8, 9, 14, 15, 16, 20, 21, 22, 28, 29] [5, 8] (fr' := [(0, aD (.slice (.pair tI (.slice tI))) a0), (3, aI x2476), (5, .one (.ptr 5 0)), (6, aI x3584), (8, .one (.ptr 8 0)), (9, aB (r3697 == r3701)), (14, aD (.slice (.pair tI (.slice tI))) a0), (15, aI (List.length a0 : Int)), (16, aI i2475), (20, aD (.slice (.pair tI (.slice tI))) a0), (21, aI (List.length a0 : Int)), (22, aI i3583), (28, aI (List.length v2478.2 : Int)), (29, aI i3690)]) (L' := [(5, .one (.pair tI (.slice tI)) v2478), (8, .one (.pair tI (.slice tI)) v3586)]) (out := [(32, aB x3691), (33, aB x3691), (34, .one (.ptr 5 1)), (35, aD (.slice tI) v2478.2), (36, aI i3690), (37, .one (.dptr tI v3695)), (38, aI v3695), (39, aI r3697), (40, .one (.ptr 8 1)), (41, aD (.slice tI) v3586.2), (42, aI i3690), (43, .one (.dptr tI v3699)), (44, aI v3699), (45, aI r3701), (46, aB (r3697 == r3701)), (47, aB (r3697 == r3701))]) (obs := [(x3691 = true), (x3691 = true), (x3691 = true), (x3691 = true), Idx v2478.2 i3690 v3695, (x3691 = true), (x3691 = true), (x3691 = true), (x3691 = true), (x3691 = true), (x3691 = true), Idx v3586.2 i3690 v3699, (x3691 = true), (x3691 = true), (x3691 = true), (x3691 = true)]) (obs2 := []) (calls := [(45, [aI v3695], aI r3697), (45, [aI v3699], aI r3701)]) (by kernel_rfl) (by kernel_rfl) (by kernel_rfl) (by kernel_rfl) (allP2 h3694 (allP2 h3694 (allP2 h3694 (allP2 h3694 (allP2 (Idx.of h3696) (allP2 h3694 (allP2 h3694 (allP2 h3694 (allP2 h3694 (allP2 h3694 (allP2 h3694 (allP2 (Idx.of h3700) (allP2 h3694 (allP2 h3694 (allP2 h3694 (allP1 h3694)))))))))))))))) (allC1 (by kernel_rfl) (ref_reduced_ok h3698) (by kernel_rfl) (allC1 (by kernel_rfl) (ref_reduced_ok h3702) (by kernel_rfl) allC0)) (by kernel_rfl) allP0 ?_
                    refine blockQ_norm ?_
                    refine seqQ_norm ?_
                    obtain rfl := Option.some.inj h
                    refine W_run 2 [] [0, 3, 5, 6, 8, 9, 14, 15, 16, 20, 21, 22, 28, 29] [5, 8] (fr' := [(0, aD (.slice (.pair tI (.slice tI))) a0), (3, aI x2476), (5, .one (.ptr 5 0)), (6, aI x3584), (8, .one (.ptr 8 0)), (9, aB (r3697 == r3701)), (14, aD (.slice (.pair tI (.slice tI))) a0), (15, aI (List.length a0 : Int)), (16, aI i2475), (20, aD (.slice (.pair tI (.slice tI))) a0), (21, aI (List.length a0 : Int)), (22, aI i3583), (28, aI (List.length v2478.2 : Int)), (29, aI (w64 (i3690 + (1 : Int))))]) (L' := [(5, .one (.pair tI (.slice tI)) v2478), (8, .one (.pair tI (.slice tI)) v3586)]) (obs := []) (by kernel_rfl) (by kernel_rfl) (by kernel_rfl) allP0 ?_
                    exact round_next' (by kernel_rfl) (by kernel_rfl)
                  · replace h := ofF h3694 h
                    refine W_draw2 16 [(4, .known false), (6, .known false), (8, .known false), (10, .known false), (12, .known false), (14, .known false), (16, .known false), (18, .known false), (20, .known false), (22, .known false), (24, .known false), (26, .known false), (28, .known false), (31, .val (.dat .bool false))] [] [0, 3, 5, 6, 8, 9, 14, 15, 16, 20, 21, 22, 28, 29] [5, 8] (fr' := [(0, aD (.slice (.pair tI (.slice tI))) a0), (3, aI x2476), (5, .one (.ptr 5 0)), (6, aI x3584), (8, .one (.ptr 8 0)), (9, aB false), (14, aD (.slice (.pair tI (.slice tI))) a0), (15, aI (List.length a0 : Int)), (16, aI i2475), (20, aD (.slice (.pair tI (.slice tI))) a0), (21, aI (List.length a0 : Int)), (22, aI i3583), (28, aI (List.length v2478.2 : Int)), (29, aI i3690)]) (L' := [(5, .one (.pair tI (.slice tI)) v2478), (8, .one (.pair tI (.slice tI)) v3586)]) (out := [(32, aB x3691), (33, aB x3691), (34, .tup []), (35, .tup []), (36, .tup []), (37, .tup []), (38, .tup []), (39, .tup []), (40, .tup []), (41, .tup []), (42, .tup []), (43, .tup []), (44, .tup []), (45, .tup []), (46, .tup []), (47, aB false)]) (obs := [(x3691 = false), (x3691 = false), (x3691 = false), (x3691 = false), (x3691 = false), (x3691 = false), (x3691 = false), (x3691 = false), (x3691 = false), (x3691 = false), (x3691 = false), (x3691 = false), (x3691 = false), (x3691 = false)]) (obs2 := []) (calls := []) (by kernel_rfl) (by kernel_rfl) (by kernel_rfl) (by kernel_rfl) (allP2 h3694 (allP2 h3694 (allP2 h3694 (allP2 h3694 (allP2 h3694 (allP2 h3694 (allP2 h3694 (allP2 h3694 (allP2 h3694 (allP2 h3694 (allP2 h3694 (allP2 h3694 (allP2 h3694 (allP1 h3694)))))))))))))) allC0 (by kernel_rfl) allP0 ?_
                    refine blockQ_norm ?_
                    refine seqQ_norm ?_
                    obtain rfl := Option.some.inj h
                    refine W_run 2 [] [0, 3, 5, 6, 8, 9, 14, 15, 16, 20, 21, 22, 28, 29] [5, 8] (fr' := [(0, aD (.slice (.pair tI (.slice tI))) a0), (3, aI x2476), (5, .one (.ptr 5 0)), (6, aI x3584), (8, .one (.ptr 8 0)), (9, aB false), (14, aD (.slice (.pair tI (.slice tI))) a0), (15, aI (List.length a0 : Int)), (16, aI i2475), (20, aD (.slice (.pair tI (.slice tI))) a0), (21, aI (List.length a0 : Int)), (22, aI i3583), (28, aI (List.length v2478.2 : Int)), (29, aI (w64 (i3690 + (1 : Int))))]) (L' := [(5, .one (.pair tI (.slice tI)) v2478), (8, .one (.pair tI (.slice tI)) v3586)]) (obs := []) (by kernel_rfl) (by kernel_rfl) (by kernel_rfl) allP0 ?_
                    exact round_next' (by kernel_rfl) (by kernel_rfl)
                · obtain rfl := stepI_false h3693 h
                  refine W_exit (id := 4) [0, 3, 5, 6, 8, 9, 14, 15, 16, 20, 21, 22] [5, 8] (fr' := [(0, aD (.slice (.pair tI (.slice tI))) a0), (3, aI x2476), (5, .one (.ptr 5 0)), (6, aI x3584), (8, .one (.ptr 8 0)), (9, aB x3691), (14, aD (.slice (.pair tI (.slice tI))) a0), (15, aI (List.length a0 : Int)), (16, aI i2475), (20, aD (.slice (.pair tI (.slice tI))) a0), (21, aI (List.length a0 : Int)), (22, aI i3583)]) (L' := [(5, .one (.pair tI (.slice tI)) v2478), (8, .one (.pair tI (.slice tI)) v3586)]) (by kernel_rfl) (by kernel_rfl) ?_
                  refine seqQ_exit ?_
                  refine round_exit ?_
                  exact exQ_mk (by kernel_rfl) (by kernel_rfl)
              · intro e fr L hJ
                obtain ⟨rfl, rfl, rfl⟩ := hJ
                refine LT_keep [0, 3, 5, 6, 8, 9, 14, 15, 16, 20, 21, 22] [5, 8] (fr' := [(0, aD (.slice (.pair tI (.slice tI))) a0), (3, aI x2476), (5, .one (.ptr 5 0)), (6, aI x3584), (8, .one (.ptr 8 0)), (9, aB v3704), (14, aD (.slice (.pair tI (.slice tI))) a0), (15, aI (List.length a0 : Int)), (16, aI i2475), (20, aD (.slice (.pair tI (.slice tI))) a0), (21, aI (List.length a0 : Int)), (22, aI i3583)]) (L' := [(5, .one (.pair tI (.slice tI)) v2478), (8, .one (.pair tI (.slice tI)) v3586)]) (by kernel_rfl) ?_
                refine blockQ_hit ?_
                refine seqQ_norm ?_
                refine W_seq (by kernel_rfl) ?_
                refine W_run 1 [] [0, 3, 5, 6, 8, 14, 15, 16, 20, 21, 22, 49] [5, 8] (fr' := [(0, aD (.slice (.pair tI (.slice tI))) a0), (3, aI x2476), (5, .one (.ptr 5 0)), (6, aI x3584), (8, .one (.ptr 8 0)), (14, aD (.slice (.pair tI (.slice tI))) a0), (15, aI (List.length a0 : Int)), (16, aI i2475), (20, aD (.slice (.pair tI (.slice tI))) a0), (21, aI (List.length a0 : Int)), (22, aI i3583), (49, aB v3704)]) (L' := [(5, .one (.pair tI (.slice tI)) v2478), (8, .one (.pair tI (.slice tI)) v3586)]) (obs := []) (by kernel_rfl) (by kernel_rfl) (by kernel_rfl) allP0 ?_
                refine seqQ_norm ?_
                refine W_cond (o := .tmp 49) (b := v3704) (by kernel_rfl) (by kernel_rfl) (fun h3708 => ?_) (fun h3708 => ?_)
                · replace h := ofT h3708 h
                  obtain rfl := Option.some.inj h
                  refine W_run 5 [] [0, 3, 5, 6, 14, 15, 16, 20, 21, 22] [5] (fr' := [(0, aD (.slice (.pair tI (.slice tI))) a0), (3, aI x2476), (5, .one (.ptr 5 0)), (6, aI (w64 (x3584 + v3586.1))), (14, aD (.slice (.pair tI (.slice tI))) a0), (15, aI (List.length a0 : Int)), (16, aI i2475), (20, aD (.slice (.pair tI (.slice tI))) a0), (21, aI (List.length a0 : Int)), (22, aI i3583)]) (L' := [(5, .one (.pair tI (.slice tI)) v2478)]) (obs := []) (by kernel_rfl) (by kernel_rfl) (by kernel_rfl) allP0 ?_
                  refine blockQ_norm ?_
                  exact exQ_mk (by kernel_rfl) (by kernel_rfl)
                · replace h := ofF h3708 h
                  obtain rfl := Option.some.inj h
                  refine W_skip [0, 3, 5, 6, 14, 15, 16, 20, 21, 22] [5] (fr' := [(0, aD (.slice (.pair tI (.slice tI))) a0), (3, aI x2476), (5, .one (.ptr 5 0)), (6, aI x3584), (14, aD (.slice (.pair tI (.slice tI))) a0), (15, aI (List.length a0 : Int)), (16, aI i2475), (20, aD (.slice (.pair tI (.slice tI))) a0), (21, aI (List.length a0 : Int)), (22, aI i3583)]) (L' := [(5, .one (.pair tI (.slice tI)) v2478)]) (by kernel_rfl) (by kernel_rfl) ?_
                  refine blockQ_norm ?_
                  exact exQ_mk (by kernel_rfl) (by kernel_rfl)
            · intro e fr L hJ
              obtain ⟨rfl, rfl, rfl⟩ := hJ
              refine LT_keep [0, 3, 5, 6, 14, 15, 16, 20, 21, 22] [5] (fr' := [(0, aD (.slice (.pair tI (.slice tI))) a0), (3, aI x2476), (5, .one (.ptr 5 0)), (6, aI v3709), (14, aD (.slice (.pair tI (.slice tI))) a0), (15, aI (List.length a0 : Int)), (16, aI i2475), (20, aD (.slice (.pair tI (.slice tI))) a0), (21, aI (List.length a0 : Int)), (22, aI i3583)]) (L' := [(5, .one (.pair tI (.slice tI)) v2478)]) (by kernel_rfl) ?_
              refine seqQ_norm ?_
              obtain rfl := Option.some.inj h
              refine W_run 2 [] [0, 3, 5, 6, 14, 15, 16, 20, 21, 22] [5] (fr' := [(0, aD (.slice (.pair tI (.slice tI))) a0), (3, aI x2476), (5, .one (.ptr 5 0)), (6, aI v3709), (14, aD (.slice (.pair tI (.slice tI))) a0), (15, aI (List.length a0 : Int)), (16, aI i2475), (20, aD (.slice (.pair tI (.slice tI))) a0), (21, aI (List.length a0 : Int)), (22, aI (w64 (i3583 + (1 : Int))))]) (L' := [(5, .one (.pair tI (.slice tI)) v2478)]) (obs := []) (by kernel_rfl) (by kernel_rfl) (by kernel_rfl) allP0 ?_
              exact round_next' (by kernel_rfl) (by kernel_rfl)
          · obtain rfl := stepL_false h3588 h
            refine W_exit (id := 2) [0, 3, 5, 6, 14, 15, 16] [5] (fr' := [(0, aD (.slice (.pair tI (.slice tI))) a0), (3, aI x2476), (5, .one (.ptr 5 0)), (6, aI x3584), (14, aD (.slice (.pair tI (.slice tI))) a0), (15, aI (List.length a0 : Int)), (16, aI i2475)]) (L' := [(5, .one (.pair tI (.slice tI)) v2478)]) (by kernel_rfl) (by kernel_rfl) ?_
            refine seqQ_exit ?_
            refine round_exit ?_
            exact exQ_mk (by kernel_rfl) (by kernel_rfl)
        · intro e fr L hJ
          obtain ⟨rfl, rfl, rfl⟩ := hJ
          refine LT_keep [0, 3, 5, 6, 14, 15, 16] [5] (fr' := [(0, aD (.slice (.pair tI (.slice tI))) a0), (3, aI x2476), (5, .one (.ptr 5 0)), (6, aI v3712), (14, aD (.slice (.pair tI (.slice tI))) a0), (15, aI (List.length a0 : Int)), (16, aI i2475)]) (L' := [(5, .one (.pair tI (.slice tI)) v2478)]) (by kernel_rfl) ?_
          refine blockQ_hit ?_
          refine seqQ_norm ?_
          refine W_seq (by kernel_rfl) ?_
          refine W_run 1 [] [0, 3, 5, 6, 11, 14, 15, 16] [5] (fr' := [(0, aD (.slice (.pair tI (.slice tI))) a0), (3, aI x2476), (5, .one (.ptr 5 0)), (6, aI v3712), (11, aI (0 : Int)), (14, aD (.slice (.pair tI (.slice tI))) a0), (15, aI (List.length a0 : Int)), (16, aI i2475)]) (L' := [(5, .one (.pair tI (.slice tI)) v2478)]) (obs := []) (by kernel_rfl) (by kernel_rfl) (by kernel_rfl) allP0 ?_
          refine seqQ_norm ?_
          refine W_seq (by kernel_rfl) ?_
          refine W_seq (by kernel_rfl) ?_
          refine W_run 4 [] [0, 3, 6, 11, 14, 15, 16, 56, 57, 58] [] (fr' := [(0, aD (.slice (.pair tI (.slice tI))) a0), (3, aI x2476), (6, aI v3712), (11, aI (0 : Int)), (14, aD (.slice (.pair tI (.slice tI))) a0), (15, aI (List.length a0 : Int)), (16, aI i2475), (56, aD (.slice tI) v2478.2), (57, aI (List.length v2478.2 : Int)), (58, aI (0 : Int))]) (L' := []) (obs := []) (by kernel_rfl) (by kernel_rfl) (by kernel_rfl) allP0 ?_
          refine seqQ_norm ?_
          refine W_block (id := 6) (by kernel_rfl) ?_
          obtain ⟨v3738, h3739, h⟩ := bind_of h
          refine W_len (t := 56) (u := tI) (xs := v2478.2) (by kernel_rfl) (fun h3742 => ?_)
          obtain ⟨h3740, h3741⟩ := forL_iter h3742 h3739
          refine W_weaken [0, 3, 6, 11, 14, 15, 16, 56, 57, 58] [] (fr' := ((ref_PolyDegree_s354 a0 i2475 x2476 v2478 v3712) ((0 : Int), (0 : Int))).1) (L' := ((ref_PolyDegree_s354 a0 i2475 x2476 v2478 v3712) ((0 : Int), (0 : Int))).2) (by kernel_rfl) ?_
          refine W_cutK (W_loop (S := (ref_PolyDegree_s354 a0 i2475 x2476 v2478 v3712)) (J := (exQ (.exit 6) (ref_PolyDegree_s355 a0 i2475 x2476 v3712))) (by kernel_rfl) ?_ h3740 _ v3738 h3741) ?_
          · rintro ⟨i3729, x3730⟩ s h
            refine W_seq (by kernel_rfl) ?_
            refine W_run 1 [] [0, 3, 6, 11, 14, 15, 16, 56, 57, 58, 59] [] (fr' := [(0, aD (.slice (.pair tI (.slice tI))) a0), (3, aI x2476), (6, aI v3712), (11, aI x3730), (14, aD (.slice (.pair tI (.slice tI))) a0), (15, aI (List.length a0 : Int)), (16, aI i2475), (56, aD (.slice tI) v2478.2), (57, aI (List.length v2478.2 : Int)), (58, aI i3729), (59, aB (decide (i3729 < (List.length v2478.2 : Int))))]) (L' := []) (obs := []) (by kernel_rfl) (by kernel_rfl) (by kernel_rfl) allP0 ?_
            refine seqQ_norm ?_
            refine W_seq (by kernel_rfl) ?_
            refine W_cond (o := .tmp 59) (b := decide (i3729 < (List.length v2478.2 : Int))) (by kernel_rfl) (by kernel_rfl) (fun h3734 => ?_) (fun h3734 => ?_)
            · replace h := stepL_true h3734 h
              obtain ⟨v3732, _, h3733, h, rfl⟩ := h
              refine W_skip [0, 3, 6, 11, 14, 15, 16, 56, 57, 58] [] (fr' := [(0, aD (.slice (.pair tI (.slice tI))) a0), (3, aI x2476), (6, aI v3712), (11, aI x3730), (14, aD (.slice (.pair tI (.slice tI))) a0), (15, aI (List.length a0 : Int)), (16, aI i2475), (56, aD (.slice tI) v2478.2), (57, aI (List.length v2478.2 : Int)), (58, aI i3729)]) (L' := []) (by kernel_rfl) (by kernel_rfl) ?_
              refine seqQ_norm ?_
              refine W_seq (by kernel_rfl) ?_
              refine W_block (id := 7) (by kernel_rfl) ?_
              refine W_seq (by kernel_rfl) ?_
              refine W_run 3 [(1, .val (.dat tI v3732))] [0, 3, 6, 11, 13, 14, 15, 16, 56, 57, 58] [] (fr' := [(0, aD (.slice (.pair tI (.slice tI))) a0), (3, aI x2476), (6, aI v3712), (11, aI x3730), (13, aI v3732), (14, aD (.slice (.pair tI (.slice tI))) a0), (15, aI (List.length a0 : Int)), (16, aI i2475), (56, aD (.slice tI) v2478.2), (57, aI (List.length v2478.2 : Int)), (58, aI i3729)]) (L' := []) (obs := [Idx v2478.2 i3729 v3732]) (by kernel_rfl) (by kernel_rfl) (by kernel_rfl) (allP1 (Idx.of h3733)) ?_
              refine seqQ_norm ?_
              refine W_region (by kernel_rfl) ?_
              refine WO_run (j := 2) (k := 2) (orcs := []) (kF := [0, 3, 6, 11, 14, 15, 16, 56, 57, 58, 62, 63]) (kL := []) (fr' := [(0, aD (.slice (.pair tI (.slice tI))) a0), (3, aI x2476), (6, aI v3712), (11, aI x3730), (14, aD (.slice (.pair tI (.slice tI))) a0), (15, aI (List.length a0 : Int)), (16, aI i2475), (56, aD (.slice tI) v2478.2), (57, aI (List.length v2478.2 : Int)), (58, aI i3729), (62, aI x3730), (63, aI v3732)]) (L' := []) (obs := []) rfl (by kernel_rfl) allP0 ?_
              obtain ⟨r3735, h3736, h⟩ := bind_of h
              refine WO_call0 (us := [none]) (d := 64) (p := True) (j := 3) rfl ⟨by kernel_rfl, by kernel_rfl, by kernel_rfl⟩ trivial (ref_reduced_ok h3736) (by kernel_rfl) ?_
              refine WO_run (j := 5) (k := 2) (orcs := []) (kF := [0, 3, 6, 11, 14, 15, 16, 56, 57, 58]) (kL := []) (fr' := [(0, aD (.slice (.pair tI (.slice tI))) a0), (3, aI x2476), (6, aI v3712), (11, aI (w64 (x3730 + r3735))), (14, aD (.slice (.pair tI (.slice tI))) a0), (15, aI (List.length a0 : Int)), (16, aI i2475), (56, aD (.slice tI) v2478.2), (57, aI (List.length v2478.2 : Int)), (58, aI i3729)]) (L' := []) (obs := []) rfl (by kernel_rfl) allP0 ?_
              refine WO_fin [0, 3, 6, 11, 14, 15, 16, 56, 57, 58] [] (fr' := [(0, aD (.slice (.pair tI (.slice tI))) a0), (3, aI x2476), (6, aI v3712), (11, aI (w64 (x3730 + r3735))), (14, aD (.slice (.pair tI (.slice tI))) a0), (15, aI (List.length a0 : Int)), (16, aI i2475), (56, aD (.slice tI) v2478.2), (57, aI (List.length v2478.2 : Int)), (58, aI i3729)]) (L' := []) (by kernel_rfl) (by kernel_rfl) ?_
              refine blockQ_norm ?_
              refine seqQ_norm ?_
              obtain rfl := Option.some.inj h
              refine W_run 2 [] [0, 3, 6, 11, 14, 15, 16, 56, 57, 58] [] (fr' := [(0, aD (.slice (.pair tI (.slice tI))) a0), (3, aI x2476), (6, aI v3712), (11, aI (w64 (x3730 + r3735))), (14, aD (.slice (.pair tI (.slice tI))) a0), (15, aI (List.length a0 : Int)), (16, aI i2475), (56, aD (.slice tI) v2478.2), (57, aI (List.length v2478.2 : Int)), (58, aI (w64 (i3729 + (1 : Int))))]) (L' := []) (obs := []) (by kernel_rfl) (by kernel_rfl) (by kernel_rfl) allP0 ?_
              exact round_next' (by kernel_rfl) (by kernel_rfl)
            · obtain rfl := stepL_false h3734 h
              refine W_exit (id := 6) [0, 3, 6, 11, 14, 15, 16] [] (fr' := [(0, aD (.slice (.pair tI (.slice tI))) a0), (3, aI x2476), (6, aI v3712), (11, aI x3730), (14, aD (.slice (.pair tI (.slice tI))) a0), (15, aI (List.length a0 : Int)), (16, aI i2475)]) (L' := []) (by kernel_rfl) (by kernel_rfl) ?_
              refine seqQ_exit ?_
              refine round_exit ?_
              exact exQ_mk (by kernel_rfl) (by kernel_rfl)
          · intro e fr L hJ
            obtain ⟨rfl, rfl, rfl⟩ := hJ
            refine LT_keep [0, 3, 6, 11, 14, 15, 16] [] (fr' := [(0, aD (.slice (.pair tI (.slice tI))) a0), (3, aI x2476), (6, aI v3712), (11, aI v3738), (14, aD (.slice (.pair tI (.slice tI))) a0), (15, aI (List.length a0 : Int)), (16, aI i2475)]) (L' := []) (by kernel_rfl) ?_
            refine blockQ_hit ?_
            refine seqQ_norm ?_
            refine W_seq (by kernel_rfl) ?_
            refine W_run 8 [] [0, 3, 11, 14, 15, 16, 74] [] (fr' := [(0, aD (.slice (.pair tI (.slice tI))) a0), (3, aI x2476), (11, aI v3738), (14, aD (.slice (.pair tI (.slice tI))) a0), (15, aI (List.length a0 : Int)), (16, aI i2475), (74, aB (((Int.tmod v3712 (7 : Int)) != (0 : Int)) && (decide (v3738 > x2476))))]) (L' := []) (obs := [((7 : Int) ≠ 0)]) (by kernel_rfl) (by kernel_rfl) (by kernel_rfl) (allP1 (by decide)) ?_
            refine seqQ_norm ?_
            refine W_cond (o := .tmp 74) (b := ((Int.tmod v3712 (7 : Int)) != (0 : Int)) && (decide (v3738 > x2476))) (by kernel_rfl) (by kernel_rfl) (fun h3743 => ?_) (fun h3743 => ?_)
            · replace h := ofT h3743 h
              obtain rfl := Option.some.inj h
              refine W_run 2 [] [0, 3, 14, 15, 16] [] (fr' := [(0, aD (.slice (.pair tI (.slice tI))) a0), (3, aI v3738), (14, aD (.slice (.pair tI (.slice tI))) a0), (15, aI (List.length a0 : Int)), (16, aI i2475)]) (L' := []) (obs := []) (by kernel_rfl) (by kernel_rfl) (by kernel_rfl) allP0 ?_
              refine blockQ_norm ?_
              exact exQ_mk (by kernel_rfl) (by kernel_rfl)
            · replace h := ofF h3743 h
              obtain rfl := Option.some.inj h
              refine W_skip [0, 3, 14, 15, 16] [] (fr' := [(0, aD (.slice (.pair tI (.slice tI))) a0), (3, aI x2476), (14, aD (.slice (.pair tI (.slice tI))) a0), (15, aI (List.length a0 : Int)), (16, aI i2475)]) (L' := []) (by kernel_rfl) (by kernel_rfl) ?_
              refine blockQ_norm ?_
              exact exQ_mk (by kernel_rfl) (by kernel_rfl)
      · intro e fr L hJ
        obtain ⟨rfl, rfl, rfl⟩ := hJ
        refine LT_keep [0, 3, 14, 15, 16] [] (fr' := [(0, aD (.slice (.pair tI (.slice tI))) a0), (3, aI v3744), (14, aD (.slice (.pair tI (.slice tI))) a0), (15, aI (List.length a0 : Int)), (16, aI i2475)]) (L' := []) (by kernel_rfl) ?_
        refine seqQ_norm ?_
        obtain rfl := Option.some.inj h
        refine W_run 2 [] [0, 3, 14, 15, 16] [] (fr' := [(0, aD (.slice (.pair tI (.slice tI))) a0), (3, aI v3744), (14, aD (.slice (.pair tI (.slice tI))) a0), (15, aI (List.length a0 : Int)), (16, aI (w64 (i2475 + (1 : Int))))]) (L' := []) (obs := []) (by kernel_rfl) (by kernel_rfl) (by kernel_rfl) allP0 ?_
        exact round_next' (by kernel_rfl) (by kernel_rfl)
    · obtain rfl := stepL_false h2480 h
      refine W_exit (id := 0) [3] [] (fr' := [(3, aI x2476)]) (L' := []) (by kernel_rfl) (by kernel_rfl) ?_
      refine seqQ_exit ?_
      refine round_exit ?_
      exact exQ_mk (by kernel_rfl) (by kernel_rfl)
  · intro e fr L hJ
    obtain ⟨rfl, rfl, rfl⟩ := hJ
    refine LT_keep [3] [] (fr' := [(3, aI v3747)]) (L' := []) (by kernel_rfl) ?_
    refine blockQ_hit ?_
    refine seqQ_norm ?_
    refine W_seq (by kernel_rfl) ?_
    refine W_run 2 [] [2] [] (fr' := [(2, aI v3747)]) (L' := []) (obs := []) (by kernel_rfl) (by kernel_rfl) (by kernel_rfl) allP0 ?_
    refine seqQ_norm ?_
    obtain rfl := Option.some.inj h
    refine W_ret [2] [] (fr' := [(2, aI v3747)]) (L' := []) (by kernel_rfl) (by kernel_rfl) ?_
    exact retQ_mk (by kernel_rfl) (by kernel_rfl) (by kernel_rfl)

@[reducible] def law_GuessZeros_s3 (a0 : Int) (a1 : (List (Int × (List Int)))) (r1 : (Int × Int × Int)) (x27 : (Int × Int)) (v : Int) : Fr × LL := ([(0, aI a0), (1, aD (.slice (.pair tI (.slice tI))) a1), (5, aI r1.1), (6, aI r1.2.1), (7, aI r1.2.2), (9, aI v), (10, aI x27.2)], [])
noncomputable def law_GuessZeros_b4 (a0 : Int) (a1 : (List (Int × (List Int)))) (x27 : (Int × Int)) : Option (Flow (Int × Int) Int) :=
(ref_Power (7 : Int) a0).bind fun r48 =>
bif decide (x27.2 < r48) then
(((ref_Dice a0 (7 : Int) x27.2).bind fun r61 =>
(ref_Poly a1 r61).bind fun r63 =>
bif r63 == (0 : Int) then
(some (w64 (x27.1 + (1 : Int))))
else
(some x27.1)).bind fun v66 =>
some (.next (v66, w64 (x27.2 + (1 : Int)))))
else
(some (.done x27.1))
@[reducible] def law_GuessZeros_s5 (a0 : Int) (a1 : (List (Int × (List Int)))) (r1 : (Int × Int × Int)) (v : (Int × Int)) : Fr × LL := ([(0, aI a0), (1, aD (.slice (.pair tI (.slice tI))) a1), (5, aI r1.1), (6, aI r1.2.1), (7, aI r1.2.2), (9, aI v.1), (10, aI v.2)], [])
@[reducible] def law_GuessZeros_s6 (a1 : (List (Int × (List Int)))) (r1 : (Int × Int × Int)) (v : Int) : Fr × LL := ([(1, aD (.slice (.pair tI (.slice tI))) a1), (5, aI r1.1), (6, aI r1.2.1), (7, aI r1.2.2), (9, aI v)], [])
@[reducible] def law_GuessZeros_s7 (v : Bool) : Fr × LL := ([(4, aB v)], [])
noncomputable def law_GuessZeros (fuel : Nat) (a0 : Int) (a1 : (List (Int × (List Int)))) : Option Bool :=
(guess_Zeros fuel a0 a1).bind fun r1 =>
(ref_PolyCheck a0 a1).bind fun r3 =>
bif r3 != (0 : Int) then
(some (((r1.2.2 == r3) && (r1.1 == (0 : Int))) && (r1.2.1 == (0 : Int))))
else
((iter (law_GuessZeros_b4 a0 a1) fuel ((0 : Int), (0 : Int))).bind fun v68 =>
(bif (r1.2.2 == (0 : Int)) && (r1.1 == v68) then
((ref_PolyDegree fuel a1).bind fun r79 =>
some (r1.2.1 == r79))
else
(some false)).bind fun v81 =>
some v81)
theorem law_GuessZeros_ok {fuel : Nat} {a0 : Int} {a1 : (List (Int × (List Int)))} {r : Bool} (h : law_GuessZeros fuel a0 a1 = some r) : FnC Try.prog 6 [aI a0, aD (.slice (.pair tI (.slice tI))) a1] [] (aB r) [] := by
  refine fnC_of_W (B := bodyOf Try.f6) (n := 61) Try.func6 (by kernel_rfl) (by kernel_rfl) (by kernel_rfl) (by kernel_rfl) (by kernel_rfl) ?_
  intro K
  refine W_seq (by kernel_rfl) ?_
  refine W_run 1 [] [0, 1] [] (fr' := [(0, aI a0), (1, aD (.slice (.pair tI (.slice tI))) a1)]) (L' := []) (obs := []) (by kernel_rfl) (by kernel_rfl) (by kernel_rfl) allP0 ?_
  refine seqQ_norm ?_
  refine W_seq (by kernel_rfl) ?_
  refine W_region (by kernel_rfl) ?_
  refine WO_run (j := 2) (k := 2) (orcs := []) (kF := [0, 1, 12, 13]) (kL := []) (fr' := [(0, aI a0), (1, aD (.slice (.pair tI (.slice tI))) a1), (12, aI a0), (13, aD (.slice (.pair tI (.slice tI))) a1)]) (L' := []) (obs := []) rfl (by kernel_rfl) allP0 ?_
  obtain ⟨r1, h2, h⟩ := bind_of h
  refine WO_call0 (us := [none, none]) (d := 14) (p := True) (j := 3) rfl ⟨by kernel_rfl, by kernel_rfl, by kernel_rfl⟩ trivial (guess_Zeros_ok h2) (by kernel_rfl) ?_
  refine WO_run (j := 10) (k := 7) (orcs := []) (kF := [0, 1, 5, 6, 7]) (kL := []) (fr' := [(0, aI a0), (1, aD (.slice (.pair tI (.slice tI))) a1), (5, aI r1.1), (6, aI r1.2.1), (7, aI r1.2.2)]) (L' := []) (obs := []) rfl (by kernel_rfl) allP0 ?_
  refine WO_fin [0, 1, 5, 6, 7] [] (fr' := [(0, aI a0), (1, aD (.slice (.pair tI (.slice tI))) a1), (5, aI r1.1), (6, aI r1.2.1), (7, aI r1.2.2)]) (L' := []) (by kernel_rfl) (by kernel_rfl) ?_
  refine seqQ_norm ?_
  refine W_seq (by kernel_rfl) ?_
  refine W_region (by kernel_rfl) ?_
  refine WO_run (j := 2) (k := 2) (orcs := []) (kF := [0, 1, 5, 6, 7, 18, 19]) (kL := []) (fr' := [(0, aI a0), (1, aD (.slice (.pair tI (.slice tI))) a1), (5, aI r1.1), (6, aI r1.2.1), (7, aI r1.2.2), (18, aI a0), (19, aD (.slice (.pair tI (.slice tI))) a1)]) (L' := []) (obs := []) rfl (by kernel_rfl) allP0 ?_
  obtain ⟨r3, h4, h⟩ := bind_of h
  refine WO_call0 (us := [none, none]) (d := 20) (p := True) (j := 3) rfl ⟨by kernel_rfl, by kernel_rfl, by kernel_rfl⟩ trivial (ref_PolyCheck_ok h4) (by kernel_rfl) ?_
  refine WO_run (j := 4) (k := 1) (orcs := []) (kF := [0, 1, 5, 6, 7, 8]) (kL := []) (fr' := [(0, aI a0), (1, aD (.slice (.pair tI (.slice tI))) a1), (5, aI r1.1), (6, aI r1.2.1), (7, aI r1.2.2), (8, aI r3)]) (L' := []) (obs := []) rfl (by kernel_rfl) allP0 ?_
  refine WO_fin [0, 1, 5, 6, 7, 8] [] (fr' := [(0, aI a0), (1, aD (.slice (.pair tI (.slice tI))) a1), (5, aI r1.1), (6, aI r1.2.1), (7, aI r1.2.2), (8, aI r3)]) (L' := []) (by kernel_rfl) (by kernel_rfl) ?_
  refine seqQ_norm ?_
  refine W_seq (by kernel_rfl) ?_
  refine W_seq (by kernel_rfl) ?_
  refine W_run 2 [] [0, 1, 5, 6, 7, 8, 22] [] (fr' := [(0, aI a0), (1, aD (.slice (.pair tI (.slice tI))) a1), (5, aI r1.1), (6, aI r1.2.1), (7, aI r1.2.2), (8, aI r3), (22, aB (r3 != (0 : Int)))]) (L' := []) (obs := []) (by kernel_rfl) (by kernel_rfl) (by kernel_rfl) allP0 ?_
  refine seqQ_norm ?_
  refine W_cond (o := .tmp 22) (b := r3 != (0 : Int)) (by kernel_rfl) (by kernel_rfl) (fun h5 => ?_) (fun h5 => ?_)
  · replace h := ofT h5 h
    refine W_seq (by kernel_rfl) ?_
    refine W_run 12 [] [4] [] (fr' := [(4, aB (((r1.2.2 == r3) && (r1.1 == (0 : Int))) && (r1.2.1 == (0 : Int))))]) (L' := []) (obs := []) (by kernel_rfl) (by kernel_rfl) (by kernel_rfl) allP0 ?_
    refine seqQ_norm ?_
    obtain rfl := Option.some.inj h
    refine W_ret [4] [] (fr' := [(4, aB (((r1.2.2 == r3) && (r1.1 == (0 : Int))) && (r1.2.1 == (0 : Int))))]) (L' := []) (by kernel_rfl) (by kernel_rfl) ?_
    refine seqQ_ret ?_
    exact retQ_mk (by kernel_rfl) (by kernel_rfl) (by kernel_rfl)
  · replace h := ofF h5 h
    refine W_skip [0, 1, 5, 6, 7] [] (fr' := [(0, aI a0), (1, aD (.slice (.pair tI (.slice tI))) a1), (5, aI r1.1), (6, aI r1.2.1), (7, aI r1.2.2)]) (L' := []) (by kernel_rfl) (by kernel_rfl) ?_
    refine seqQ_norm ?_
    refine W_seq (by kernel_rfl) ?_
    refine W_run 1 [] [0, 1, 5, 6, 7, 9] [] (fr' := [(0, aI a0), (1, aD (.slice (.pair tI (.slice tI))) a1), (5, aI r1.1), (6, aI r1.2.1), (7, aI r1.2.2), (9, aI (0 : Int))]) (L' := []) (obs := []) (by kernel_rfl) (by kernel_rfl) (by kernel_rfl) allP0 ?_
    refine seqQ_norm ?_
    refine W_seq (by kernel_rfl) ?_
    refine W_seq (by kernel_rfl) ?_
    refine W_run 1 [] [0, 1, 5, 6, 7, 9, 10] [] (fr' := [(0, aI a0), (1, aD (.slice (.pair tI (.slice tI))) a1), (5, aI r1.1), (6, aI r1.2.1), (7, aI r1.2.2), (9, aI (0 : Int)), (10, aI (0 : Int))]) (L' := []) (obs := []) (by kernel_rfl) (by kernel_rfl) (by kernel_rfl) allP0 ?_
    refine seqQ_norm ?_
    refine W_block (id := 0) (by kernel_rfl) ?_
    obtain ⟨v68, h69, h⟩ := bind_of h
    refine W_weaken [0, 1, 5, 6, 7, 9, 10] [] (fr' := ((law_GuessZeros_s5 a0 a1 r1) ((0 : Int), (0 : Int))).1) (L' := ((law_GuessZeros_s5 a0 a1 r1) ((0 : Int), (0 : Int))).2) (by kernel_rfl) ?_
    refine W_cutK (W_loop (S := (law_GuessZeros_s5 a0 a1 r1)) (J := (exQ (.exit 0) (law_GuessZeros_s6 a1 r1))) (by kernel_rfl) ?_ fuel _ v68 h69) ?_
    · rintro x27 s h
      refine W_seq (by kernel_rfl) ?_
      refine W_seq (by kernel_rfl) ?_
      refine W_region (by kernel_rfl) ?_
      refine WO_run (j := 2) (k := 2) (orcs := []) (kF := [0, 1, 5, 6, 7, 9, 10, 34, 35]) (kL := []) (fr' := [(0, aI a0), (1, aD (.slice (.pair tI (.slice tI))) a1), (5, aI r1.1), (6, aI r1.2.1), (7, aI r1.2.2), (9, aI x27.1), (10, aI x27.2), (34, aI x27.2), (35, aI a0)]) (L' := []) (obs := []) rfl (by kernel_rfl) allP0 ?_
      obtain ⟨r48, h49, h⟩ := bind_of h
      refine WO_call0 (us := [none, none]) (d := 36) (p := True) (j := 3) rfl ⟨by kernel_rfl, by kernel_rfl, by kernel_rfl⟩ trivial (ref_Power_ok h49) (by kernel_rfl) ?_
      refine WO_run (j := 4) (k := 1) (orcs := []) (kF := [0, 1, 5, 6, 7, 9, 10, 37]) (kL := []) (fr' := [(0, aI a0), (1, aD (.slice (.pair tI (.slice tI))) a1), (5, aI r1.1), (6, aI r1.2.1), (7, aI r1.2.2), (9, aI x27.1), (10, aI x27.2), (37, aB (decide (x27.2 < r48)))]) (L' := []) (obs := []) rfl (by kernel_rfl) allP0 ?_
      refine WO_fin [0, 1, 5, 6, 7, 9, 10, 37] [] (fr' := [(0, aI a0), (1, aD (.slice (.pair tI (.slice tI))) a1), (5, aI r1.1), (6, aI r1.2.1), (7, aI r1.2.2), (9, aI x27.1), (10, aI x27.2), (37, aB (decide (x27.2 < r48)))]) (L' := []) (by kernel_rfl) (by kernel_rfl) ?_
      refine seqQ_norm ?_
      refine W_cond (o := .tmp 37) (b := decide (x27.2 < r48)) (by kernel_rfl) (by kernel_rfl) (fun h50 => ?_) (fun h50 => ?_)
      · replace h := ofT h50 h
        refine W_skip [0, 1, 5, 6, 7, 9, 10] [] (fr' := [(0, aI a0), (1, aD (.slice (.pair tI (.slice tI))) a1), (5, aI r1.1), (6, aI r1.2.1), (7, aI r1.2.2), (9, aI x27.1), (10, aI x27.2)]) (L' := []) (by kernel_rfl) (by kernel_rfl) ?_
        refine seqQ_norm ?_
        refine W_seq (by kernel_rfl) ?_
        obtain ⟨v66, h67, h⟩ := bind_of h
        refine W_cutK (Q' := (exQ .normal (law_GuessZeros_s3 a0 a1 r1 x27)) v66) ?_ ?_
        · replace h := h67
          refine W_block (id := 1) (by kernel_rfl) ?_
          refine W_seq (by kernel_rfl) ?_
          refine W_region (by kernel_rfl) ?_
          refine WO_run (j := 3) (k := 3) (orcs := []) (kF := [0, 1, 5, 6, 7, 9, 10, 40, 41, 42]) (kL := []) (fr' := [(0, aI a0), (1, aD (.slice (.pair tI (.slice tI))) a1), (5, aI r1.1), (6, aI r1.2.1), (7, aI r1.2.2), (9, aI x27.1), (10, aI x27.2), (40, aD (.slice (.pair tI (.slice tI))) a1), (41, aI a0), (42, aI x27.2)]) (L' := []) (obs := []) rfl (by kernel_rfl) allP0 ?_
          obtain ⟨r61, h62, h⟩ := bind_of h
          refine WO_call0 (us := [none, none, none]) (d := 43) (p := True) (j := 4) rfl ⟨by kernel_rfl, by kernel_rfl, by kernel_rfl⟩ trivial (ref_Dice_ok h62) (by kernel_rfl) ?_
          obtain ⟨r63, h64, h⟩ := bind_of h
          refine WO_call0 (us := [none, none]) (d := 44) (p := True) (j := 5) rfl ⟨by kernel_rfl, by kernel_rfl, by kernel_rfl⟩ trivial (ref_Poly_ok h64) (by kernel_rfl) ?_
          refine WO_run (j := 6) (k := 1) (orcs := []) (kF := [0, 1, 5, 6, 7, 9, 10, 45]) (kL := []) (fr' := [(0, aI a0), (1, aD (.slice (.pair tI (.slice tI))) a1), (5, aI r1.1), (6, aI r1.2.1), (7, aI r1.2.2), (9, aI x27.1), (10, aI x27.2), (45, aB (r63 == (0 : Int)))]) (L' := []) (obs := []) rfl (by kernel_rfl) allP0 ?_
          refine WO_fin [0, 1, 5, 6, 7, 9, 10, 45] [] (fr' := [(0, aI a0), (1, aD (.slice (.pair tI (.slice tI))) a1), (5, aI r1.1), (6, aI r1.2.1), (7, aI r1.2.2), (9, aI x27.1), (10, aI x27.2), (45, aB (r63 == (0 : Int)))]) (L' := []) (by kernel_rfl) (by kernel_rfl) ?_
          refine seqQ_norm ?_
          refine W_cond (o := .tmp 45) (b := r63 == (0 : Int)) (by kernel_rfl) (by kernel_rfl) (fun h65 => ?_) (fun h65 => ?_)
          · replace h := ofT h65 h
            obtain rfl := Option.some.inj h
            refine W_run 3 [] [0, 1, 5, 6, 7, 9, 10] [] (fr' := [(0, aI a0), (1, aD (.slice (.pair tI (.slice tI))) a1), (5, aI r1.1), (6, aI r1.2.1), (7, aI r1.2.2), (9, aI (w64 (x27.1 + (1 : Int)))), (10, aI x27.2)]) (L' := []) (obs := []) (by kernel_rfl) (by kernel_rfl) (by kernel_rfl) allP0 ?_
            refine blockQ_norm ?_
            exact exQ_mk (by kernel_rfl) (by kernel_rfl)
          · replace h := ofF h65 h
            obtain rfl := Option.some.inj h
            refine W_skip [0, 1, 5, 6, 7, 9, 10] [] (fr' := [(0, aI a0), (1, aD (.slice (.pair tI (.slice tI))) a1), (5, aI r1.1), (6, aI r1.2.1), (7, aI r1.2.2), (9, aI x27.1), (10, aI x27.2)]) (L' := []) (by kernel_rfl) (by kernel_rfl) ?_
            refine blockQ_norm ?_
            exact exQ_mk (by kernel_rfl) (by kernel_rfl)
        · intro e fr L hJ
          obtain ⟨rfl, rfl, rfl⟩ := hJ
          refine LT_keep [0, 1, 5, 6, 7, 9, 10] [] (fr' := [(0, aI a0), (1, aD (.slice (.pair tI (.slice tI))) a1), (5, aI r1.1), (6, aI r1.2.1), (7, aI r1.2.2), (9, aI v66), (10, aI x27.2)]) (L' := []) (by kernel_rfl) ?_
          refine seqQ_norm ?_
          obtain rfl := Option.some.inj h
          refine W_run 3 [] [0, 1, 5, 6, 7, 9, 10] [] (fr' := [(0, aI a0), (1, aD (.slice (.pair tI (.slice tI))) a1), (5, aI r1.1), (6, aI r1.2.1), (7, aI r1.2.2), (9, aI v66), (10, aI (w64 (x27.2 + (1 : Int))))]) (L' := []) (obs := []) (by kernel_rfl) (by kernel_rfl) (by kernel_rfl) allP0 ?_
          exact round_next' (by kernel_rfl) (by kernel_rfl)
      · replace h := ofF h50 h
        obtain rfl := Option.some.inj h
        refine W_exit (id := 0) [1, 5, 6, 7, 9] [] (fr' := [(1, aD (.slice (.pair tI (.slice tI))) a1), (5, aI r1.1), (6, aI r1.2.1), (7, aI r1.2.2), (9, aI x27.1)]) (L' := []) (by kernel_rfl) (by kernel_rfl) ?_
        refine seqQ_exit ?_
        refine round_exit ?_
        exact exQ_mk (by kernel_rfl) (by kernel_rfl)
    · intro e fr L hJ
      obtain ⟨rfl, rfl, rfl⟩ := hJ
      refine LT_keep [1, 5, 6, 7, 9] [] (fr' := [(1, aD (.slice (.pair tI (.slice tI))) a1), (5, aI r1.1), (6, aI r1.2.1), (7, aI r1.2.2), (9, aI v68)]) (L' := []) (by kernel_rfl) ?_
      refine blockQ_hit ?_
      refine seqQ_norm ?_
      refine W_seq (by kernel_rfl) ?_
      obtain ⟨v81, h82, h⟩ := bind_of h
      refine W_cutK (Q' := (exQ .normal law_GuessZeros_s7) v81) ?_ ?_
      · replace h := h82
        refine W_region (by kernel_rfl) ?_
        refine WO_run (j := 8) (k := 8) (orcs := []) (kF := [1, 6, 55]) (kL := []) (fr' := [(1, aD (.slice (.pair tI (.slice tI))) a1), (6, aI r1.2.1), (55, aB ((r1.2.2 == (0 : Int)) && (r1.1 == v68)))]) (L' := []) (obs := []) rfl (by kernel_rfl) allP0 ?_
        rcases Bool.eq_false_or_eq_true ((r1.2.2 == (0 : Int)) && (r1.1 == v68)) with h78 | h78
        · replace h := ofT h78 h
          refine WO_run (j := 10) (k := 2) (orcs := [(16, .known true), (18, .known true)]) (kF := [55, 56, 57]) (kL := []) (fr' := [(55, aB ((r1.2.2 == (0 : Int)) && (r1.1 == v68))), (56, aI r1.2.1), (57, aD (.slice (.pair tI (.slice tI))) a1)]) (L' := []) (obs := [(((r1.2.2 == (0 : Int)) && (r1.1 == v68)) = true), (((r1.2.2 == (0 : Int)) && (r1.1 == v68)) = true)]) rfl (by kernel_rfl) (allP2 h78 (allP1 h78)) ?_
          obtain ⟨r79, h80, h⟩ := bind_of h
          refine WO_call0 (us := [none]) (d := 58) (p := (((r1.2.2 == (0 : Int)) && (r1.1 == v68)) = true)) (j := 11) rfl ⟨by kernel_rfl, by kernel_rfl, by kernel_rfl⟩ h78 (ref_PolyDegree_ok h80) (by kernel_rfl) ?_
          refine WO_run (j := 14) (k := 3) (orcs := [(22, .known true), (25, .val (.dat .bool true))]) (kF := [4]) (kL := []) (fr' := [(4, aB (r1.2.1 == r79))]) (L' := []) (obs := [(((r1.2.2 == (0 : Int)) && (r1.1 == v68)) = true), (((r1.2.2 == (0 : Int)) && (r1.1 == v68)) = true)]) rfl (by kernel_rfl) (allP2 h78 (allP1 h78)) ?_
          obtain rfl := Option.some.inj h
          refine WO_fin [4] [] (fr' := [(4, aB (r1.2.1 == r79))]) (L' := []) (by kernel_rfl) (by kernel_rfl) ?_
          exact exQ_mk (by kernel_rfl) (by kernel_rfl)
        · replace h := ofF h78 h
          refine WO_run (j := 14) (k := 6) (orcs := [(16, .known false), (18, .known false), (20, .known false), (22, .known false), (25, .val (.dat .bool false))]) (kF := [4]) (kL := []) (fr' := [(4, aB false)]) (L' := []) (obs := [(((r1.2.2 == (0 : Int)) && (r1.1 == v68)) = false), (((r1.2.2 == (0 : Int)) && (r1.1 == v68)) = false), (((r1.2.2 == (0 : Int)) && (r1.1 == v68)) = false), (((r1.2.2 == (0 : Int)) && (r1.1 == v68)) = false), (((r1.2.2 == (0 : Int)) && (r1.1 == v68)) = false)]) rfl (by kernel_rfl) (allP2 h78 (allP2 h78 (allP2 h78 (allP2 h78 (allP1 h78))))) ?_
          obtain rfl := Option.some.inj h
          refine WO_fin [4] [] (fr' := [(4, aB false)]) (L' := []) (by kernel_rfl) (by kernel_rfl) ?_
          exact exQ_mk (by kernel_rfl) (by kernel_rfl)
      · intro e fr L hJ
        obtain ⟨rfl, rfl, rfl⟩ := hJ
        refine LT_keep [4] [] (fr' := [(4, aB v81)]) (L' := []) (by kernel_rfl) ?_
        refine seqQ_norm ?_
        obtain rfl := Option.some.inj h
        refine W_ret [4] [] (fr' := [(4, aB v81)]) (L' := []) (by kernel_rfl) (by kernel_rfl) ?_
        exact retQ_mk (by kernel_rfl) (by kernel_rfl) (by kernel_rfl)
end Go.Proofs.Ytbicjcdenfcojaa.guessZeros
