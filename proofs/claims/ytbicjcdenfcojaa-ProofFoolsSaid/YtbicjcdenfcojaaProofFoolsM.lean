/- What the functions that ProofFools calls compute, as models, and that they compute it: written by a program of mine. -/
import Derived.Test.YtbicjcdenfcojaaProg
import Derived.Test.YtbicjcdenfcojaaSl4
set_option linter.all false
set_option maxRecDepth 100000
namespace Go.Proofs.Ytbicjcdenfcojaa.proofFools
open Go Go.Sl
def proof_bad (a0 : Int) : Option Bool :=
some ((decide (a0 < (0 : Int))) || (decide (a0 ≥ (7 : Int))))
theorem proof_bad_ok {a0 : Int} {r : Bool} (h : proof_bad a0 = some r) : FnC Try.prog 32 [aI a0] [] (aB r) [] := by
  refine fnC_of_W (B := bodyOf Try.f32) (n := 9) Try.func32 (by kernel_rfl) (by kernel_rfl) (by kernel_rfl) (by kernel_rfl) (by kernel_rfl) ?_
  intro K
  refine W_seq (by kernel_rfl) ?_
  refine W_run 1 [] [0] [] (fr' := [(0, aI a0)]) (L' := []) (obs := []) (by kernel_rfl) (by kernel_rfl) (by kernel_rfl) allP0 ?_
  refine seqQ_norm ?_
  refine W_seq (by kernel_rfl) ?_
  refine W_run 7 [] [2] [] (fr' := [(2, aB ((decide (a0 < (0 : Int))) || (decide (a0 ≥ (7 : Int)))))]) (L' := []) (obs := []) (by kernel_rfl) (by kernel_rfl) (by kernel_rfl) allP0 ?_
  refine seqQ_norm ?_
  obtain rfl := Option.some.inj h
  refine W_ret [2] [] (fr' := [(2, aB ((decide (a0 < (0 : Int))) || (decide (a0 ≥ (7 : Int)))))]) (L' := []) (by kernel_rfl) (by kernel_rfl) ?_
  exact retQ_mk (by kernel_rfl) (by kernel_rfl) (by kernel_rfl)

def slices_IndexFunc_Lintint_with_proof_bad_b1 (i15 : Int) (v18 : Int) (x16 : Unit) : Option (Flow Unit (Esc Int Unit)) :=
(proof_bad v18).bind fun r21 =>
bif r21 then
(some (.done (.ret i15)))
else
(some (.next ()))
@[reducible] def slices_IndexFunc_Lintint_with_proof_bad_s2 (a0 : (List Int)) (v : Int × Unit) : Fr × LL := ([(0, aD (.slice tI) a0), (1, .one (.fn 32 [])), (7, aI (List.length a0 : Int)), (8, aI v.1)], [])
@[reducible] def slices_IndexFunc_Lintint_with_proof_bad_s3 (v : Int) : Fr × LL := ([(4, aI v)], [])
@[reducible] def slices_IndexFunc_Lintint_with_proof_bad_s4 (v : Unit) : Fr × LL := ([], [])
def slices_IndexFunc_Lintint_with_proof_bad (a0 : (List Int)) : Option Int :=
(forL slices_IndexFunc_Lintint_with_proof_bad_b1 (fun x16 => (.brk ())) a0 0 ()).bind fun v25 =>
match v25 with
| .ret v30 =>
(some v30)
| .brk v31 =>
(some (-1 : Int))
theorem slices_IndexFunc_Lintint_with_proof_bad_ok {a0 : (List Int)} {r : Int} (h : slices_IndexFunc_Lintint_with_proof_bad a0 = some r) : FnC Try.prog 52 [aD (.slice tI) a0, .one (.fn 32 [])] [] (aI r) [] := by
  refine fnC_of_W (B := bodyOf Try.f52) (n := 19) Try.func52 (by kernel_rfl) (by kernel_rfl) (by kernel_rfl) (by kernel_rfl) (by kernel_rfl) ?_
  intro K
  refine W_seq (by kernel_rfl) ?_
  refine W_run 1 [] [0, 1] [] (fr' := [(0, aD (.slice tI) a0), (1, .one (.fn 32 []))]) (L' := []) (obs := []) (by kernel_rfl) (by kernel_rfl) (by kernel_rfl) allP0 ?_
  refine seqQ_norm ?_
  refine W_seq (by kernel_rfl) ?_
  refine W_seq (by kernel_rfl) ?_
  refine W_run 3 [] [0, 1, 7, 8] [] (fr' := [(0, aD (.slice tI) a0), (1, .one (.fn 32 [])), (7, aI (List.length a0 : Int)), (8, aI (0 : Int))]) (L' := []) (obs := []) (by kernel_rfl) (by kernel_rfl) (by kernel_rfl) allP0 ?_
  refine seqQ_norm ?_
  refine W_block (id := 0) (by kernel_rfl) ?_
  obtain ⟨v25, h26, h⟩ := bind_of h
  refine W_len (t := 0) (u := tI) (xs := a0) (by kernel_rfl) (fun h29 => ?_)
  obtain ⟨h27, h28⟩ := forL_iter h29 h26
  refine W_weaken [0, 1, 7, 8] [] (fr' := ((slices_IndexFunc_Lintint_with_proof_bad_s2 a0) ((0 : Int), ())).1) (L' := ((slices_IndexFunc_Lintint_with_proof_bad_s2 a0) ((0 : Int), ())).2) (by kernel_rfl) ?_
  refine W_cutK (W_loop (S := (slices_IndexFunc_Lintint_with_proof_bad_s2 a0)) (J := (escQ (exQ .ret slices_IndexFunc_Lintint_with_proof_bad_s3) (exQ (.exit 0) slices_IndexFunc_Lintint_with_proof_bad_s4))) (by kernel_rfl) ?_ h27 _ v25 h28) ?_
  · rintro ⟨i15, x16⟩ s h
    refine W_seq (by kernel_rfl) ?_
    refine W_run 1 [] [0, 1, 7, 8, 9] [] (fr' := [(0, aD (.slice tI) a0), (1, .one (.fn 32 [])), (7, aI (List.length a0 : Int)), (8, aI i15), (9, aB (decide (i15 < (List.length a0 : Int))))]) (L' := []) (obs := []) (by kernel_rfl) (by kernel_rfl) (by kernel_rfl) allP0 ?_
    refine seqQ_norm ?_
    refine W_seq (by kernel_rfl) ?_
    refine W_cond (o := .tmp 9) (b := decide (i15 < (List.length a0 : Int))) (by kernel_rfl) (by kernel_rfl) (fun h20 => ?_) (fun h20 => ?_)
    · replace h := stepL_true h20 h
      obtain ⟨v18, _, h19, h, rfl⟩ := h
      refine W_skip [0, 1, 7, 8] [] (fr' := [(0, aD (.slice tI) a0), (1, .one (.fn 32 [])), (7, aI (List.length a0 : Int)), (8, aI i15)]) (L' := []) (by kernel_rfl) (by kernel_rfl) ?_
      refine seqQ_norm ?_
      refine W_seq (by kernel_rfl) ?_
      refine W_block (id := 1) (by kernel_rfl) ?_
      refine W_seq (by kernel_rfl) ?_
      refine W_run 2 [] [0, 1, 5, 7, 8] [] (fr' := [(0, aD (.slice tI) a0), (1, .one (.fn 32 [])), (5, aI i15), (7, aI (List.length a0 : Int)), (8, aI i15)]) (L' := []) (obs := []) (by kernel_rfl) (by kernel_rfl) (by kernel_rfl) allP0 ?_
      refine seqQ_norm ?_
      refine W_seq (by kernel_rfl) ?_
      refine W_region (by kernel_rfl) ?_
      refine WO_run (j := 5) (k := 5) (orcs := [(7, .val (.dat tI v18))]) (kF := [0, 1, 5, 7, 8, 11, 15]) (kL := []) (fr' := [(0, aD (.slice tI) a0), (1, .one (.fn 32 [])), (5, aI i15), (7, aI (List.length a0 : Int)), (8, aI i15), (11, .one (.fn 32 [])), (15, aI v18)]) (L' := []) (obs := [Idx a0 i15 v18]) rfl (by kernel_rfl) (allP1 (Idx.of h19)) ?_
      obtain ⟨r21, h22, h⟩ := bind_of h
      refine WO_call0 (us := [none]) (d := 16) (p := True) (j := 6) rfl ⟨by kernel_rfl, by kernel_rfl, by kernel_rfl⟩ trivial (proof_bad_ok h22) (by kernel_rfl) ?_
      refine WO_fin [0, 1, 5, 7, 8, 16] [] (fr' := [(0, aD (.slice tI) a0), (1, .one (.fn 32 [])), (5, aI i15), (7, aI (List.length a0 : Int)), (8, aI i15), (16, aB r21)]) (L' := []) (by kernel_rfl) (by kernel_rfl) ?_
      refine seqQ_norm ?_
      refine W_cond (o := .tmp 16) (b := r21) (by kernel_rfl) (by kernel_rfl) (fun h23 => ?_) (fun h23 => ?_)
      · replace h := ofT h23 h
        refine W_seq (by kernel_rfl) ?_
        refine W_run 2 [] [4] [] (fr' := [(4, aI i15)]) (L' := []) (obs := []) (by kernel_rfl) (by kernel_rfl) (by kernel_rfl) allP0 ?_
        refine seqQ_norm ?_
        obtain rfl := Option.some.inj h
        refine W_ret [4] [] (fr' := [(4, aI i15)]) (L' := []) (by kernel_rfl) (by kernel_rfl) ?_
        refine blockQ_ret ?_
        refine seqQ_ret ?_
        refine round_ret ?_
        refine escQ_ret ?_
        exact exQ_mk (by kernel_rfl) (by kernel_rfl)
      · replace h := ofF h23 h
        refine W_skip [0, 1, 7, 8] [] (fr' := [(0, aD (.slice tI) a0), (1, .one (.fn 32 [])), (7, aI (List.length a0 : Int)), (8, aI i15)]) (L' := []) (by kernel_rfl) (by kernel_rfl) ?_
        refine blockQ_norm ?_
        refine seqQ_norm ?_
        obtain rfl := Option.some.inj h
        refine W_run 2 [] [0, 1, 7, 8] [] (fr' := [(0, aD (.slice tI) a0), (1, .one (.fn 32 [])), (7, aI (List.length a0 : Int)), (8, aI (w64 (i15 + (1 : Int))))]) (L' := []) (obs := []) (by kernel_rfl) (by kernel_rfl) (by kernel_rfl) allP0 ?_
        exact round_next' (by kernel_rfl) (by kernel_rfl)
    · obtain rfl := stepL_false h20 h
      refine W_exit (id := 0) [] [] (fr' := []) (L' := []) (by kernel_rfl) (by kernel_rfl) ?_
      refine seqQ_exit ?_
      refine round_exit ?_
      refine escQ_brk ?_
      exact exQ_mk (by kernel_rfl) (by kernel_rfl)
  · intro e fr L hJ
    rcases v25 with v30 | v31
    · obtain ⟨rfl, rfl, rfl⟩ := hJ
      obtain rfl := Option.some.inj h
      refine LT_keep [4] [] (fr' := [(4, aI v30)]) (L' := []) (by kernel_rfl) ?_
      refine blockQ_ret ?_
      refine seqQ_ret ?_
      exact retQ_mk (by kernel_rfl) (by kernel_rfl) (by kernel_rfl)
    · obtain ⟨rfl, rfl, rfl⟩ := hJ
      refine LT_keep [] [] (fr' := []) (L' := []) (by kernel_rfl) ?_
      refine blockQ_hit ?_
      refine seqQ_norm ?_
      refine W_seq (by kernel_rfl) ?_
      refine W_run 1 [] [4] [] (fr' := [(4, aI (-1 : Int))]) (L' := []) (obs := []) (by kernel_rfl) (by kernel_rfl) (by kernel_rfl) allP0 ?_
      refine seqQ_norm ?_
      obtain rfl := Option.some.inj h
      refine W_ret [4] [] (fr' := [(4, aI (-1 : Int))]) (L' := []) (by kernel_rfl) (by kernel_rfl) ?_
      exact retQ_mk (by kernel_rfl) (by kernel_rfl) (by kernel_rfl)

def slices_ContainsFunc_Lintint_with_proof_bad (a0 : (List Int)) : Option Bool :=
(slices_IndexFunc_Lintint_with_proof_bad a0).bind fun r1 =>
some (decide (r1 ≥ (0 : Int)))
theorem slices_ContainsFunc_Lintint_with_proof_bad_ok {a0 : (List Int)} {r : Bool} (h : slices_ContainsFunc_Lintint_with_proof_bad a0 = some r) : FnC Try.prog 31 [aD (.slice tI) a0, .one (.fn 32 [])] [] (aB r) [] := by
  refine fnC_of_W (B := bodyOf Try.f31) (n := 9) Try.func31 (by kernel_rfl) (by kernel_rfl) (by kernel_rfl) (by kernel_rfl) (by kernel_rfl) ?_
  intro K
  refine W_seq (by kernel_rfl) ?_
  refine W_run 1 [] [0, 1] [] (fr' := [(0, aD (.slice tI) a0), (1, .one (.fn 32 []))]) (L' := []) (obs := []) (by kernel_rfl) (by kernel_rfl) (by kernel_rfl) allP0 ?_
  refine seqQ_norm ?_
  refine W_seq (by kernel_rfl) ?_
  refine W_region (by kernel_rfl) ?_
  refine WO_run (j := 2) (k := 2) (orcs := []) (kF := [5, 6]) (kL := []) (fr' := [(5, aD (.slice tI) a0), (6, .one (.fn 32 []))]) (L' := []) (obs := []) rfl (by kernel_rfl) allP0 ?_
  obtain ⟨r1, h2, h⟩ := bind_of h
  refine WO_call0 (us := [none, none]) (d := 7) (p := True) (j := 3) rfl ⟨by kernel_rfl, by kernel_rfl, by kernel_rfl⟩ trivial (slices_IndexFunc_Lintint_with_proof_bad_ok h2) (by kernel_rfl) ?_
  refine WO_run (j := 5) (k := 2) (orcs := []) (kF := [4]) (kL := []) (fr' := [(4, aB (decide (r1 ≥ (0 : Int))))]) (L' := []) (obs := []) rfl (by kernel_rfl) allP0 ?_
  refine WO_fin [4] [] (fr' := [(4, aB (decide (r1 ≥ (0 : Int))))]) (L' := []) (by kernel_rfl) (by kernel_rfl) ?_
  refine seqQ_norm ?_
  obtain rfl := Option.some.inj h
  refine W_ret [4] [] (fr' := [(4, aB (decide (r1 ≥ (0 : Int))))]) (L' := []) (by kernel_rfl) (by kernel_rfl) ?_
  exact retQ_mk (by kernel_rfl) (by kernel_rfl) (by kernel_rfl)

def proof_wrong (a0 : Int) (a1 : (List Int)) : Option Int :=
bif (decide (a0 < (1 : Int))) || (decide (a0 > (4 : Int))) then
(some (1 : Int))
else
((ck (0 ≤ a0)).bind fun _ =>
bif (List.length a1 : Int) != (bShl .i64 (1 : Int) a0) then
(some (3 : Int))
else
((slices_ContainsFunc_Lintint_with_proof_bad a1).bind fun r4 =>
bif r4 then
(some (4 : Int))
else
(some (0 : Int))))
theorem proof_wrong_ok {a0 : Int} {a1 : (List Int)} {r : Int} (h : proof_wrong a0 a1 = some r) : FnC Try.prog 49 [aI a0, aD (.slice tI) a1] [] (aI r) [] := by
  refine fnC_of_W (B := bodyOf Try.f49) (n := 21) Try.func49 (by kernel_rfl) (by kernel_rfl) (by kernel_rfl) (by kernel_rfl) (by kernel_rfl) ?_
  intro K
  refine W_seq (by kernel_rfl) ?_
  refine W_run 1 [] [0, 1] [] (fr' := [(0, aI a0), (1, aD (.slice tI) a1)]) (L' := []) (obs := []) (by kernel_rfl) (by kernel_rfl) (by kernel_rfl) allP0 ?_
  refine seqQ_norm ?_
  refine W_seq (by kernel_rfl) ?_
  refine W_block (id := 0) (by kernel_rfl) ?_
  refine W_seq (by kernel_rfl) ?_
  refine W_run 7 [] [0, 1, 5] [] (fr' := [(0, aI a0), (1, aD (.slice tI) a1), (5, aB ((decide (a0 < (1 : Int))) || (decide (a0 > (4 : Int)))))]) (L' := []) (obs := []) (by kernel_rfl) (by kernel_rfl) (by kernel_rfl) allP0 ?_
  refine seqQ_norm ?_
  refine W_cond (o := .tmp 5) (b := (decide (a0 < (1 : Int))) || (decide (a0 > (4 : Int)))) (by kernel_rfl) (by kernel_rfl) (fun h1 => ?_) (fun h1 => ?_)
  · replace h := ofT h1 h
    refine W_seq (by kernel_rfl) ?_
    refine W_run 1 [] [4] [] (fr' := [(4, aI (1 : Int))]) (L' := []) (obs := []) (by kernel_rfl) (by kernel_rfl) (by kernel_rfl) allP0 ?_
    refine seqQ_norm ?_
    obtain rfl := Option.some.inj h
    refine W_ret [4] [] (fr' := [(4, aI (1 : Int))]) (L' := []) (by kernel_rfl) (by kernel_rfl) ?_
    refine blockQ_ret ?_
    refine seqQ_ret ?_
    exact retQ_mk (by kernel_rfl) (by kernel_rfl) (by kernel_rfl)
  · replace h := ofF h1 h
    refine W_seq (by kernel_rfl) ?_
    obtain ⟨_, h2, h⟩ := bind_of h
    replace h2 := ck_some h2
    refine W_run 6 [] [1, 12] [] (fr' := [(1, aD (.slice tI) a1), (12, aB ((List.length a1 : Int) != (bShl .i64 (1 : Int) a0)))]) (L' := []) (obs := [(0 ≤ a0)]) (by kernel_rfl) (by kernel_rfl) (by kernel_rfl) (allP1 h2) ?_
    refine seqQ_norm ?_
    refine W_cond (o := .tmp 12) (b := (List.length a1 : Int) != (bShl .i64 (1 : Int) a0)) (by kernel_rfl) (by kernel_rfl) (fun h3 => ?_) (fun h3 => ?_)
    · replace h := ofT h3 h
      refine W_seq (by kernel_rfl) ?_
      refine W_run 1 [] [4] [] (fr' := [(4, aI (3 : Int))]) (L' := []) (obs := []) (by kernel_rfl) (by kernel_rfl) (by kernel_rfl) allP0 ?_
      refine seqQ_norm ?_
      obtain rfl := Option.some.inj h
      refine W_ret [4] [] (fr' := [(4, aI (3 : Int))]) (L' := []) (by kernel_rfl) (by kernel_rfl) ?_
      refine blockQ_ret ?_
      refine seqQ_ret ?_
      exact retQ_mk (by kernel_rfl) (by kernel_rfl) (by kernel_rfl)
    · replace h := ofF h3 h
      refine W_seq (by kernel_rfl) ?_
      refine W_region (by kernel_rfl) ?_
      refine WO_run (j := 1) (k := 1) (orcs := []) (kF := [19]) (kL := []) (fr' := [(19, aD (.slice tI) a1)]) (L' := []) (obs := []) rfl (by kernel_rfl) allP0 ?_
      obtain ⟨r4, h5, h⟩ := bind_of h
      refine WO_call0 (us := [none, none]) (d := 20) (p := True) (j := 2) rfl ⟨by kernel_rfl, by kernel_rfl, by kernel_rfl⟩ trivial (slices_ContainsFunc_Lintint_with_proof_bad_ok h5) (by kernel_rfl) ?_
      refine WO_run (j := 3) (k := 1) (orcs := []) (kF := [18]) (kL := []) (fr' := [(18, aB r4)]) (L' := []) (obs := []) rfl (by kernel_rfl) allP0 ?_
      refine WO_fin [18] [] (fr' := [(18, aB r4)]) (L' := []) (by kernel_rfl) (by kernel_rfl) ?_
      refine seqQ_norm ?_
      refine W_cond (o := .tmp 18) (b := r4) (by kernel_rfl) (by kernel_rfl) (fun h6 => ?_) (fun h6 => ?_)
      · replace h := ofT h6 h
        refine W_seq (by kernel_rfl) ?_
        refine W_run 1 [] [4] [] (fr' := [(4, aI (4 : Int))]) (L' := []) (obs := []) (by kernel_rfl) (by kernel_rfl) (by kernel_rfl) allP0 ?_
        refine seqQ_norm ?_
        obtain rfl := Option.some.inj h
        refine W_ret [4] [] (fr' := [(4, aI (4 : Int))]) (L' := []) (by kernel_rfl) (by kernel_rfl) ?_
        refine blockQ_ret ?_
        refine seqQ_ret ?_
        exact retQ_mk (by kernel_rfl) (by kernel_rfl) (by kernel_rfl)
      · replace h := ofF h6 h
        refine W_skip [] [] (fr' := []) (L' := []) (by kernel_rfl) (by kernel_rfl) ?_
        refine blockQ_norm ?_
        refine seqQ_norm ?_
        refine W_seq (by kernel_rfl) ?_
        refine W_run 1 [] [4] [] (fr' := [(4, aI (0 : Int))]) (L' := []) (obs := []) (by kernel_rfl) (by kernel_rfl) (by kernel_rfl) allP0 ?_
        refine seqQ_norm ?_
        obtain rfl := Option.some.inj h
        refine W_ret [4] [] (fr' := [(4, aI (0 : Int))]) (L' := []) (by kernel_rfl) (by kernel_rfl) ?_
        exact retQ_mk (by kernel_rfl) (by kernel_rfl) (by kernel_rfl)

def proof_saidWrong_1_g1 (a0 : (List Int)) : Option Bool :=
(idx a0 (0 : Int)).bind fun v19 =>
(proof_bad v19).bind fun r21 =>
bif r21 then
(some true)
else
((idx a0 (1 : Int)).bind fun v24 =>
(proof_bad v24).bind fun r26 =>
some r26)
@[reducible] def proof_saidWrong_1_s2 (v : Bool) : Fr × LL := ([(2, aB v)], [])
def proof_saidWrong_1 (a0 : (List Int)) : Option Bool :=
(proof_saidWrong_1_g1 a0).bind fun v28 =>
some v28
theorem proof_saidWrong_1_ok {a0 : (List Int)} {r : Bool} (h : proof_saidWrong_1 a0 = some r) : FnC Try.prog 51 [aD (.arr 2 tI) a0] [] (aB r) [] := by
  refine fnC_of_W (B := bodyOf Try.f51) (n := 11) Try.func51 (by kernel_rfl) (by kernel_rfl) (by kernel_rfl) (by kernel_rfl) (by kernel_rfl) ?_
  intro K
  refine W_seq (by kernel_rfl) ?_
  refine W_run 2 [] [1] [1] (fr' := [(1, .one (.ptr 1 0))]) (L' := [(1, .one (.arr 2 tI) a0)]) (obs := []) (by kernel_rfl) (by kernel_rfl) (by kernel_rfl) allP0 ?_
  refine seqQ_norm ?_
  refine W_seq (by kernel_rfl) ?_
  obtain ⟨v28, h29, h⟩ := bind_of h
  refine W_cutK (Q' := (exQ .normal proof_saidWrong_1_s2) v28) ?_ ?_
  · replace h := h29
    obtain ⟨v19, h20, h⟩ := bind_of h
    refine W_region (by kernel_rfl) ?_
    refine WO_run (j := 2) (k := 2) (orcs := [(3, .val (.dat tI v19))]) (kF := [1, 4]) (kL := [1]) (fr' := [(1, .one (.ptr 1 0)), (4, aI v19)]) (L' := [(1, .one (.arr 2 tI) a0)]) (obs := [InR (0 : Int) 2, Idx a0 (0 : Int) v19]) rfl (by kernel_rfl) (allP2 (by unfold InR; decide) (allP1 (Idx.of h20))) ?_
    obtain ⟨r21, h22, h⟩ := bind_of h
    refine WO_call0 (us := [none]) (d := 5) (p := True) (j := 3) rfl ⟨by kernel_rfl, by kernel_rfl, by kernel_rfl⟩ trivial (proof_bad_ok h22) (by kernel_rfl) ?_
    refine WO_run (j := 4) (k := 1) (orcs := []) (kF := [1, 6]) (kL := [1]) (fr' := [(1, .one (.ptr 1 0)), (6, aB r21)]) (L' := [(1, .one (.arr 2 tI) a0)]) (obs := []) rfl (by kernel_rfl) allP0 ?_
    rcases Bool.eq_false_or_eq_true (r21) with h23 | h23
    · replace h := ofT h23 h
      refine WO_run (j := 9) (k := 5) (orcs := [(8, .known true), (10, .known true), (12, .known true), (15, .val (.dat .bool true))]) (kF := [2]) (kL := [1]) (fr' := [(2, aB true)]) (L' := [(1, .one (.arr 2 tI) a0)]) (obs := [(r21 = true), (r21 = true), (r21 = true), (r21 = true)]) rfl (by kernel_rfl) (allP2 h23 (allP2 h23 (allP2 h23 (allP1 h23)))) ?_
      obtain rfl := Option.some.inj h
      refine WO_fin [2] [] (fr' := [(2, aB true)]) (L' := []) (by kernel_rfl) (by kernel_rfl) ?_
      exact exQ_mk (by kernel_rfl) (by kernel_rfl)
    · replace h := ofF h23 h
      obtain ⟨v24, h25, h⟩ := bind_of h
      refine WO_run (j := 6) (k := 2) (orcs := [(8, .known false), (10, .known false), (11, .val (.dat tI v24))]) (kF := [6, 8]) (kL := [1]) (fr' := [(6, aB r21), (8, aI v24)]) (L' := [(1, .one (.arr 2 tI) a0)]) (obs := [(r21 = false), InR (1 : Int) 2, (r21 = false), Idx a0 (1 : Int) v24]) rfl (by kernel_rfl) (allP2 h23 (allP2 (by unfold InR; decide) (allP2 h23 (allP1 (Idx.of h25))))) ?_
      obtain ⟨r26, h27, h⟩ := bind_of h
      refine WO_call0 (us := [none]) (d := 9) (p := (r21 = false)) (j := 7) rfl ⟨by kernel_rfl, by kernel_rfl, by kernel_rfl⟩ h23 (proof_bad_ok h27) (by kernel_rfl) ?_
      refine WO_run (j := 9) (k := 2) (orcs := [(15, .val (.dat .bool false))]) (kF := [2]) (kL := [1]) (fr' := [(2, aB r26)]) (L' := [(1, .one (.arr 2 tI) a0)]) (obs := [(r21 = false)]) rfl (by kernel_rfl) (allP1 h23) ?_
      obtain rfl := Option.some.inj h
      refine WO_fin [2] [] (fr' := [(2, aB r26)]) (L' := []) (by kernel_rfl) (by kernel_rfl) ?_
      exact exQ_mk (by kernel_rfl) (by kernel_rfl)
  · intro e fr L hJ
    obtain ⟨rfl, rfl, rfl⟩ := hJ
    refine LT_keep [2] [] (fr' := [(2, aB v28)]) (L' := []) (by kernel_rfl) ?_
    refine seqQ_norm ?_
    obtain rfl := Option.some.inj h
    refine W_ret [2] [] (fr' := [(2, aB v28)]) (L' := []) (by kernel_rfl) (by kernel_rfl) ?_
    exact retQ_mk (by kernel_rfl) (by kernel_rfl) (by kernel_rfl)

def slices_IndexFunc_L2int2int_with_proof_saidWrong_1_b1 (i15 : Int) (v18 : (List Int)) (x16 : Unit) : Option (Flow Unit (Esc Int Unit)) :=
(proof_saidWrong_1 v18).bind fun r21 =>
bif r21 then
(some (.done (.ret i15)))
else
(some (.next ()))
@[reducible] def slices_IndexFunc_L2int2int_with_proof_saidWrong_1_s2 (a0 : (List (List Int))) (v : Int × Unit) : Fr × LL := ([(0, aD (.slice (.arr 2 tI)) a0), (1, .one (.fn 51 [])), (7, aI (List.length a0 : Int)), (8, aI v.1)], [])
@[reducible] def slices_IndexFunc_L2int2int_with_proof_saidWrong_1_s3 (v : Int) : Fr × LL := ([(4, aI v)], [])
@[reducible] def slices_IndexFunc_L2int2int_with_proof_saidWrong_1_s4 (v : Unit) : Fr × LL := ([], [])
def slices_IndexFunc_L2int2int_with_proof_saidWrong_1 (a0 : (List (List Int))) : Option Int :=
(forL slices_IndexFunc_L2int2int_with_proof_saidWrong_1_b1 (fun x16 => (.brk ())) a0 0 ()).bind fun v25 =>
match v25 with
| .ret v30 =>
(some v30)
| .brk v31 =>
(some (-1 : Int))
theorem slices_IndexFunc_L2int2int_with_proof_saidWrong_1_ok {a0 : (List (List Int))} {r : Int} (h : slices_IndexFunc_L2int2int_with_proof_saidWrong_1 a0 = some r) : FnC Try.prog 65 [aD (.slice (.arr 2 tI)) a0, .one (.fn 51 [])] [] (aI r) [] := by
  refine fnC_of_W (B := bodyOf Try.f65) (n := 19) Try.func65 (by kernel_rfl) (by kernel_rfl) (by kernel_rfl) (by kernel_rfl) (by kernel_rfl) ?_
  intro K
  refine W_seq (by kernel_rfl) ?_
  refine W_run 1 [] [0, 1] [] (fr' := [(0, aD (.slice (.arr 2 tI)) a0), (1, .one (.fn 51 []))]) (L' := []) (obs := []) (by kernel_rfl) (by kernel_rfl) (by kernel_rfl) allP0 ?_
  refine seqQ_norm ?_
  refine W_seq (by kernel_rfl) ?_
  refine W_seq (by kernel_rfl) ?_
  refine W_run 3 [] [0, 1, 7, 8] [] (fr' := [(0, aD (.slice (.arr 2 tI)) a0), (1, .one (.fn 51 [])), (7, aI (List.length a0 : Int)), (8, aI (0 : Int))]) (L' := []) (obs := []) (by kernel_rfl) (by kernel_rfl) (by kernel_rfl) allP0 ?_
  refine seqQ_norm ?_
  refine W_block (id := 0) (by kernel_rfl) ?_
  obtain ⟨v25, h26, h⟩ := bind_of h
  refine W_len (t := 0) (u := (.arr 2 tI)) (xs := a0) (by kernel_rfl) (fun h29 => ?_)
  obtain ⟨h27, h28⟩ := forL_iter h29 h26
  refine W_weaken [0, 1, 7, 8] [] (fr' := ((slices_IndexFunc_L2int2int_with_proof_saidWrong_1_s2 a0) ((0 : Int), ())).1) (L' := ((slices_IndexFunc_L2int2int_with_proof_saidWrong_1_s2 a0) ((0 : Int), ())).2) (by kernel_rfl) ?_
  refine W_cutK (W_loop (S := (slices_IndexFunc_L2int2int_with_proof_saidWrong_1_s2 a0)) (J := (escQ (exQ .ret slices_IndexFunc_L2int2int_with_proof_saidWrong_1_s3) (exQ (.exit 0) slices_IndexFunc_L2int2int_with_proof_saidWrong_1_s4))) (by kernel_rfl) ?_ h27 _ v25 h28) ?_
  · rintro ⟨i15, x16⟩ s h
    refine W_seq (by kernel_rfl) ?_
    refine W_run 1 [] [0, 1, 7, 8, 9] [] (fr' := [(0, aD (.slice (.arr 2 tI)) a0), (1, .one (.fn 51 [])), (7, aI (List.length a0 : Int)), (8, aI i15), (9, aB (decide (i15 < (List.length a0 : Int))))]) (L' := []) (obs := []) (by kernel_rfl) (by kernel_rfl) (by kernel_rfl) allP0 ?_
    refine seqQ_norm ?_
    refine W_seq (by kernel_rfl) ?_
    refine W_cond (o := .tmp 9) (b := decide (i15 < (List.length a0 : Int))) (by kernel_rfl) (by kernel_rfl) (fun h20 => ?_) (fun h20 => ?_)
    · replace h := stepL_true h20 h
      obtain ⟨v18, _, h19, h, rfl⟩ := h
      refine W_skip [0, 1, 7, 8] [] (fr' := [(0, aD (.slice (.arr 2 tI)) a0), (1, .one (.fn 51 [])), (7, aI (List.length a0 : Int)), (8, aI i15)]) (L' := []) (by kernel_rfl) (by kernel_rfl) ?_
      refine seqQ_norm ?_
      refine W_seq (by kernel_rfl) ?_
      refine W_block (id := 1) (by kernel_rfl) ?_
      refine W_seq (by kernel_rfl) ?_
      refine W_run 2 [] [0, 1, 5, 7, 8] [] (fr' := [(0, aD (.slice (.arr 2 tI)) a0), (1, .one (.fn 51 [])), (5, aI i15), (7, aI (List.length a0 : Int)), (8, aI i15)]) (L' := []) (obs := []) (by kernel_rfl) (by kernel_rfl) (by kernel_rfl) allP0 ?_
      refine seqQ_norm ?_
      refine W_seq (by kernel_rfl) ?_
      refine W_region (by kernel_rfl) ?_
      refine WO_run (j := 5) (k := 5) (orcs := [(7, .val (.dat (.arr 2 tI) v18))]) (kF := [0, 1, 5, 7, 8, 11, 15]) (kL := []) (fr' := [(0, aD (.slice (.arr 2 tI)) a0), (1, .one (.fn 51 [])), (5, aI i15), (7, aI (List.length a0 : Int)), (8, aI i15), (11, .one (.fn 51 [])), (15, aD (.arr 2 tI) v18)]) (L' := []) (obs := [Idx a0 i15 v18]) rfl (by kernel_rfl) (allP1 (Idx.of h19)) ?_
      obtain ⟨r21, h22, h⟩ := bind_of h
      refine WO_call0 (us := [none]) (d := 16) (p := True) (j := 6) rfl ⟨by kernel_rfl, by kernel_rfl, by kernel_rfl⟩ trivial (proof_saidWrong_1_ok h22) (by kernel_rfl) ?_
      refine WO_fin [0, 1, 5, 7, 8, 16] [] (fr' := [(0, aD (.slice (.arr 2 tI)) a0), (1, .one (.fn 51 [])), (5, aI i15), (7, aI (List.length a0 : Int)), (8, aI i15), (16, aB r21)]) (L' := []) (by kernel_rfl) (by kernel_rfl) ?_
      refine seqQ_norm ?_
      refine W_cond (o := .tmp 16) (b := r21) (by kernel_rfl) (by kernel_rfl) (fun h23 => ?_) (fun h23 => ?_)
      · replace h := ofT h23 h
        refine W_seq (by kernel_rfl) ?_
        refine W_run 2 [] [4] [] (fr' := [(4, aI i15)]) (L' := []) (obs := []) (by kernel_rfl) (by kernel_rfl) (by kernel_rfl) allP0 ?_
        refine seqQ_norm ?_
        obtain rfl := Option.some.inj h
        refine W_ret [4] [] (fr' := [(4, aI i15)]) (L' := []) (by kernel_rfl) (by kernel_rfl) ?_
        refine blockQ_ret ?_
        refine seqQ_ret ?_
        refine round_ret ?_
        refine escQ_ret ?_
        exact exQ_mk (by kernel_rfl) (by kernel_rfl)
      · replace h := ofF h23 h
        refine W_skip [0, 1, 7, 8] [] (fr' := [(0, aD (.slice (.arr 2 tI)) a0), (1, .one (.fn 51 [])), (7, aI (List.length a0 : Int)), (8, aI i15)]) (L' := []) (by kernel_rfl) (by kernel_rfl) ?_
        refine blockQ_norm ?_
        refine seqQ_norm ?_
        obtain rfl := Option.some.inj h
        refine W_run 2 [] [0, 1, 7, 8] [] (fr' := [(0, aD (.slice (.arr 2 tI)) a0), (1, .one (.fn 51 [])), (7, aI (List.length a0 : Int)), (8, aI (w64 (i15 + (1 : Int))))]) (L' := []) (obs := []) (by kernel_rfl) (by kernel_rfl) (by kernel_rfl) allP0 ?_
        exact round_next' (by kernel_rfl) (by kernel_rfl)
    · obtain rfl := stepL_false h20 h
      refine W_exit (id := 0) [] [] (fr' := []) (L' := []) (by kernel_rfl) (by kernel_rfl) ?_
      refine seqQ_exit ?_
      refine round_exit ?_
      refine escQ_brk ?_
      exact exQ_mk (by kernel_rfl) (by kernel_rfl)
  · intro e fr L hJ
    rcases v25 with v30 | v31
    · obtain ⟨rfl, rfl, rfl⟩ := hJ
      obtain rfl := Option.some.inj h
      refine LT_keep [4] [] (fr' := [(4, aI v30)]) (L' := []) (by kernel_rfl) ?_
      refine blockQ_ret ?_
      refine seqQ_ret ?_
      exact retQ_mk (by kernel_rfl) (by kernel_rfl) (by kernel_rfl)
    · obtain ⟨rfl, rfl, rfl⟩ := hJ
      refine LT_keep [] [] (fr' := []) (L' := []) (by kernel_rfl) ?_
      refine blockQ_hit ?_
      refine seqQ_norm ?_
      refine W_seq (by kernel_rfl) ?_
      refine W_run 1 [] [4] [] (fr' := [(4, aI (-1 : Int))]) (L' := []) (obs := []) (by kernel_rfl) (by kernel_rfl) (by kernel_rfl) allP0 ?_
      refine seqQ_norm ?_
      obtain rfl := Option.some.inj h
      refine W_ret [4] [] (fr' := [(4, aI (-1 : Int))]) (L' := []) (by kernel_rfl) (by kernel_rfl) ?_
      exact retQ_mk (by kernel_rfl) (by kernel_rfl) (by kernel_rfl)

def slices_ContainsFunc_L2int2int_with_proof_saidWrong_1 (a0 : (List (List Int))) : Option Bool :=
(slices_IndexFunc_L2int2int_with_proof_saidWrong_1 a0).bind fun r1 =>
some (decide (r1 ≥ (0 : Int)))
theorem slices_ContainsFunc_L2int2int_with_proof_saidWrong_1_ok {a0 : (List (List Int))} {r : Bool} (h : slices_ContainsFunc_L2int2int_with_proof_saidWrong_1 a0 = some r) : FnC Try.prog 50 [aD (.slice (.arr 2 tI)) a0, .one (.fn 51 [])] [] (aB r) [] := by
  refine fnC_of_W (B := bodyOf Try.f50) (n := 9) Try.func50 (by kernel_rfl) (by kernel_rfl) (by kernel_rfl) (by kernel_rfl) (by kernel_rfl) ?_
  intro K
  refine W_seq (by kernel_rfl) ?_
  refine W_run 1 [] [0, 1] [] (fr' := [(0, aD (.slice (.arr 2 tI)) a0), (1, .one (.fn 51 []))]) (L' := []) (obs := []) (by kernel_rfl) (by kernel_rfl) (by kernel_rfl) allP0 ?_
  refine seqQ_norm ?_
  refine W_seq (by kernel_rfl) ?_
  refine W_region (by kernel_rfl) ?_
  refine WO_run (j := 2) (k := 2) (orcs := []) (kF := [5, 6]) (kL := []) (fr' := [(5, aD (.slice (.arr 2 tI)) a0), (6, .one (.fn 51 []))]) (L' := []) (obs := []) rfl (by kernel_rfl) allP0 ?_
  obtain ⟨r1, h2, h⟩ := bind_of h
  refine WO_call0 (us := [none, none]) (d := 7) (p := True) (j := 3) rfl ⟨by kernel_rfl, by kernel_rfl, by kernel_rfl⟩ trivial (slices_IndexFunc_L2int2int_with_proof_saidWrong_1_ok h2) (by kernel_rfl) ?_
  refine WO_run (j := 5) (k := 2) (orcs := []) (kF := [4]) (kL := []) (fr' := [(4, aB (decide (r1 ≥ (0 : Int))))]) (L' := []) (obs := []) rfl (by kernel_rfl) allP0 ?_
  refine WO_fin [4] [] (fr' := [(4, aB (decide (r1 ≥ (0 : Int))))]) (L' := []) (by kernel_rfl) (by kernel_rfl) ?_
  refine seqQ_norm ?_
  obtain rfl := Option.some.inj h
  refine W_ret [4] [] (fr' := [(4, aB (decide (r1 ≥ (0 : Int))))]) (L' := []) (by kernel_rfl) (by kernel_rfl) ?_
  exact retQ_mk (by kernel_rfl) (by kernel_rfl) (by kernel_rfl)

@[reducible] def proof_saidWrong_s1 (a0 : Int) (a3 : (List (List Int))) (v : Bool) : Fr × LL := ([(0, aI a0), (3, aD (.slice (.arr 2 tI)) a3), (21, aB v)], [])
def proof_saidWrong (a0 : Int) (a1 : (List Int)) (a2 : Int) (a3 : (List (List Int))) : Option Int :=
(proof_wrong a0 a1).bind fun r1 =>
bif r1 != (0 : Int) then
(some r1)
else
(((proof_bad a2).bind fun r14 =>
bif r14 then
(some true)
else
((slices_ContainsFunc_L2int2int_with_proof_saidWrong_1 a3).bind fun r17 =>
some r17)).bind fun v19 =>
bif v19 then
(some (4 : Int))
else
(bif (List.length a3 : Int) != a0 then
(some (3 : Int))
else
(some (0 : Int))))
theorem proof_saidWrong_ok {a0 : Int} {a1 : (List Int)} {a2 : Int} {a3 : (List (List Int))} {r : Int} (h : proof_saidWrong a0 a1 a2 a3 = some r) : FnC Try.prog 30 [aI a0, aD (.slice tI) a1, aI a2, aD (.slice (.arr 2 tI)) a3] [] (aI r) [] := by
  refine fnC_of_W (B := bodyOf Try.f30) (n := 26) Try.func30 (by kernel_rfl) (by kernel_rfl) (by kernel_rfl) (by kernel_rfl) (by kernel_rfl) ?_
  intro K
  refine W_seq (by kernel_rfl) ?_
  refine W_run 1 [] [0, 1, 2, 3] [] (fr' := [(0, aI a0), (1, aD (.slice tI) a1), (2, aI a2), (3, aD (.slice (.arr 2 tI)) a3)]) (L' := []) (obs := []) (by kernel_rfl) (by kernel_rfl) (by kernel_rfl) allP0 ?_
  refine seqQ_norm ?_
  refine W_seq (by kernel_rfl) ?_
  refine W_seq (by kernel_rfl) ?_
  refine W_region (by kernel_rfl) ?_
  refine WO_run (j := 2) (k := 2) (orcs := []) (kF := [0, 2, 3, 10, 11]) (kL := []) (fr' := [(0, aI a0), (2, aI a2), (3, aD (.slice (.arr 2 tI)) a3), (10, aI a0), (11, aD (.slice tI) a1)]) (L' := []) (obs := []) rfl (by kernel_rfl) allP0 ?_
  obtain ⟨r1, h2, h⟩ := bind_of h
  refine WO_call0 (us := [none, none]) (d := 12) (p := True) (j := 3) rfl ⟨by kernel_rfl, by kernel_rfl, by kernel_rfl⟩ trivial (proof_wrong_ok h2) (by kernel_rfl) ?_
  refine WO_run (j := 4) (k := 1) (orcs := []) (kF := [0, 2, 3, 9]) (kL := []) (fr' := [(0, aI a0), (2, aI a2), (3, aD (.slice (.arr 2 tI)) a3), (9, aI r1)]) (L' := []) (obs := []) rfl (by kernel_rfl) allP0 ?_
  refine WO_fin [0, 2, 3, 9] [] (fr' := [(0, aI a0), (2, aI a2), (3, aD (.slice (.arr 2 tI)) a3), (9, aI r1)]) (L' := []) (by kernel_rfl) (by kernel_rfl) ?_
  refine seqQ_norm ?_
  refine W_seq (by kernel_rfl) ?_
  refine W_run 2 [] [0, 2, 3, 9, 14] [] (fr' := [(0, aI a0), (2, aI a2), (3, aD (.slice (.arr 2 tI)) a3), (9, aI r1), (14, aB (r1 != (0 : Int)))]) (L' := []) (obs := []) (by kernel_rfl) (by kernel_rfl) (by kernel_rfl) allP0 ?_
  refine seqQ_norm ?_
  refine W_cond (o := .tmp 14) (b := r1 != (0 : Int)) (by kernel_rfl) (by kernel_rfl) (fun h3 => ?_) (fun h3 => ?_)
  · replace h := ofT h3 h
    refine W_seq (by kernel_rfl) ?_
    refine W_run 2 [] [8] [] (fr' := [(8, aI r1)]) (L' := []) (obs := []) (by kernel_rfl) (by kernel_rfl) (by kernel_rfl) allP0 ?_
    refine seqQ_norm ?_
    obtain rfl := Option.some.inj h
    refine W_ret [8] [] (fr' := [(8, aI r1)]) (L' := []) (by kernel_rfl) (by kernel_rfl) ?_
    refine seqQ_ret ?_
    exact retQ_mk (by kernel_rfl) (by kernel_rfl) (by kernel_rfl)
  · replace h := ofF h3 h
    refine W_skip [0, 2, 3] [] (fr' := [(0, aI a0), (2, aI a2), (3, aD (.slice (.arr 2 tI)) a3)]) (L' := []) (by kernel_rfl) (by kernel_rfl) ?_
    refine seqQ_norm ?_
    refine W_seq (by kernel_rfl) ?_
    refine W_seq (by kernel_rfl) ?_
    obtain ⟨v19, h20, h⟩ := bind_of h
    refine W_cutK (Q' := (exQ .normal (proof_saidWrong_s1 a0 a3)) v19) ?_ ?_
    · replace h := h20
      refine W_region (by kernel_rfl) ?_
      refine WO_run (j := 1) (k := 1) (orcs := []) (kF := [0, 3, 16]) (kL := []) (fr' := [(0, aI a0), (3, aD (.slice (.arr 2 tI)) a3), (16, aI a2)]) (L' := []) (obs := []) rfl (by kernel_rfl) allP0 ?_
      obtain ⟨r14, h15, h⟩ := bind_of h
      refine WO_call0 (us := [none]) (d := 17) (p := True) (j := 2) rfl ⟨by kernel_rfl, by kernel_rfl, by kernel_rfl⟩ trivial (proof_bad_ok h15) (by kernel_rfl) ?_
      refine WO_run (j := 3) (k := 1) (orcs := []) (kF := [0, 3, 18]) (kL := []) (fr' := [(0, aI a0), (3, aD (.slice (.arr 2 tI)) a3), (18, aB r14)]) (L' := []) (obs := []) rfl (by kernel_rfl) allP0 ?_
      rcases Bool.eq_false_or_eq_true (r14) with h16 | h16
      · replace h := ofT h16 h
        refine WO_run (j := 6) (k := 3) (orcs := [(6, .known true), (8, .known true), (11, .val (.dat .bool true))]) (kF := [0, 3, 21]) (kL := []) (fr' := [(0, aI a0), (3, aD (.slice (.arr 2 tI)) a3), (21, aB true)]) (L' := []) (obs := [(r14 = true), (r14 = true), (r14 = true)]) rfl (by kernel_rfl) (allP2 h16 (allP2 h16 (allP1 h16))) ?_
        obtain rfl := Option.some.inj h
        refine WO_fin [0, 3, 21] [] (fr' := [(0, aI a0), (3, aD (.slice (.arr 2 tI)) a3), (21, aB true)]) (L' := []) (by kernel_rfl) (by kernel_rfl) ?_
        exact exQ_mk (by kernel_rfl) (by kernel_rfl)
      · replace h := ofF h16 h
        refine WO_run (j := 4) (k := 1) (orcs := [(6, .known false)]) (kF := [0, 3, 18, 19]) (kL := []) (fr' := [(0, aI a0), (3, aD (.slice (.arr 2 tI)) a3), (18, aB r14), (19, aD (.slice (.arr 2 tI)) a3)]) (L' := []) (obs := [(r14 = false)]) rfl (by kernel_rfl) (allP1 h16) ?_
        obtain ⟨r17, h18, h⟩ := bind_of h
        refine WO_call0 (us := [none, none]) (d := 20) (p := (r14 = false)) (j := 5) rfl ⟨by kernel_rfl, by kernel_rfl, by kernel_rfl⟩ h16 (slices_ContainsFunc_L2int2int_with_proof_saidWrong_1_ok h18) (by kernel_rfl) ?_
        refine WO_run (j := 6) (k := 1) (orcs := [(11, .val (.dat .bool false))]) (kF := [0, 3, 21]) (kL := []) (fr' := [(0, aI a0), (3, aD (.slice (.arr 2 tI)) a3), (21, aB r17)]) (L' := []) (obs := [(r14 = false)]) rfl (by kernel_rfl) (allP1 h16) ?_
        obtain rfl := Option.some.inj h
        refine WO_fin [0, 3, 21] [] (fr' := [(0, aI a0), (3, aD (.slice (.arr 2 tI)) a3), (21, aB r17)]) (L' := []) (by kernel_rfl) (by kernel_rfl) ?_
        exact exQ_mk (by kernel_rfl) (by kernel_rfl)
    · intro e fr L hJ
      obtain ⟨rfl, rfl, rfl⟩ := hJ
      refine LT_keep [0, 3, 21] [] (fr' := [(0, aI a0), (3, aD (.slice (.arr 2 tI)) a3), (21, aB v19)]) (L' := []) (by kernel_rfl) ?_
      refine seqQ_norm ?_
      refine W_cond (o := .tmp 21) (b := v19) (by kernel_rfl) (by kernel_rfl) (fun h21 => ?_) (fun h21 => ?_)
      · replace h := ofT h21 h
        refine W_seq (by kernel_rfl) ?_
        refine W_run 1 [] [8] [] (fr' := [(8, aI (4 : Int))]) (L' := []) (obs := []) (by kernel_rfl) (by kernel_rfl) (by kernel_rfl) allP0 ?_
        refine seqQ_norm ?_
        obtain rfl := Option.some.inj h
        refine W_ret [8] [] (fr' := [(8, aI (4 : Int))]) (L' := []) (by kernel_rfl) (by kernel_rfl) ?_
        refine seqQ_ret ?_
        exact retQ_mk (by kernel_rfl) (by kernel_rfl) (by kernel_rfl)
      · replace h := ofF h21 h
        refine W_skip [0, 3] [] (fr' := [(0, aI a0), (3, aD (.slice (.arr 2 tI)) a3)]) (L' := []) (by kernel_rfl) (by kernel_rfl) ?_
        refine seqQ_norm ?_
        refine W_seq (by kernel_rfl) ?_
        refine W_seq (by kernel_rfl) ?_
        refine W_run 4 [] [25] [] (fr' := [(25, aB ((List.length a3 : Int) != a0))]) (L' := []) (obs := []) (by kernel_rfl) (by kernel_rfl) (by kernel_rfl) allP0 ?_
        refine seqQ_norm ?_
        refine W_cond (o := .tmp 25) (b := (List.length a3 : Int) != a0) (by kernel_rfl) (by kernel_rfl) (fun h22 => ?_) (fun h22 => ?_)
        · replace h := ofT h22 h
          refine W_seq (by kernel_rfl) ?_
          refine W_run 1 [] [8] [] (fr' := [(8, aI (3 : Int))]) (L' := []) (obs := []) (by kernel_rfl) (by kernel_rfl) (by kernel_rfl) allP0 ?_
          refine seqQ_norm ?_
          obtain rfl := Option.some.inj h
          refine W_ret [8] [] (fr' := [(8, aI (3 : Int))]) (L' := []) (by kernel_rfl) (by kernel_rfl) ?_
          refine seqQ_ret ?_
          exact retQ_mk (by kernel_rfl) (by kernel_rfl) (by kernel_rfl)
        · replace h := ofF h22 h
          refine W_skip [] [] (fr' := []) (L' := []) (by kernel_rfl) (by kernel_rfl) ?_
          refine seqQ_norm ?_
          refine W_seq (by kernel_rfl) ?_
          refine W_run 1 [] [8] [] (fr' := [(8, aI (0 : Int))]) (L' := []) (obs := []) (by kernel_rfl) (by kernel_rfl) (by kernel_rfl) allP0 ?_
          refine seqQ_norm ?_
          obtain rfl := Option.some.inj h
          refine W_ret [8] [] (fr' := [(8, aI (0 : Int))]) (L' := []) (by kernel_rfl) (by kernel_rfl) ?_
          exact retQ_mk (by kernel_rfl) (by kernel_rfl) (by kernel_rfl)

def proof_line (a0 : (List Int)) (a1 : Int) : Option Int :=
(idx a0 (0 : Int)).bind fun v1 =>
(idx a0 (1 : Int)).bind fun v3 =>
some (Int.tmod (w64 ((w64 (v1 * (w64 ((8 : Int) - a1)))) + (w64 (v3 * a1)))) (7 : Int))
theorem proof_line_ok {a0 : (List Int)} {a1 : Int} {r : Int} (h : proof_line a0 a1 = some r) : FnC Try.prog 53 [aD (.arr 2 tI) a0, aI a1] [] (aI r) [] := by
  refine fnC_of_W (B := bodyOf Try.f53) (n := 16) Try.func53 (by kernel_rfl) (by kernel_rfl) (by kernel_rfl) (by kernel_rfl) (by kernel_rfl) ?_
  intro K
  refine W_seq (by kernel_rfl) ?_
  refine W_run 2 [] [1, 2] [2] (fr' := [(1, aI a1), (2, .one (.ptr 2 0))]) (L' := [(2, .one (.arr 2 tI) a0)]) (obs := []) (by kernel_rfl) (by kernel_rfl) (by kernel_rfl) allP0 ?_
  refine seqQ_norm ?_
  refine W_seq (by kernel_rfl) ?_
  obtain ⟨v1, h2, h⟩ := bind_of h
  obtain ⟨v3, h4, h⟩ := bind_of h
  refine W_run 12 [(3, .val (.dat tI v1)), (13, .val (.dat tI v3))] [4] [] (fr' := [(4, aI (Int.tmod (w64 ((w64 (v1 * (w64 ((8 : Int) - a1)))) + (w64 (v3 * a1)))) (7 : Int)))]) (L' := []) (obs := [InR (0 : Int) 2, Idx a0 (0 : Int) v1, InR (1 : Int) 2, Idx a0 (1 : Int) v3, ((7 : Int) ≠ 0)]) (by kernel_rfl) (by kernel_rfl) (by kernel_rfl) (allP2 (by unfold InR; decide) (allP2 (Idx.of h2) (allP2 (by unfold InR; decide) (allP2 (Idx.of h4) (allP1 (by decide)))))) ?_
  refine seqQ_norm ?_
  obtain rfl := Option.some.inj h
  refine W_ret [4] [] (fr' := [(4, aI (Int.tmod (w64 ((w64 (v1 * (w64 ((8 : Int) - a1)))) + (w64 (v3 * a1)))) (7 : Int)))]) (L' := []) (by kernel_rfl) (by kernel_rfl) ?_
  exact retQ_mk (by kernel_rfl) (by kernel_rfl) (by kernel_rfl)

def proof_fold_b7 (x68 : (List Int)) (v70 : Int) (x81 : (Int × (List Int))) : Option (Flow (Int × (List Int)) (List Int)) :=
bif decide (x81.1 < (List.length x68 : Int)) then
((idx x68 x81.1).bind fun v91 =>
(idx x68 (w64 (x81.1 + (1 : Int)))).bind fun v93 =>
(proof_line [v91, v93] v70).bind fun r95 =>
(ck ((List.length x81.2 : Int) + 1 ≤ 4294967296)).bind fun _ =>
some (.next (w64 (x81.1 + (2 : Int)), x81.2 ++ [r95])))
else
(some (.done x81.2))
@[reducible] def proof_fold_s8 (c0 : (List Int)) (i67 : Int) (x68 : (List Int)) (v70 : Int) (v : (Int × (List Int))) : Fr × LL := ([(0, aD (.slice tI) x68), (6, aI v70), (7, .one (.slc 35)), (8, aI v.1), (9, .one (.slc 1000)), (10, aI (List.length c0 : Int)), (11, aI i67)], [(35, .seq tI v.2), (1000, .seq tI c0)])
@[reducible] def proof_fold_s9 (c0 : (List Int)) (i67 : Int) (v : (List Int)) : Fr × LL := ([(7, .one (.slc 35)), (9, .one (.slc 1000)), (10, aI (List.length c0 : Int)), (11, aI i67)], [(35, .seq tI v), (1000, .seq tI c0)])
def proof_fold_b10 (fuel : Nat) (i67 : Int) (v70 : Int) (x68 : (List Int)) : Option (Flow (List Int) (List Int)) :=
(iter (proof_fold_b7 x68 v70) fuel ((0 : Int), [])).bind fun v98 =>
some (.next v98)
@[reducible] def proof_fold_s11 (c0 : (List Int)) (v : Int × (List Int)) : Fr × LL := ([(0, aD (.slice tI) v.2), (9, .one (.slc 1000)), (10, aI (List.length c0 : Int)), (11, aI v.1)], [(1000, .seq tI c0)])
@[reducible] def proof_fold_s12 (c0 : (List Int)) (v : (List Int)) : Fr × LL := ([(0, aD (.slice tI) v)], [(1000, .seq tI c0)])
def proof_fold (fuel : Nat) (a0 : (List Int)) (c0 : (List Int)) : Option (List Int) :=
(forL (proof_fold_b10 fuel) (fun x68 => x68) c0 0 a0).bind fun v103 =>
some v103
theorem proof_fold_ok {fuel : Nat} {a0 : (List Int)} {c0 : (List Int)} {r : (List Int)} (h : proof_fold fuel a0 c0 = some r) : FnC Try.prog 54 [aD (.slice tI) a0, .one (.slc 1000)] [(1000, .seq tI c0)] (aD (.slice tI) r) [(1000, .seq tI c0)] := by
  refine fnC_of_W (B := bodyOf Try.f54) (n := 39) Try.func54 (by kernel_rfl) (by kernel_rfl) (by kernel_rfl) (by kernel_rfl) (by kernel_rfl) ?_
  intro K
  refine W_seq (by kernel_rfl) ?_
  refine W_run 1 [] [0, 1] [1000] (fr' := [(0, aD (.slice tI) a0), (1, .one (.slc 1000))]) (L' := [(1000, .seq tI c0)]) (obs := []) (by kernel_rfl) (by kernel_rfl) (by kernel_rfl) allP0 ?_
  refine seqQ_norm ?_
  refine W_seq (by kernel_rfl) ?_
  refine W_seq (by kernel_rfl) ?_
  refine W_run 3 [] [0, 9, 10, 11] [1000] (fr' := [(0, aD (.slice tI) a0), (9, .one (.slc 1000)), (10, aI (List.length c0 : Int)), (11, aI (0 : Int))]) (L' := [(1000, .seq tI c0)]) (obs := []) (by kernel_rfl) (by kernel_rfl) (by kernel_rfl) allP0 ?_
  refine seqQ_norm ?_
  refine W_block (id := 0) (by kernel_rfl) ?_
  obtain ⟨v103, h104, h⟩ := bind_of h
  refine W_lenS (s := 1000) (u := tI) (xs := c0) (by kernel_rfl) (fun h107 => ?_)
  obtain ⟨h105, h106⟩ := forL_iter h107 h104
  refine W_weaken [0, 9, 10, 11] [1000] (fr' := ((proof_fold_s11 c0) ((0 : Int), a0)).1) (L' := ((proof_fold_s11 c0) ((0 : Int), a0)).2) (by kernel_rfl) ?_
  refine W_cutK (W_loop (S := (proof_fold_s11 c0)) (J := (exQ (.exit 0) (proof_fold_s12 c0))) (by kernel_rfl) ?_ h105 _ v103 h106) ?_
  · rintro ⟨i67, x68⟩ s h
    refine W_seq (by kernel_rfl) ?_
    refine W_run 1 [] [0, 9, 10, 11, 12] [1000] (fr' := [(0, aD (.slice tI) x68), (9, .one (.slc 1000)), (10, aI (List.length c0 : Int)), (11, aI i67), (12, aB (decide (i67 < (List.length c0 : Int))))]) (L' := [(1000, .seq tI c0)]) (obs := []) (by kernel_rfl) (by kernel_rfl) (by kernel_rfl) allP0 ?_
    refine seqQ_norm ?_
    refine W_seq (by kernel_rfl) ?_
    refine W_cond (o := .tmp 12) (b := decide (i67 < (List.length c0 : Int))) (by kernel_rfl) (by kernel_rfl) (fun h72 => ?_) (fun h72 => ?_)
    · replace h := stepL_true h72 h
      obtain ⟨v70, _, h71, h, rfl⟩ := h
      refine W_skip [0, 9, 10, 11] [1000] (fr' := [(0, aD (.slice tI) x68), (9, .one (.slc 1000)), (10, aI (List.length c0 : Int)), (11, aI i67)]) (L' := [(1000, .seq tI c0)]) (by kernel_rfl) (by kernel_rfl) ?_
      refine seqQ_norm ?_
      refine W_seq (by kernel_rfl) ?_
      refine W_block (id := 1) (by kernel_rfl) ?_
      refine W_seq (by kernel_rfl) ?_
      refine W_run 3 [(3, .val (.dat tI v70))] [0, 6, 9, 10, 11] [1000] (fr' := [(0, aD (.slice tI) x68), (6, aI v70), (9, .one (.slc 1000)), (10, aI (List.length c0 : Int)), (11, aI i67)]) (L' := [(1000, .seq tI c0)]) (obs := [InR i67 (List.length c0), Idx c0 i67 v70]) (by kernel_rfl) (by kernel_rfl) (by kernel_rfl) (allP2 (InR.of h71) (allP1 (Idx.of h71))) ?_
      refine seqQ_norm ?_
      refine W_seq (by kernel_rfl) ?_
      refine W_run 1 [] [0, 6, 7, 9, 10, 11] [1000] (fr' := [(0, aD (.slice tI) x68), (6, aI v70), (7, .one (.nilS)), (9, .one (.slc 1000)), (10, aI (List.length c0 : Int)), (11, aI i67)]) (L' := [(1000, .seq tI c0)]) (obs := []) (by kernel_rfl) (by kernel_rfl) (by kernel_rfl) allP0 ?_
      refine seqQ_norm ?_
      refine W_seq (by kernel_rfl) ?_
      refine W_seq (by kernel_rfl) ?_
      refine W_run 1 [] [0, 6, 7, 8, 9, 10, 11] [1000] (fr' := [(0, aD (.slice tI) x68), (6, aI v70), (7, .one (.nilS)), (8, aI (0 : Int)), (9, .one (.slc 1000)), (10, aI (List.length c0 : Int)), (11, aI i67)]) (L' := [(1000, .seq tI c0)]) (obs := []) (by kernel_rfl) (by kernel_rfl) (by kernel_rfl) allP0 ?_
      refine seqQ_norm ?_
      refine W_block (id := 2) (by kernel_rfl) ?_
      obtain ⟨v98, h99, h⟩ := bind_of h
      refine W_mine 7 35 tI (by kernel_rfl) ?_
      refine W_weaken [0, 6, 7, 8, 9, 10, 11] [35, 1000] (fr' := ((proof_fold_s8 c0 i67 x68 v70) ((0 : Int), [])).1) (L' := ((proof_fold_s8 c0 i67 x68 v70) ((0 : Int), [])).2) (by kernel_rfl) ?_
      refine W_cutK (W_loop (S := (proof_fold_s8 c0 i67 x68 v70)) (J := (exQ (.exit 2) (proof_fold_s9 c0 i67))) (by kernel_rfl) ?_ fuel _ v98 h99) ?_
      · rintro x81 s h
        refine W_seq (by kernel_rfl) ?_
        refine W_seq (by kernel_rfl) ?_
        refine W_run 4 [] [0, 6, 7, 8, 9, 10, 11, 18] [35, 1000] (fr' := [(0, aD (.slice tI) x68), (6, aI v70), (7, .one (.slc 35)), (8, aI x81.1), (9, .one (.slc 1000)), (10, aI (List.length c0 : Int)), (11, aI i67), (18, aB (decide (x81.1 < (List.length x68 : Int))))]) (L' := [(35, .seq tI x81.2), (1000, .seq tI c0)]) (obs := []) (by kernel_rfl) (by kernel_rfl) (by kernel_rfl) allP0 ?_
        refine seqQ_norm ?_
        refine W_cond (o := .tmp 18) (b := decide (x81.1 < (List.length x68 : Int))) (by kernel_rfl) (by kernel_rfl) (fun h90 => ?_) (fun h90 => ?_)
        · replace h := ofT h90 h
          refine W_skip [0, 6, 7, 8, 9, 10, 11] [35, 1000] (fr' := [(0, aD (.slice tI) x68), (6, aI v70), (7, .one (.slc 35)), (8, aI x81.1), (9, .one (.slc 1000)), (10, aI (List.length c0 : Int)), (11, aI i67)]) (L' := [(35, .seq tI x81.2), (1000, .seq tI c0)]) (by kernel_rfl) (by kernel_rfl) ?_
          refine seqQ_norm ?_
          refine W_seq (by kernel_rfl) ?_
          refine W_block (id := 3) (by kernel_rfl) ?_
          obtain ⟨v91, h92, h⟩ := bind_of h
          obtain ⟨v93, h94, h⟩ := bind_of h
          obtain ⟨r95, h96, h⟩ := bind_of h
          obtain ⟨_, h97, h⟩ := bind_of h
          replace h97 := ck_some h97
          refine W_draw3 13 [0] [(7, .val (.dat tI v91)), (17, .val (.dat tI v93))] [(12, [none, none], aI r95)] [0, 6, 7, 8, 9, 10, 11] [35, 1000] (fr' := [(0, aD (.slice tI) x68), (6, aI v70), (7, .one (.slc 35)), (8, aI x81.1), (9, .one (.slc 1000)), (10, aI (List.length c0 : Int)), (11, aI i67)]) (L' := [(35, .seq tI (x81.2 ++ [r95])), (1000, .seq tI c0)]) (out := [(21, .one (.slc 35)), (22, aD (.slice tI) x68), (23, aI x81.1), (24, .one (.dptr tI v91)), (25, aI v91), (26, aD (.slice tI) x68), (27, aI x81.1), (28, aI (w64 (x81.1 + (1 : Int)))), (29, .one (.dptr tI v93)), (30, aI v93), (31, aD (.arr 2 tI) [v91, v93]), (32, aI v70), (33, aI r95)]) (obs := [Idx x68 x81.1 v91, Idx x68 (w64 (x81.1 + (1 : Int))) v93, True]) (obs2 := [SmallLen (List.length x81.2 + List.length [r95])]) (calls := [(53, [aD (.arr 2 tI) [v91, v93], aI v70], aI r95)]) (by kernel_rfl) (by kernel_rfl) (by kernel_rfl) (by kernel_rfl) (allP2 (Idx.of h92) (allP2 (Idx.of h94) (allP1 trivial))) (allC1 (by kernel_rfl) (proof_line_ok h96) (by kernel_rfl) allC0) (by kernel_rfl) (allP1 h97) ?_
          refine blockQ_norm ?_
          refine seqQ_norm ?_
          obtain rfl := Option.some.inj h
          refine W_run 3 [] [0, 6, 7, 8, 9, 10, 11] [35, 1000] (fr' := [(0, aD (.slice tI) x68), (6, aI v70), (7, .one (.slc 35)), (8, aI (w64 (x81.1 + (2 : Int)))), (9, .one (.slc 1000)), (10, aI (List.length c0 : Int)), (11, aI i67)]) (L' := [(35, .seq tI (x81.2 ++ [r95])), (1000, .seq tI c0)]) (obs := []) (by kernel_rfl) (by kernel_rfl) (by kernel_rfl) allP0 ?_
          exact round_next' (by kernel_rfl) (by kernel_rfl)
        · replace h := ofF h90 h
          obtain rfl := Option.some.inj h
          refine W_exit (id := 2) [7, 9, 10, 11] [35, 1000] (fr' := [(7, .one (.slc 35)), (9, .one (.slc 1000)), (10, aI (List.length c0 : Int)), (11, aI i67)]) (L' := [(35, .seq tI x81.2), (1000, .seq tI c0)]) (by kernel_rfl) (by kernel_rfl) ?_
          refine seqQ_exit ?_
          refine round_exit ?_
          exact exQ_mk (by kernel_rfl) (by kernel_rfl)
      · intro e fr L hJ
        obtain ⟨rfl, rfl, rfl⟩ := hJ
        refine LT_keep [7, 9, 10, 11] [35, 1000] (fr' := [(7, .one (.slc 35)), (9, .one (.slc 1000)), (10, aI (List.length c0 : Int)), (11, aI i67)]) (L' := [(35, .seq tI v98), (1000, .seq tI c0)]) (by kernel_rfl) ?_
        refine blockQ_hit ?_
        refine seqQ_norm ?_
        refine W_run 2 [] [0, 9, 10, 11] [35, 1000] (fr' := [(0, .one (.slc 35)), (9, .one (.slc 1000)), (10, aI (List.length c0 : Int)), (11, aI i67)]) (L' := [(35, .seq tI v98), (1000, .seq tI c0)]) (obs := []) (by kernel_rfl) (by kernel_rfl) (by kernel_rfl) allP0 ?_
        refine blockQ_norm ?_
        refine seqQ_norm ?_
        refine W_region (by kernel_rfl) ?_
        refine WO_run (j := 2) (k := 2) (orcs := []) (kF := [0, 9, 10, 11]) (kL := [35, 1000]) (fr' := [(0, .one (.slc 35)), (9, .one (.slc 1000)), (10, aI (List.length c0 : Int)), (11, aI (w64 (i67 + (1 : Int))))]) (L' := [(35, .seq tI v98), (1000, .seq tI c0)]) (obs := []) rfl (by kernel_rfl) allP0 ?_
        obtain rfl := Option.some.inj h
        refine WO_frz 35 (by kernel_rfl) ?_
        refine WO_fin [0, 9, 10, 11] [1000] (fr' := [(0, aD (.slice tI) v98), (9, .one (.slc 1000)), (10, aI (List.length c0 : Int)), (11, aI (w64 (i67 + (1 : Int))))]) (L' := [(1000, .seq tI c0)]) (by kernel_rfl) (by kernel_rfl) ?_
        exact round_next' (by kernel_rfl) (by kernel_rfl)
    · obtain rfl := stepL_false h72 h
      refine W_exit (id := 0) [0] [1000] (fr' := [(0, aD (.slice tI) x68)]) (L' := [(1000, .seq tI c0)]) (by kernel_rfl) (by kernel_rfl) ?_
      refine seqQ_exit ?_
      refine round_exit ?_
      exact exQ_mk (by kernel_rfl) (by kernel_rfl)
  · intro e fr L hJ
    obtain ⟨rfl, rfl, rfl⟩ := hJ
    refine LT_keep [0] [1000] (fr' := [(0, aD (.slice tI) v103)]) (L' := [(1000, .seq tI c0)]) (by kernel_rfl) ?_
    refine blockQ_hit ?_
    refine seqQ_norm ?_
    refine W_seq (by kernel_rfl) ?_
    refine W_run 2 [] [4] [1000] (fr' := [(4, aD (.slice tI) v103)]) (L' := [(1000, .seq tI c0)]) (obs := []) (by kernel_rfl) (by kernel_rfl) (by kernel_rfl) allP0 ?_
    refine seqQ_norm ?_
    obtain rfl := Option.some.inj h
    refine W_ret [4] [1000] (fr' := [(4, aD (.slice tI) v103)]) (L' := [(1000, .seq tI c0)]) (by kernel_rfl) (by kernel_rfl) ?_
    exact retQ_mk (by kernel_rfl) (by kernel_rfl) (by kernel_rfl)

def proof_check_b1 (c0 : (List Int)) (i27 : Int) (v30 : (List Int)) (x28 : Int) : Option (Flow Int (Esc Bool Int)) :=
(idx v30 (0 : Int)).bind fun v33 =>
(idx v30 (1 : Int)).bind fun v35 =>
bif (Int.tmod (w64 (v33 + v35)) (7 : Int)) != x28 then
(some (.done (.ret false)))
else
((idx c0 i27).bind fun v38 =>
(proof_line v30 v38).bind fun r40 =>
some (.next r40))
@[reducible] def proof_check_s2 (a0 : (List Int)) (a2 : (List (List Int))) (c0 : (List Int)) (v : Int × Int) : Fr × LL := ([(0, aD (.slice tI) a0), (1, aI v.2), (3, .one (.slc 1000)), (11, aD (.slice (.arr 2 tI)) a2), (12, aI (List.length a2 : Int)), (13, aI v.1)], [(1000, .seq tI c0)])
@[reducible] def proof_check_s3 (c0 : (List Int)) (v : Bool) : Fr × LL := ([(8, aB v)], [(1000, .seq tI c0)])
@[reducible] def proof_check_s4 (a0 : (List Int)) (c0 : (List Int)) (v : Int) : Fr × LL := ([(0, aD (.slice tI) a0), (1, aI v), (3, .one (.slc 1000))], [(1000, .seq tI c0)])
def proof_check (fuel : Nat) (a0 : (List Int)) (a1 : Int) (a2 : (List (List Int))) (c0 : (List Int)) : Option Bool :=
(forL (proof_check_b1 c0) (fun x28 => (.brk x28)) a2 0 a1).bind fun v43 =>
match v43 with
| .ret v48 =>
(some v48)
| .brk v49 =>
((proof_fold fuel a0 c0).bind fun r50 =>
(idx r50 (0 : Int)).bind fun v52 =>
some (v49 == v52))
theorem proof_check_ok {fuel : Nat} {a0 : (List Int)} {a1 : Int} {a2 : (List (List Int))} {c0 : (List Int)} {r : Bool} (h : proof_check fuel a0 a1 a2 c0 = some r) : FnC Try.prog 33 [aD (.slice tI) a0, aI a1, aD (.slice (.arr 2 tI)) a2, .one (.slc 1000)] [(1000, .seq tI c0)] (aB r) [(1000, .seq tI c0)] := by
  refine fnC_of_W (B := bodyOf Try.f33) (n := 40) Try.func33 (by kernel_rfl) (by kernel_rfl) (by kernel_rfl) (by kernel_rfl) (by kernel_rfl) ?_
  intro K
  refine W_seq (by kernel_rfl) ?_
  refine W_run 1 [] [0, 1, 2, 3] [1000] (fr' := [(0, aD (.slice tI) a0), (1, aI a1), (2, aD (.slice (.arr 2 tI)) a2), (3, .one (.slc 1000))]) (L' := [(1000, .seq tI c0)]) (obs := []) (by kernel_rfl) (by kernel_rfl) (by kernel_rfl) allP0 ?_
  refine seqQ_norm ?_
  refine W_seq (by kernel_rfl) ?_
  refine W_seq (by kernel_rfl) ?_
  refine W_run 3 [] [0, 1, 3, 11, 12, 13] [1000] (fr' := [(0, aD (.slice tI) a0), (1, aI a1), (3, .one (.slc 1000)), (11, aD (.slice (.arr 2 tI)) a2), (12, aI (List.length a2 : Int)), (13, aI (0 : Int))]) (L' := [(1000, .seq tI c0)]) (obs := []) (by kernel_rfl) (by kernel_rfl) (by kernel_rfl) allP0 ?_
  refine seqQ_norm ?_
  refine W_block (id := 0) (by kernel_rfl) ?_
  obtain ⟨v43, h44, h⟩ := bind_of h
  refine W_len (t := 11) (u := (.arr 2 tI)) (xs := a2) (by kernel_rfl) (fun h47 => ?_)
  obtain ⟨h45, h46⟩ := forL_iter h47 h44
  refine W_weaken [0, 1, 3, 11, 12, 13] [1000] (fr' := ((proof_check_s2 a0 a2 c0) ((0 : Int), a1)).1) (L' := ((proof_check_s2 a0 a2 c0) ((0 : Int), a1)).2) (by kernel_rfl) ?_
  refine W_cutK (W_loop (S := (proof_check_s2 a0 a2 c0)) (J := (escQ (exQ .ret (proof_check_s3 c0)) (exQ (.exit 0) (proof_check_s4 a0 c0)))) (by kernel_rfl) ?_ h45 _ v43 h46) ?_
  · rintro ⟨i27, x28⟩ s h
    refine W_seq (by kernel_rfl) ?_
    refine W_run 1 [] [0, 1, 3, 11, 12, 13, 14] [1000] (fr' := [(0, aD (.slice tI) a0), (1, aI x28), (3, .one (.slc 1000)), (11, aD (.slice (.arr 2 tI)) a2), (12, aI (List.length a2 : Int)), (13, aI i27), (14, aB (decide (i27 < (List.length a2 : Int))))]) (L' := [(1000, .seq tI c0)]) (obs := []) (by kernel_rfl) (by kernel_rfl) (by kernel_rfl) allP0 ?_
    refine seqQ_norm ?_
    refine W_seq (by kernel_rfl) ?_
    refine W_cond (o := .tmp 14) (b := decide (i27 < (List.length a2 : Int))) (by kernel_rfl) (by kernel_rfl) (fun h32 => ?_) (fun h32 => ?_)
    · replace h := stepL_true h32 h
      obtain ⟨v30, _, h31, h, rfl⟩ := h
      refine W_skip [0, 1, 3, 11, 12, 13] [1000] (fr' := [(0, aD (.slice tI) a0), (1, aI x28), (3, .one (.slc 1000)), (11, aD (.slice (.arr 2 tI)) a2), (12, aI (List.length a2 : Int)), (13, aI i27)]) (L' := [(1000, .seq tI c0)]) (by kernel_rfl) (by kernel_rfl) ?_
      refine seqQ_norm ?_
      refine W_seq (by kernel_rfl) ?_
      refine W_block (id := 1) (by kernel_rfl) ?_
      refine W_seq (by kernel_rfl) ?_
      refine W_run 6 [(3, .val (.dat (.arr 2 tI) v30)), (7, .typed)] [0, 1, 3, 9, 10, 11, 12, 13] [1000, 10] (fr' := [(0, aD (.slice tI) a0), (1, aI x28), (3, .one (.slc 1000)), (9, aI i27), (10, .one (.ptr 10 0)), (11, aD (.slice (.arr 2 tI)) a2), (12, aI (List.length a2 : Int)), (13, aI i27)]) (L' := [(1000, .seq tI c0), (10, .one (.arr 2 tI) v30)]) (obs := [Idx a2 i27 v30, True]) (by kernel_rfl) (by kernel_rfl) (by kernel_rfl) (allP2 (Idx.of h31) (allP1 trivial)) ?_
      refine seqQ_norm ?_
      refine W_seq (by kernel_rfl) ?_
      refine W_seq (by kernel_rfl) ?_
      obtain ⟨v33, h34, h⟩ := bind_of h
      obtain ⟨v35, h36, h⟩ := bind_of h
      refine W_run 8 [(3, .val (.dat tI v33)), (7, .val (.dat tI v35))] [0, 3, 9, 10, 11, 12, 13, 25] [1000, 10] (fr' := [(0, aD (.slice tI) a0), (3, .one (.slc 1000)), (9, aI i27), (10, .one (.ptr 10 0)), (11, aD (.slice (.arr 2 tI)) a2), (12, aI (List.length a2 : Int)), (13, aI i27), (25, aB ((Int.tmod (w64 (v33 + v35)) (7 : Int)) != x28))]) (L' := [(1000, .seq tI c0), (10, .one (.arr 2 tI) v30)]) (obs := [InR (0 : Int) 2, Idx v30 (0 : Int) v33, InR (1 : Int) 2, Idx v30 (1 : Int) v35, ((7 : Int) ≠ 0)]) (by kernel_rfl) (by kernel_rfl) (by kernel_rfl) (allP2 (by unfold InR; decide) (allP2 (Idx.of h34) (allP2 (by unfold InR; decide) (allP2 (Idx.of h36) (allP1 (by decide)))))) ?_
      refine seqQ_norm ?_
      refine W_cond (o := .tmp 25) (b := (Int.tmod (w64 (v33 + v35)) (7 : Int)) != x28) (by kernel_rfl) (by kernel_rfl) (fun h37 => ?_) (fun h37 => ?_)
      · replace h := ofT h37 h
        refine W_seq (by kernel_rfl) ?_
        refine W_run 1 [] [8] [1000] (fr' := [(8, aB false)]) (L' := [(1000, .seq tI c0)]) (obs := []) (by kernel_rfl) (by kernel_rfl) (by kernel_rfl) allP0 ?_
        refine seqQ_norm ?_
        obtain rfl := Option.some.inj h
        refine W_ret [8] [1000] (fr' := [(8, aB false)]) (L' := [(1000, .seq tI c0)]) (by kernel_rfl) (by kernel_rfl) ?_
        refine seqQ_ret ?_
        refine blockQ_ret ?_
        refine seqQ_ret ?_
        refine round_ret ?_
        refine escQ_ret ?_
        exact exQ_mk (by kernel_rfl) (by kernel_rfl)
      · replace h := ofF h37 h
        refine W_skip [0, 3, 9, 10, 11, 12, 13] [1000, 10] (fr' := [(0, aD (.slice tI) a0), (3, .one (.slc 1000)), (9, aI i27), (10, .one (.ptr 10 0)), (11, aD (.slice (.arr 2 tI)) a2), (12, aI (List.length a2 : Int)), (13, aI i27)]) (L' := [(1000, .seq tI c0), (10, .one (.arr 2 tI) v30)]) (by kernel_rfl) (by kernel_rfl) ?_
        refine seqQ_norm ?_
        obtain ⟨v38, h39, h⟩ := bind_of h
        obtain ⟨r40, h41, h⟩ := bind_of h
        refine W_draw2 6 [(9, .val (.dat tI v38))] [(5, [none, none], aI r40)] [0, 1, 3, 11, 12, 13] [1000] (fr' := [(0, aD (.slice tI) a0), (1, aI r40), (3, .one (.slc 1000)), (11, aD (.slice (.arr 2 tI)) a2), (12, aI (List.length a2 : Int)), (13, aI i27)]) (L' := [(1000, .seq tI c0)]) (out := [(26, aD (.arr 2 tI) v30), (27, .one (.slc 1000)), (28, aI i27), (29, .one (.eptr 1000 1 i27 0)), (30, aI v38), (31, aI r40)]) (obs := [InR i27 (List.length c0), Idx c0 i27 v38, True]) (obs2 := []) (calls := [(53, [aD (.arr 2 tI) v30, aI v38], aI r40)]) (by kernel_rfl) (by kernel_rfl) (by kernel_rfl) (by kernel_rfl) (allP2 (InR.of h39) (allP2 (Idx.of h39) (allP1 trivial))) (allC1 (by kernel_rfl) (proof_line_ok h41) (by kernel_rfl) allC0) (by kernel_rfl) allP0 ?_
        refine blockQ_norm ?_
        refine seqQ_norm ?_
        obtain rfl := Option.some.inj h
        refine W_run 2 [] [0, 1, 3, 11, 12, 13] [1000] (fr' := [(0, aD (.slice tI) a0), (1, aI r40), (3, .one (.slc 1000)), (11, aD (.slice (.arr 2 tI)) a2), (12, aI (List.length a2 : Int)), (13, aI (w64 (i27 + (1 : Int))))]) (L' := [(1000, .seq tI c0)]) (obs := []) (by kernel_rfl) (by kernel_rfl) (by kernel_rfl) allP0 ?_
        exact round_next' (by kernel_rfl) (by kernel_rfl)
    · obtain rfl := stepL_false h32 h
      refine W_exit (id := 0) [0, 1, 3] [1000] (fr' := [(0, aD (.slice tI) a0), (1, aI x28), (3, .one (.slc 1000))]) (L' := [(1000, .seq tI c0)]) (by kernel_rfl) (by kernel_rfl) ?_
      refine seqQ_exit ?_
      refine round_exit ?_
      refine escQ_brk ?_
      exact exQ_mk (by kernel_rfl) (by kernel_rfl)
  · intro e fr L hJ
    rcases v43 with v48 | v49
    · obtain ⟨rfl, rfl, rfl⟩ := hJ
      obtain rfl := Option.some.inj h
      refine LT_keep [8] [1000] (fr' := [(8, aB v48)]) (L' := [(1000, .seq tI c0)]) (by kernel_rfl) ?_
      refine blockQ_ret ?_
      refine seqQ_ret ?_
      exact retQ_mk (by kernel_rfl) (by kernel_rfl) (by kernel_rfl)
    · obtain ⟨rfl, rfl, rfl⟩ := hJ
      refine LT_keep [0, 1, 3] [1000] (fr' := [(0, aD (.slice tI) a0), (1, aI v49), (3, .one (.slc 1000))]) (L' := [(1000, .seq tI c0)]) (by kernel_rfl) ?_
      refine blockQ_hit ?_
      refine seqQ_norm ?_
      refine W_seq (by kernel_rfl) ?_
      refine W_region (by kernel_rfl) ?_
      refine WO_run (j := 3) (k := 3) (orcs := []) (kF := [33, 34, 35]) (kL := [1000]) (fr' := [(33, aI v49), (34, aD (.slice tI) a0), (35, .one (.slc 1000))]) (L' := [(1000, .seq tI c0)]) (obs := []) rfl (by kernel_rfl) allP0 ?_
      obtain ⟨r50, h51, h⟩ := bind_of h
      refine WO_lend [(1000, 1000)] (us := [none, none]) (d := 36) (p := True) (j := 4) rfl ⟨by kernel_rfl, by kernel_rfl, by kernel_rfl⟩ trivial (proof_fold_ok h51) (by kernel_rfl) (by kernel_rfl) ?_
      obtain ⟨v52, h53, h⟩ := bind_of h
      refine WO_run (j := 8) (k := 4) (orcs := [(9, .val (.dat tI v52))]) (kF := [8]) (kL := [1000]) (fr' := [(8, aB (v49 == v52))]) (L' := [(1000, .seq tI c0)]) (obs := [Idx r50 (0 : Int) v52]) rfl (by kernel_rfl) (allP1 (Idx.of h53)) ?_
      refine WO_fin [8] [1000] (fr' := [(8, aB (v49 == v52))]) (L' := [(1000, .seq tI c0)]) (by kernel_rfl) (by kernel_rfl) ?_
      refine seqQ_norm ?_
      obtain rfl := Option.some.inj h
      refine W_ret [8] [1000] (fr' := [(8, aB (v49 == v52))]) (L' := [(1000, .seq tI c0)]) (by kernel_rfl) (by kernel_rfl) ?_
      exact retQ_mk (by kernel_rfl) (by kernel_rfl) (by kernel_rfl)

@[reducible] def proof_Fooled_s17 (a0 : Int) (a1 : (List Int)) (a2 : Int) (a3 : (List (List Int))) (v140 : Int) (x157 : (Int × (List Int))) (v : Bool) : Fr × LL := ([(0, aI a0), (1, aD (.slice tI) a1), (2, aI a2), (3, aD (.slice (.arr 2 tI)) a3), (11, aI v140), (12, .one (.slc 23)), (13, aI x157.1), (40, aB v)], [(23, .seq tI x157.2)])
def proof_Fooled_b18 (a0 : Int) (x157 : (Int × (List Int))) : Option (Flow (Int × (List Int)) (Int × (List Int))) :=
(bif decide (x157.1 < a0) then
((idx x157.2 x157.1).bind fun v179 =>
some (v179 == (6 : Int)))
else
(some false)).bind fun v181 =>
bif v181 then
((idx x157.2 x157.1).bind fun v184 =>
some (.next (w64 (x157.1 + (1 : Int)), List.set x157.2 (Int.toNat x157.1) (0 : Int))))
else
(some (.done (x157.1, x157.2)))
@[reducible] def proof_Fooled_s19 (a0 : Int) (a1 : (List Int)) (a2 : Int) (a3 : (List (List Int))) (v140 : Int) (v : (Int × (List Int))) : Fr × LL := ([(0, aI a0), (1, aD (.slice tI) a1), (2, aI a2), (3, aD (.slice (.arr 2 tI)) a3), (11, aI v140), (12, .one (.slc 23)), (13, aI v.1)], [(23, .seq tI v.2)])
@[reducible] def proof_Fooled_s20 (a0 : Int) (a1 : (List Int)) (a2 : Int) (a3 : (List (List Int))) (v140 : Int) (v : (Int × (List Int))) : Fr × LL := ([(0, aI a0), (1, aD (.slice tI) a1), (2, aI a2), (3, aD (.slice (.arr 2 tI)) a3), (11, aI v140), (12, .one (.slc 23)), (13, aI v.1)], [(23, .seq tI v.2)])
@[reducible] def proof_Fooled_s21 (a0 : Int) (a1 : (List Int)) (a2 : Int) (a3 : (List (List Int))) (x68 : (Int × (List Int))) (v : Int) : Fr × LL := ([(0, aI a0), (1, aD (.slice tI) a1), (2, aI a2), (3, aD (.slice (.arr 2 tI)) a3), (11, aI v), (12, .one (.slc 23))], [(23, .seq tI x68.2)])
def proof_Fooled_b22 (a0 : Int) (a1 : (List Int)) (a2 : Int) (a3 : (List (List Int))) (fuel : Nat) (x68 : (Int × (List Int))) : Option (Flow (Int × (List Int)) (Int × Int)) :=
((proof_check fuel a1 a2 a3 x68.2).bind fun r137 =>
bif r137 then
(some (w64 (x68.1 + (1 : Int))))
else
(some x68.1)).bind fun v140 =>
(iter (proof_Fooled_b18 a0) fuel ((0 : Int), x68.2)).bind fun v186 =>
bif v186.1 == a0 then
(some (.done (v140, (0 : Int))))
else
((idx v186.2 v186.1).bind fun v191 =>
some (.next (v140, List.set v186.2 (Int.toNat v186.1) (w64 (v191 + (1 : Int))))))
@[reducible] def proof_Fooled_s23 (a0 : Int) (a1 : (List Int)) (a2 : Int) (a3 : (List (List Int))) (v : (Int × (List Int))) : Fr × LL := ([(0, aI a0), (1, aD (.slice tI) a1), (2, aI a2), (3, aD (.slice (.arr 2 tI)) a3), (11, aI v.1), (12, .one (.slc 23))], [(23, .seq tI v.2)])
@[reducible] def proof_Fooled_s24 (v : (Int × Int)) : Fr × LL := ([(8, aI v.1), (9, aI v.2)], [])
def proof_Fooled (fuel : Nat) (a0 : Int) (a1 : (List Int)) (a2 : Int) (a3 : (List (List Int))) : Option (Int × Int) :=
(proof_saidWrong a0 a1 a2 a3).bind fun r1 =>
bif r1 != (0 : Int) then
(some ((0 : Int), r1))
else
((ck (0 ≤ a0 ∧ a0 = a0 ∧ a0 ≤ 4294967296)).bind fun _ =>
(iter (proof_Fooled_b22 a0 a1 a2 a3 fuel) fuel ((0 : Int), List.replicate (Int.toNat a0) (0 : Int))).bind fun v193 =>
some (v193.1, v193.2))
theorem proof_Fooled_ok {fuel : Nat} {a0 : Int} {a1 : (List Int)} {a2 : Int} {a3 : (List (List Int))} {r : (Int × Int)} (h : proof_Fooled fuel a0 a1 a2 a3 = some r) : FnC Try.prog 13 [aI a0, aD (.slice tI) a1, aI a2, aD (.slice (.arr 2 tI)) a3] [] (.tup [.dat tI r.1, .dat tI r.2]) [] := by
  refine fnC_of_W (B := bodyOf Try.f13) (n := 56) Try.func13 (by kernel_rfl) (by kernel_rfl) (by kernel_rfl) (by kernel_rfl) (by kernel_rfl) ?_
  intro K
  refine W_seq (by kernel_rfl) ?_
  refine W_run 2 [] [0, 1, 2, 3] [] (fr' := [(0, aI a0), (1, aD (.slice tI) a1), (2, aI a2), (3, aD (.slice (.arr 2 tI)) a3)]) (L' := []) (obs := []) (by kernel_rfl) (by kernel_rfl) (by kernel_rfl) allP0 ?_
  refine seqQ_norm ?_
  refine W_seq (by kernel_rfl) ?_
  refine W_seq (by kernel_rfl) ?_
  refine W_region (by kernel_rfl) ?_
  refine WO_run (j := 4) (k := 4) (orcs := []) (kF := [0, 1, 2, 3, 14, 15, 16, 17]) (kL := []) (fr' := [(0, aI a0), (1, aD (.slice tI) a1), (2, aI a2), (3, aD (.slice (.arr 2 tI)) a3), (14, aI a0), (15, aD (.slice tI) a1), (16, aI a2), (17, aD (.slice (.arr 2 tI)) a3)]) (L' := []) (obs := []) rfl (by kernel_rfl) allP0 ?_
  obtain ⟨r1, h2, h⟩ := bind_of h
  refine WO_call0 (us := [none, none, none, none]) (d := 18) (p := True) (j := 5) rfl ⟨by kernel_rfl, by kernel_rfl, by kernel_rfl⟩ trivial (proof_saidWrong_ok h2) (by kernel_rfl) ?_
  refine WO_run (j := 6) (k := 1) (orcs := []) (kF := [0, 1, 2, 3, 10]) (kL := []) (fr' := [(0, aI a0), (1, aD (.slice tI) a1), (2, aI a2), (3, aD (.slice (.arr 2 tI)) a3), (10, aI r1)]) (L' := []) (obs := []) rfl (by kernel_rfl) allP0 ?_
  refine WO_fin [0, 1, 2, 3, 10] [] (fr' := [(0, aI a0), (1, aD (.slice tI) a1), (2, aI a2), (3, aD (.slice (.arr 2 tI)) a3), (10, aI r1)]) (L' := []) (by kernel_rfl) (by kernel_rfl) ?_
  refine seqQ_norm ?_
  refine W_seq (by kernel_rfl) ?_
  refine W_run 2 [] [0, 1, 2, 3, 10, 20] [] (fr' := [(0, aI a0), (1, aD (.slice tI) a1), (2, aI a2), (3, aD (.slice (.arr 2 tI)) a3), (10, aI r1), (20, aB (r1 != (0 : Int)))]) (L' := []) (obs := []) (by kernel_rfl) (by kernel_rfl) (by kernel_rfl) allP0 ?_
  refine seqQ_norm ?_
  refine W_cond (o := .tmp 20) (b := r1 != (0 : Int)) (by kernel_rfl) (by kernel_rfl) (fun h3 => ?_) (fun h3 => ?_)
  · replace h := ofT h3 h
    refine W_seq (by kernel_rfl) ?_
    refine W_run 3 [] [8, 9] [] (fr' := [(8, aI (0 : Int)), (9, aI r1)]) (L' := []) (obs := []) (by kernel_rfl) (by kernel_rfl) (by kernel_rfl) allP0 ?_
    refine seqQ_norm ?_
    obtain rfl := Option.some.inj h
    refine W_ret [8, 9] [] (fr' := [(8, aI (0 : Int)), (9, aI r1)]) (L' := []) (by kernel_rfl) (by kernel_rfl) ?_
    refine seqQ_ret ?_
    exact retQ_mk (by kernel_rfl) (by kernel_rfl) (by kernel_rfl)
  · replace h := ofF h3 h
    refine W_skip [0, 1, 2, 3] [] (fr' := [(0, aI a0), (1, aD (.slice tI) a1), (2, aI a2), (3, aD (.slice (.arr 2 tI)) a3)]) (L' := []) (by kernel_rfl) (by kernel_rfl) ?_
    refine seqQ_norm ?_
    refine W_seq (by kernel_rfl) ?_
    refine W_run 1 [] [0, 1, 2, 3, 11] [] (fr' := [(0, aI a0), (1, aD (.slice tI) a1), (2, aI a2), (3, aD (.slice (.arr 2 tI)) a3), (11, aI (0 : Int))]) (L' := []) (obs := []) (by kernel_rfl) (by kernel_rfl) (by kernel_rfl) allP0 ?_
    refine seqQ_norm ?_
    refine W_seq (by kernel_rfl) ?_
    obtain ⟨_, h4, h⟩ := bind_of h
    replace h4 := ck_some h4
    refine W_run 3 [] [0, 1, 2, 3, 11, 12] [23] (fr' := [(0, aI a0), (1, aD (.slice tI) a1), (2, aI a2), (3, aD (.slice (.arr 2 tI)) a3), (11, aI (0 : Int)), (12, .one (.slc 23))]) (L' := [(23, .seq tI (List.replicate (Int.toNat a0) (0 : Int)))]) (obs := [0 ≤ a0 ∧ a0 = a0 ∧ SmallLen a0]) (by kernel_rfl) (by kernel_rfl) (by kernel_rfl) (allP1 h4) ?_
    refine seqQ_norm ?_
    refine W_block (id := 0) (by kernel_rfl) ?_
    obtain ⟨v193, h194, h⟩ := bind_of h
    refine W_weaken [0, 1, 2, 3, 11, 12] [23] (fr' := ((proof_Fooled_s23 a0 a1 a2 a3) ((0 : Int), List.replicate (Int.toNat a0) (0 : Int))).1) (L' := ((proof_Fooled_s23 a0 a1 a2 a3) ((0 : Int), List.replicate (Int.toNat a0) (0 : Int))).2) (by kernel_rfl) ?_
    refine W_cutK (W_loop (S := (proof_Fooled_s23 a0 a1 a2 a3)) (J := (exQ .ret proof_Fooled_s24)) (by kernel_rfl) ?_ fuel _ v193 h194) ?_
    · rintro x68 s h
      refine W_block (id := 1) (by kernel_rfl) ?_
      refine W_seq (by kernel_rfl) ?_
      obtain ⟨v140, h141, h⟩ := bind_of h
      refine W_cutK (Q' := (exQ .normal (proof_Fooled_s21 a0 a1 a2 a3 x68)) v140) ?_ ?_
      · replace h := h141
        refine W_seq (by kernel_rfl) ?_
        refine W_region (by kernel_rfl) ?_
        refine WO_run (j := 4) (k := 4) (orcs := []) (kF := [0, 1, 2, 3, 11, 12, 24, 25, 26, 27]) (kL := [23]) (fr' := [(0, aI a0), (1, aD (.slice tI) a1), (2, aI a2), (3, aD (.slice (.arr 2 tI)) a3), (11, aI x68.1), (12, .one (.slc 23)), (24, aD (.slice tI) a1), (25, aI a2), (26, aD (.slice (.arr 2 tI)) a3), (27, .one (.slc 23))]) (L' := [(23, .seq tI x68.2)]) (obs := []) rfl (by kernel_rfl) allP0 ?_
        obtain ⟨r137, h138, h⟩ := bind_of h
        refine WO_lend [(1000, 23)] (us := [none, none, none, none]) (d := 28) (p := True) (j := 5) rfl ⟨by kernel_rfl, by kernel_rfl, by kernel_rfl⟩ trivial (proof_check_ok h138) (by kernel_rfl) (by kernel_rfl) ?_
        refine WO_fin [0, 1, 2, 3, 11, 12, 28] [23] (fr' := [(0, aI a0), (1, aD (.slice tI) a1), (2, aI a2), (3, aD (.slice (.arr 2 tI)) a3), (11, aI x68.1), (12, .one (.slc 23)), (28, aB r137)]) (L' := [(23, .seq tI x68.2)]) (by kernel_rfl) (by kernel_rfl) ?_
        refine seqQ_norm ?_
        refine W_cond (o := .tmp 28) (b := r137) (by kernel_rfl) (by kernel_rfl) (fun h139 => ?_) (fun h139 => ?_)
        · replace h := ofT h139 h
          obtain rfl := Option.some.inj h
          refine W_run 3 [] [0, 1, 2, 3, 11, 12] [23] (fr' := [(0, aI a0), (1, aD (.slice tI) a1), (2, aI a2), (3, aD (.slice (.arr 2 tI)) a3), (11, aI (w64 (x68.1 + (1 : Int)))), (12, .one (.slc 23))]) (L' := [(23, .seq tI x68.2)]) (obs := []) (by kernel_rfl) (by kernel_rfl) (by kernel_rfl) allP0 ?_
          exact exQ_mk (by kernel_rfl) (by kernel_rfl)
        · replace h := ofF h139 h
          obtain rfl := Option.some.inj h
          refine W_skip [0, 1, 2, 3, 11, 12] [23] (fr' := [(0, aI a0), (1, aD (.slice tI) a1), (2, aI a2), (3, aD (.slice (.arr 2 tI)) a3), (11, aI x68.1), (12, .one (.slc 23))]) (L' := [(23, .seq tI x68.2)]) (by kernel_rfl) (by kernel_rfl) ?_
          exact exQ_mk (by kernel_rfl) (by kernel_rfl)
      · intro e fr L hJ
        obtain ⟨rfl, rfl, rfl⟩ := hJ
        refine LT_keep [0, 1, 2, 3, 11, 12] [23] (fr' := [(0, aI a0), (1, aD (.slice tI) a1), (2, aI a2), (3, aD (.slice (.arr 2 tI)) a3), (11, aI v140), (12, .one (.slc 23))]) (L' := [(23, .seq tI x68.2)]) (by kernel_rfl) ?_
        refine seqQ_norm ?_
        refine W_seq (by kernel_rfl) ?_
        refine W_run 1 [] [0, 1, 2, 3, 11, 12, 13] [23] (fr' := [(0, aI a0), (1, aD (.slice tI) a1), (2, aI a2), (3, aD (.slice (.arr 2 tI)) a3), (11, aI v140), (12, .one (.slc 23)), (13, aI (0 : Int))]) (L' := [(23, .seq tI x68.2)]) (obs := []) (by kernel_rfl) (by kernel_rfl) (by kernel_rfl) allP0 ?_
        refine seqQ_norm ?_
        refine W_seq (by kernel_rfl) ?_
        refine W_block (id := 2) (by kernel_rfl) ?_
        obtain ⟨v186, h187, h⟩ := bind_of h
        refine W_weaken [0, 1, 2, 3, 11, 12, 13] [23] (fr' := ((proof_Fooled_s19 a0 a1 a2 a3 v140) ((0 : Int), x68.2)).1) (L' := ((proof_Fooled_s19 a0 a1 a2 a3 v140) ((0 : Int), x68.2)).2) (by kernel_rfl) ?_
        refine W_cutK (W_loop (S := (proof_Fooled_s19 a0 a1 a2 a3 v140)) (J := (exQ (.exit 2) (proof_Fooled_s20 a0 a1 a2 a3 v140))) (by kernel_rfl) ?_ fuel _ v186 h187) ?_
        · rintro x157 s h
          refine W_seq (by kernel_rfl) ?_
          refine W_seq (by kernel_rfl) ?_
          obtain ⟨v181, h182, h⟩ := bind_of h
          refine W_cutK (Q' := (exQ .normal (proof_Fooled_s17 a0 a1 a2 a3 v140 x157)) v181) ?_ ?_
          · replace h := h182
            refine W_region (by kernel_rfl) ?_
            refine WO_run (j := 4) (k := 4) (orcs := []) (kF := [0, 1, 2, 3, 11, 12, 13, 34]) (kL := [23]) (fr' := [(0, aI a0), (1, aD (.slice tI) a1), (2, aI a2), (3, aD (.slice (.arr 2 tI)) a3), (11, aI v140), (12, .one (.slc 23)), (13, aI x157.1), (34, aB (decide (x157.1 < a0)))]) (L' := [(23, .seq tI x157.2)]) (obs := []) rfl (by kernel_rfl) allP0 ?_
            rcases Bool.eq_false_or_eq_true (decide (x157.1 < a0)) with h178 | h178
            · replace h := ofT h178 h
              obtain ⟨v179, h180, h⟩ := bind_of h
              refine WO_run (j := 10) (k := 6) (orcs := [(8, .known true), (10, .known true), (12, .known true), (14, .known true), (15, .val (.dat tI v179)), (16, .known true), (19, .val (.dat .bool true))]) (kF := [0, 1, 2, 3, 11, 12, 13, 40]) (kL := [23]) (fr' := [(0, aI a0), (1, aD (.slice tI) a1), (2, aI a2), (3, aD (.slice (.arr 2 tI)) a3), (11, aI v140), (12, .one (.slc 23)), (13, aI x157.1), (40, aB (v179 == (6 : Int)))]) (L' := [(23, .seq tI x157.2)]) (obs := [((decide (x157.1 < a0)) = true), ((decide (x157.1 < a0)) = true), ((decide (x157.1 < a0)) = true), InR x157.1 (List.length x157.2), ((decide (x157.1 < a0)) = true), Idx x157.2 x157.1 v179, ((decide (x157.1 < a0)) = true), ((decide (x157.1 < a0)) = true)]) rfl (by kernel_rfl) (allP2 h178 (allP2 h178 (allP2 h178 (allP2 (InR.of h180) (allP2 h178 (allP2 (Idx.of h180) (allP2 h178 (allP1 h178)))))))) ?_
              obtain rfl := Option.some.inj h
              refine WO_fin [0, 1, 2, 3, 11, 12, 13, 40] [23] (fr' := [(0, aI a0), (1, aD (.slice tI) a1), (2, aI a2), (3, aD (.slice (.arr 2 tI)) a3), (11, aI v140), (12, .one (.slc 23)), (13, aI x157.1), (40, aB (v179 == (6 : Int)))]) (L' := [(23, .seq tI x157.2)]) (by kernel_rfl) (by kernel_rfl) ?_
              exact exQ_mk (by kernel_rfl) (by kernel_rfl)
            · replace h := ofF h178 h
              refine WO_run (j := 10) (k := 6) (orcs := [(8, .known false), (10, .known false), (12, .known false), (14, .known false), (16, .known false), (19, .val (.dat .bool false))]) (kF := [0, 1, 2, 3, 11, 12, 13, 40]) (kL := [23]) (fr' := [(0, aI a0), (1, aD (.slice tI) a1), (2, aI a2), (3, aD (.slice (.arr 2 tI)) a3), (11, aI v140), (12, .one (.slc 23)), (13, aI x157.1), (40, aB false)]) (L' := [(23, .seq tI x157.2)]) (obs := [((decide (x157.1 < a0)) = false), ((decide (x157.1 < a0)) = false), ((decide (x157.1 < a0)) = false), ((decide (x157.1 < a0)) = false), ((decide (x157.1 < a0)) = false), ((decide (x157.1 < a0)) = false)]) rfl (by kernel_rfl) (allP2 h178 (allP2 h178 (allP2 h178 (allP2 h178 (allP2 h178 (allP1 h178)))))) ?_
              obtain rfl := Option.some.inj h
              refine WO_fin [0, 1, 2, 3, 11, 12, 13, 40] [23] (fr' := [(0, aI a0), (1, aD (.slice tI) a1), (2, aI a2), (3, aD (.slice (.arr 2 tI)) a3), (11, aI v140), (12, .one (.slc 23)), (13, aI x157.1), (40, aB false)]) (L' := [(23, .seq tI x157.2)]) (by kernel_rfl) (by kernel_rfl) ?_
              exact exQ_mk (by kernel_rfl) (by kernel_rfl)
          · intro e fr L hJ
            obtain ⟨rfl, rfl, rfl⟩ := hJ
            refine LT_keep [0, 1, 2, 3, 11, 12, 13, 40] [23] (fr' := [(0, aI a0), (1, aD (.slice tI) a1), (2, aI a2), (3, aD (.slice (.arr 2 tI)) a3), (11, aI v140), (12, .one (.slc 23)), (13, aI x157.1), (40, aB v181)]) (L' := [(23, .seq tI x157.2)]) (by kernel_rfl) ?_
            refine seqQ_norm ?_
            refine W_cond (o := .tmp 40) (b := v181) (by kernel_rfl) (by kernel_rfl) (fun h183 => ?_) (fun h183 => ?_)
            · replace h := ofT h183 h
              refine W_skip [0, 1, 2, 3, 11, 12, 13] [23] (fr' := [(0, aI a0), (1, aD (.slice tI) a1), (2, aI a2), (3, aD (.slice (.arr 2 tI)) a3), (11, aI v140), (12, .one (.slc 23)), (13, aI x157.1)]) (L' := [(23, .seq tI x157.2)]) (by kernel_rfl) (by kernel_rfl) ?_
              refine seqQ_norm ?_
              refine W_seq (by kernel_rfl) ?_
              refine W_block (id := 3) (by kernel_rfl) ?_
              obtain ⟨v184, h185, h⟩ := bind_of h
              refine W_run 4 [] [0, 1, 2, 3, 11, 12, 13] [23] (fr' := [(0, aI a0), (1, aD (.slice tI) a1), (2, aI a2), (3, aD (.slice (.arr 2 tI)) a3), (11, aI v140), (12, .one (.slc 23)), (13, aI x157.1)]) (L' := [(23, .seq tI (List.set x157.2 (Int.toNat x157.1) (0 : Int)))]) (obs := [InR x157.1 (List.length x157.2), InR x157.1 (List.length x157.2)]) (by kernel_rfl) (by kernel_rfl) (by kernel_rfl) (allP2 (InR.of h185) (allP1 (InR.of h185))) ?_
              refine blockQ_norm ?_
              refine seqQ_norm ?_
              obtain rfl := Option.some.inj h
              refine W_run 3 [] [0, 1, 2, 3, 11, 12, 13] [23] (fr' := [(0, aI a0), (1, aD (.slice tI) a1), (2, aI a2), (3, aD (.slice (.arr 2 tI)) a3), (11, aI v140), (12, .one (.slc 23)), (13, aI (w64 (x157.1 + (1 : Int))))]) (L' := [(23, .seq tI (List.set x157.2 (Int.toNat x157.1) (0 : Int)))]) (obs := []) (by kernel_rfl) (by kernel_rfl) (by kernel_rfl) allP0 ?_
              exact round_next' (by kernel_rfl) (by kernel_rfl)
            · replace h := ofF h183 h
              obtain rfl := Option.some.inj h
              refine W_exit (id := 2) [0, 1, 2, 3, 11, 12, 13] [23] (fr' := [(0, aI a0), (1, aD (.slice tI) a1), (2, aI a2), (3, aD (.slice (.arr 2 tI)) a3), (11, aI v140), (12, .one (.slc 23)), (13, aI x157.1)]) (L' := [(23, .seq tI x157.2)]) (by kernel_rfl) (by kernel_rfl) ?_
              refine seqQ_exit ?_
              refine round_exit ?_
              exact exQ_mk (by kernel_rfl) (by kernel_rfl)
        · intro e fr L hJ
          obtain ⟨rfl, rfl, rfl⟩ := hJ
          refine LT_keep [0, 1, 2, 3, 11, 12, 13] [23] (fr' := [(0, aI a0), (1, aD (.slice tI) a1), (2, aI a2), (3, aD (.slice (.arr 2 tI)) a3), (11, aI v140), (12, .one (.slc 23)), (13, aI v186.1)]) (L' := [(23, .seq tI v186.2)]) (by kernel_rfl) ?_
          refine blockQ_hit ?_
          refine seqQ_norm ?_
          refine W_seq (by kernel_rfl) ?_
          refine W_seq (by kernel_rfl) ?_
          refine W_run 3 [] [0, 1, 2, 3, 11, 12, 13, 48] [23] (fr' := [(0, aI a0), (1, aD (.slice tI) a1), (2, aI a2), (3, aD (.slice (.arr 2 tI)) a3), (11, aI v140), (12, .one (.slc 23)), (13, aI v186.1), (48, aB (v186.1 == a0))]) (L' := [(23, .seq tI v186.2)]) (obs := []) (by kernel_rfl) (by kernel_rfl) (by kernel_rfl) allP0 ?_
          refine seqQ_norm ?_
          refine W_cond (o := .tmp 48) (b := v186.1 == a0) (by kernel_rfl) (by kernel_rfl) (fun h190 => ?_) (fun h190 => ?_)
          · replace h := ofT h190 h
            refine W_seq (by kernel_rfl) ?_
            refine W_run 3 [] [8, 9] [] (fr' := [(8, aI v140), (9, aI (0 : Int))]) (L' := []) (obs := []) (by kernel_rfl) (by kernel_rfl) (by kernel_rfl) allP0 ?_
            refine seqQ_norm ?_
            obtain rfl := Option.some.inj h
            refine W_ret [8, 9] [] (fr' := [(8, aI v140), (9, aI (0 : Int))]) (L' := []) (by kernel_rfl) (by kernel_rfl) ?_
            refine seqQ_ret ?_
            refine blockQ_ret ?_
            refine round_ret ?_
            exact exQ_mk (by kernel_rfl) (by kernel_rfl)
          · replace h := ofF h190 h
            refine W_skip [0, 1, 2, 3, 11, 12, 13] [23] (fr' := [(0, aI a0), (1, aD (.slice tI) a1), (2, aI a2), (3, aD (.slice (.arr 2 tI)) a3), (11, aI v140), (12, .one (.slc 23)), (13, aI v186.1)]) (L' := [(23, .seq tI v186.2)]) (by kernel_rfl) (by kernel_rfl) ?_
            refine seqQ_norm ?_
            obtain ⟨v191, h192, h⟩ := bind_of h
            obtain rfl := Option.some.inj h
            refine W_run 7 [(7, .val (.dat tI v191))] [0, 1, 2, 3, 11, 12] [23] (fr' := [(0, aI a0), (1, aD (.slice tI) a1), (2, aI a2), (3, aD (.slice (.arr 2 tI)) a3), (11, aI v140), (12, .one (.slc 23))]) (L' := [(23, .seq tI (List.set v186.2 (Int.toNat v186.1) (w64 (v191 + (1 : Int)))))]) (obs := [InR v186.1 (List.length v186.2), Idx v186.2 v186.1 v191, InR v186.1 (List.length v186.2), InR v186.1 (List.length v186.2)]) (by kernel_rfl) (by kernel_rfl) (by kernel_rfl) (allP2 (InR.of h192) (allP2 (Idx.of h192) (allP2 (InR.of h192) (allP1 (InR.of h192))))) ?_
            refine blockQ_norm ?_
            exact round_next' (by kernel_rfl) (by kernel_rfl)
    · intro e fr L hJ
      obtain ⟨rfl, rfl, rfl⟩ := hJ
      obtain rfl := Option.some.inj h
      refine LT_keep [8, 9] [] (fr' := [(8, aI v193.1), (9, aI v193.2)]) (L' := []) (by kernel_rfl) ?_
      refine blockQ_ret ?_
      exact retQ_mk (by kernel_rfl) (by kernel_rfl) (by kernel_rfl)

def ref_Within (a0 : Int) (a1 : Int) (a2 : Int) : Option Bool :=
some ((decide (a0 ≤ a1)) && (decide (a1 ≤ a2)))
theorem ref_Within_ok {a0 : Int} {a1 : Int} {a2 : Int} {r : Bool} (h : ref_Within a0 a1 a2 = some r) : FnC Try.prog 18 [aI a0, aI a1, aI a2] [] (aB r) [] := by
  refine fnC_of_W (B := bodyOf Try.f18) (n := 15) Try.func18 (by kernel_rfl) (by kernel_rfl) (by kernel_rfl) (by kernel_rfl) (by kernel_rfl) ?_
  intro K
  refine W_seq (by kernel_rfl) ?_
  refine W_run 1 [] [0, 1, 2] [] (fr' := [(0, aI a0), (1, aI a1), (2, aI a2)]) (L' := []) (obs := []) (by kernel_rfl) (by kernel_rfl) (by kernel_rfl) allP0 ?_
  refine seqQ_norm ?_
  refine W_seq (by kernel_rfl) ?_
  refine W_run 9 [] [6] [] (fr' := [(6, aB ((decide (a0 ≤ a1)) && (decide (a1 ≤ a2))))]) (L' := []) (obs := []) (by kernel_rfl) (by kernel_rfl) (by kernel_rfl) allP0 ?_
  refine seqQ_norm ?_
  obtain rfl := Option.some.inj h
  refine W_ret [6] [] (fr' := [(6, aB ((decide (a0 ≤ a1)) && (decide (a1 ≤ a2))))]) (L' := []) (by kernel_rfl) (by kernel_rfl) ?_
  exact retQ_mk (by kernel_rfl) (by kernel_rfl) (by kernel_rfl)

def ref_Inside_b1 (a0 : Int) (i11 : Int) (v14 : Int) (x12 : Unit) : Option (Flow Unit (Esc Bool Unit)) :=
bif (decide (v14 < (0 : Int))) || (decide (v14 ≥ a0)) then
(some (.done (.ret false)))
else
(some (.next ()))
@[reducible] def ref_Inside_s2 (a0 : Int) (a1 : (List Int)) (v : Int × Unit) : Fr × LL := ([(0, aI a0), (7, aD (.slice tI) a1), (8, aI (List.length a1 : Int)), (9, aI v.1)], [])
@[reducible] def ref_Inside_s3 (v : Bool) : Fr × LL := ([(4, aB v)], [])
@[reducible] def ref_Inside_s4 (v : Unit) : Fr × LL := ([], [])
def ref_Inside (a0 : Int) (a1 : (List Int)) : Option Bool :=
(forL (ref_Inside_b1 a0) (fun x12 => (.brk ())) a1 0 ()).bind fun v19 =>
match v19 with
| .ret v24 =>
(some v24)
| .brk v25 =>
(some true)
theorem ref_Inside_ok {a0 : Int} {a1 : (List Int)} {r : Bool} (h : ref_Inside a0 a1 = some r) : FnC Try.prog 11 [aI a0, aD (.slice tI) a1] [] (aB r) [] := by
  refine fnC_of_W (B := bodyOf Try.f11) (n := 21) Try.func11 (by kernel_rfl) (by kernel_rfl) (by kernel_rfl) (by kernel_rfl) (by kernel_rfl) ?_
  intro K
  refine W_seq (by kernel_rfl) ?_
  refine W_run 1 [] [0, 1] [] (fr' := [(0, aI a0), (1, aD (.slice tI) a1)]) (L' := []) (obs := []) (by kernel_rfl) (by kernel_rfl) (by kernel_rfl) allP0 ?_
  refine seqQ_norm ?_
  refine W_seq (by kernel_rfl) ?_
  refine W_seq (by kernel_rfl) ?_
  refine W_run 3 [] [0, 7, 8, 9] [] (fr' := [(0, aI a0), (7, aD (.slice tI) a1), (8, aI (List.length a1 : Int)), (9, aI (0 : Int))]) (L' := []) (obs := []) (by kernel_rfl) (by kernel_rfl) (by kernel_rfl) allP0 ?_
  refine seqQ_norm ?_
  refine W_block (id := 0) (by kernel_rfl) ?_
  obtain ⟨v19, h20, h⟩ := bind_of h
  refine W_len (t := 7) (u := tI) (xs := a1) (by kernel_rfl) (fun h23 => ?_)
  obtain ⟨h21, h22⟩ := forL_iter h23 h20
  refine W_weaken [0, 7, 8, 9] [] (fr' := ((ref_Inside_s2 a0 a1) ((0 : Int), ())).1) (L' := ((ref_Inside_s2 a0 a1) ((0 : Int), ())).2) (by kernel_rfl) ?_
  refine W_cutK (W_loop (S := (ref_Inside_s2 a0 a1)) (J := (escQ (exQ .ret ref_Inside_s3) (exQ (.exit 0) ref_Inside_s4))) (by kernel_rfl) ?_ h21 _ v19 h22) ?_
  · rintro ⟨i11, x12⟩ s h
    refine W_seq (by kernel_rfl) ?_
    refine W_run 1 [] [0, 7, 8, 9, 10] [] (fr' := [(0, aI a0), (7, aD (.slice tI) a1), (8, aI (List.length a1 : Int)), (9, aI i11), (10, aB (decide (i11 < (List.length a1 : Int))))]) (L' := []) (obs := []) (by kernel_rfl) (by kernel_rfl) (by kernel_rfl) allP0 ?_
    refine seqQ_norm ?_
    refine W_seq (by kernel_rfl) ?_
    refine W_cond (o := .tmp 10) (b := decide (i11 < (List.length a1 : Int))) (by kernel_rfl) (by kernel_rfl) (fun h16 => ?_) (fun h16 => ?_)
    · replace h := stepL_true h16 h
      obtain ⟨v14, _, h15, h, rfl⟩ := h
      refine W_skip [0, 7, 8, 9] [] (fr' := [(0, aI a0), (7, aD (.slice tI) a1), (8, aI (List.length a1 : Int)), (9, aI i11)]) (L' := []) (by kernel_rfl) (by kernel_rfl) ?_
      refine seqQ_norm ?_
      refine W_seq (by kernel_rfl) ?_
      refine W_block (id := 1) (by kernel_rfl) ?_
      refine W_seq (by kernel_rfl) ?_
      refine W_run 3 [(1, .val (.dat tI v14))] [0, 6, 7, 8, 9] [] (fr' := [(0, aI a0), (6, aI v14), (7, aD (.slice tI) a1), (8, aI (List.length a1 : Int)), (9, aI i11)]) (L' := []) (obs := [Idx a1 i11 v14]) (by kernel_rfl) (by kernel_rfl) (by kernel_rfl) (allP1 (Idx.of h15)) ?_
      refine seqQ_norm ?_
      refine W_seq (by kernel_rfl) ?_
      refine W_run 7 [] [0, 7, 8, 9, 19] [] (fr' := [(0, aI a0), (7, aD (.slice tI) a1), (8, aI (List.length a1 : Int)), (9, aI i11), (19, aB ((decide (v14 < (0 : Int))) || (decide (v14 ≥ a0))))]) (L' := []) (obs := []) (by kernel_rfl) (by kernel_rfl) (by kernel_rfl) allP0 ?_
      refine seqQ_norm ?_
      refine W_cond (o := .tmp 19) (b := (decide (v14 < (0 : Int))) || (decide (v14 ≥ a0))) (by kernel_rfl) (by kernel_rfl) (fun h17 => ?_) (fun h17 => ?_)
      · replace h := ofT h17 h
        refine W_seq (by kernel_rfl) ?_
        refine W_run 1 [] [4] [] (fr' := [(4, aB false)]) (L' := []) (obs := []) (by kernel_rfl) (by kernel_rfl) (by kernel_rfl) allP0 ?_
        refine seqQ_norm ?_
        obtain rfl := Option.some.inj h
        refine W_ret [4] [] (fr' := [(4, aB false)]) (L' := []) (by kernel_rfl) (by kernel_rfl) ?_
        refine blockQ_ret ?_
        refine seqQ_ret ?_
        refine round_ret ?_
        refine escQ_ret ?_
        exact exQ_mk (by kernel_rfl) (by kernel_rfl)
      · replace h := ofF h17 h
        refine W_skip [0, 7, 8, 9] [] (fr' := [(0, aI a0), (7, aD (.slice tI) a1), (8, aI (List.length a1 : Int)), (9, aI i11)]) (L' := []) (by kernel_rfl) (by kernel_rfl) ?_
        refine blockQ_norm ?_
        refine seqQ_norm ?_
        obtain rfl := Option.some.inj h
        refine W_run 2 [] [0, 7, 8, 9] [] (fr' := [(0, aI a0), (7, aD (.slice tI) a1), (8, aI (List.length a1 : Int)), (9, aI (w64 (i11 + (1 : Int))))]) (L' := []) (obs := []) (by kernel_rfl) (by kernel_rfl) (by kernel_rfl) allP0 ?_
        exact round_next' (by kernel_rfl) (by kernel_rfl)
    · obtain rfl := stepL_false h16 h
      refine W_exit (id := 0) [] [] (fr' := []) (L' := []) (by kernel_rfl) (by kernel_rfl) ?_
      refine seqQ_exit ?_
      refine round_exit ?_
      refine escQ_brk ?_
      exact exQ_mk (by kernel_rfl) (by kernel_rfl)
  · intro e fr L hJ
    rcases v19 with v24 | v25
    · obtain ⟨rfl, rfl, rfl⟩ := hJ
      obtain rfl := Option.some.inj h
      refine LT_keep [4] [] (fr' := [(4, aB v24)]) (L' := []) (by kernel_rfl) ?_
      refine blockQ_ret ?_
      refine seqQ_ret ?_
      exact retQ_mk (by kernel_rfl) (by kernel_rfl) (by kernel_rfl)
    · obtain ⟨rfl, rfl, rfl⟩ := hJ
      refine LT_keep [] [] (fr' := []) (L' := []) (by kernel_rfl) ?_
      refine blockQ_hit ?_
      refine seqQ_norm ?_
      refine W_seq (by kernel_rfl) ?_
      refine W_run 1 [] [4] [] (fr' := [(4, aB true)]) (L' := []) (obs := []) (by kernel_rfl) (by kernel_rfl) (by kernel_rfl) allP0 ?_
      refine seqQ_norm ?_
      obtain rfl := Option.some.inj h
      refine W_ret [4] [] (fr' := [(4, aB true)]) (L' := []) (by kernel_rfl) (by kernel_rfl) ?_
      exact retQ_mk (by kernel_rfl) (by kernel_rfl) (by kernel_rfl)

def ref_SumCheck (a0 : Int) (a1 : (List Int)) : Option Int :=
(ref_Within (1 : Int) a0 (4 : Int)).bind fun r1 =>
bif !r1 then
(some (1 : Int))
else
((ck (0 ≤ IntKind.wrap .u64 (a0))).bind fun _ =>
bif (List.length a1 : Int) != (bShl .i64 (1 : Int) (IntKind.wrap .u64 (a0))) then
(some (3 : Int))
else
((ref_Inside (7 : Int) a1).bind fun r6 =>
bif !r6 then
(some (4 : Int))
else
(some (0 : Int))))
theorem ref_SumCheck_ok {a0 : Int} {a1 : (List Int)} {r : Int} (h : ref_SumCheck a0 a1 = some r) : FnC Try.prog 34 [aI a0, aD (.slice tI) a1] [] (aI r) [] := by
  refine fnC_of_W (B := bodyOf Try.f34) (n := 17) Try.func34 (by kernel_rfl) (by kernel_rfl) (by kernel_rfl) (by kernel_rfl) (by kernel_rfl) ?_
  intro K
  refine W_seq (by kernel_rfl) ?_
  refine W_run 1 [] [0, 1] [] (fr' := [(0, aI a0), (1, aD (.slice tI) a1)]) (L' := []) (obs := []) (by kernel_rfl) (by kernel_rfl) (by kernel_rfl) allP0 ?_
  refine seqQ_norm ?_
  refine W_seq (by kernel_rfl) ?_
  refine W_seq (by kernel_rfl) ?_
  refine W_region (by kernel_rfl) ?_
  refine WO_run (j := 1) (k := 1) (orcs := []) (kF := [0, 1, 5]) (kL := []) (fr' := [(0, aI a0), (1, aD (.slice tI) a1), (5, aI a0)]) (L' := []) (obs := []) rfl (by kernel_rfl) allP0 ?_
  obtain ⟨r1, h2, h⟩ := bind_of h
  refine WO_call0 (us := [none, none, none]) (d := 6) (p := True) (j := 2) rfl ⟨by kernel_rfl, by kernel_rfl, by kernel_rfl⟩ trivial (ref_Within_ok h2) (by kernel_rfl) ?_
  refine WO_run (j := 3) (k := 1) (orcs := []) (kF := [0, 1, 7]) (kL := []) (fr' := [(0, aI a0), (1, aD (.slice tI) a1), (7, aB (!r1))]) (L' := []) (obs := []) rfl (by kernel_rfl) allP0 ?_
  refine WO_fin [0, 1, 7] [] (fr' := [(0, aI a0), (1, aD (.slice tI) a1), (7, aB (!r1))]) (L' := []) (by kernel_rfl) (by kernel_rfl) ?_
  refine seqQ_norm ?_
  refine W_cond (o := .tmp 7) (b := !r1) (by kernel_rfl) (by kernel_rfl) (fun h3 => ?_) (fun h3 => ?_)
  · replace h := ofT h3 h
    refine W_seq (by kernel_rfl) ?_
    refine W_run 1 [] [4] [] (fr' := [(4, aI (1 : Int))]) (L' := []) (obs := []) (by kernel_rfl) (by kernel_rfl) (by kernel_rfl) allP0 ?_
    refine seqQ_norm ?_
    obtain rfl := Option.some.inj h
    refine W_ret [4] [] (fr' := [(4, aI (1 : Int))]) (L' := []) (by kernel_rfl) (by kernel_rfl) ?_
    refine seqQ_ret ?_
    exact retQ_mk (by kernel_rfl) (by kernel_rfl) (by kernel_rfl)
  · replace h := ofF h3 h
    refine W_skip [0, 1] [] (fr' := [(0, aI a0), (1, aD (.slice tI) a1)]) (L' := []) (by kernel_rfl) (by kernel_rfl) ?_
    refine seqQ_norm ?_
    refine W_seq (by kernel_rfl) ?_
    refine W_seq (by kernel_rfl) ?_
    obtain ⟨_, h4, h⟩ := bind_of h
    replace h4 := ck_some h4
    refine W_run 6 [] [1, 13] [] (fr' := [(1, aD (.slice tI) a1), (13, aB ((List.length a1 : Int) != (bShl .i64 (1 : Int) (IntKind.wrap .u64 (a0)))))]) (L' := []) (obs := [(0 ≤ IntKind.wrap .u64 (a0))]) (by kernel_rfl) (by kernel_rfl) (by kernel_rfl) (allP1 h4) ?_
    refine seqQ_norm ?_
    refine W_cond (o := .tmp 13) (b := (List.length a1 : Int) != (bShl .i64 (1 : Int) (IntKind.wrap .u64 (a0)))) (by kernel_rfl) (by kernel_rfl) (fun h5 => ?_) (fun h5 => ?_)
    · replace h := ofT h5 h
      refine W_seq (by kernel_rfl) ?_
      refine W_run 1 [] [4] [] (fr' := [(4, aI (3 : Int))]) (L' := []) (obs := []) (by kernel_rfl) (by kernel_rfl) (by kernel_rfl) allP0 ?_
      refine seqQ_norm ?_
      obtain rfl := Option.some.inj h
      refine W_ret [4] [] (fr' := [(4, aI (3 : Int))]) (L' := []) (by kernel_rfl) (by kernel_rfl) ?_
      refine seqQ_ret ?_
      exact retQ_mk (by kernel_rfl) (by kernel_rfl) (by kernel_rfl)
    · replace h := ofF h5 h
      refine W_skip [1] [] (fr' := [(1, aD (.slice tI) a1)]) (L' := []) (by kernel_rfl) (by kernel_rfl) ?_
      refine seqQ_norm ?_
      refine W_seq (by kernel_rfl) ?_
      refine W_seq (by kernel_rfl) ?_
      refine W_region (by kernel_rfl) ?_
      refine WO_run (j := 1) (k := 1) (orcs := []) (kF := [14]) (kL := []) (fr' := [(14, aD (.slice tI) a1)]) (L' := []) (obs := []) rfl (by kernel_rfl) allP0 ?_
      obtain ⟨r6, h7, h⟩ := bind_of h
      refine WO_call0 (us := [none, none]) (d := 15) (p := True) (j := 2) rfl ⟨by kernel_rfl, by kernel_rfl, by kernel_rfl⟩ trivial (ref_Inside_ok h7) (by kernel_rfl) ?_
      refine WO_run (j := 3) (k := 1) (orcs := []) (kF := [16]) (kL := []) (fr' := [(16, aB (!r6))]) (L' := []) (obs := []) rfl (by kernel_rfl) allP0 ?_
      refine WO_fin [16] [] (fr' := [(16, aB (!r6))]) (L' := []) (by kernel_rfl) (by kernel_rfl) ?_
      refine seqQ_norm ?_
      refine W_cond (o := .tmp 16) (b := !r6) (by kernel_rfl) (by kernel_rfl) (fun h8 => ?_) (fun h8 => ?_)
      · replace h := ofT h8 h
        refine W_seq (by kernel_rfl) ?_
        refine W_run 1 [] [4] [] (fr' := [(4, aI (4 : Int))]) (L' := []) (obs := []) (by kernel_rfl) (by kernel_rfl) (by kernel_rfl) allP0 ?_
        refine seqQ_norm ?_
        obtain rfl := Option.some.inj h
        refine W_ret [4] [] (fr' := [(4, aI (4 : Int))]) (L' := []) (by kernel_rfl) (by kernel_rfl) ?_
        refine seqQ_ret ?_
        exact retQ_mk (by kernel_rfl) (by kernel_rfl) (by kernel_rfl)
      · replace h := ofF h8 h
        refine W_skip [] [] (fr' := []) (L' := []) (by kernel_rfl) (by kernel_rfl) ?_
        refine seqQ_norm ?_
        refine W_seq (by kernel_rfl) ?_
        refine W_run 1 [] [4] [] (fr' := [(4, aI (0 : Int))]) (L' := []) (obs := []) (by kernel_rfl) (by kernel_rfl) (by kernel_rfl) allP0 ?_
        refine seqQ_norm ?_
        obtain rfl := Option.some.inj h
        refine W_ret [4] [] (fr' := [(4, aI (0 : Int))]) (L' := []) (by kernel_rfl) (by kernel_rfl) ?_
        exact retQ_mk (by kernel_rfl) (by kernel_rfl) (by kernel_rfl)

def ref_SaidCheck_b1 (i29 : Int) (v32 : (List Int)) (x30 : Unit) : Option (Flow Unit (Esc Int Unit)) :=
(idx v32 (0 : Int)).bind fun v35 =>
(idx v32 (1 : Int)).bind fun v37 =>
(ref_Inside (7 : Int) [v35, v37]).bind fun r39 =>
bif !r39 then
(some (.done (.ret (4 : Int))))
else
(some (.next ()))
@[reducible] def ref_SaidCheck_s2 (a0 : Int) (a3 : (List (List Int))) (v : Int × Unit) : Fr × LL := ([(0, aI a0), (3, aD (.slice (.arr 2 tI)) a3), (22, aD (.slice (.arr 2 tI)) a3), (23, aI (List.length a3 : Int)), (24, aI v.1)], [])
@[reducible] def ref_SaidCheck_s3 (v : Int) : Fr × LL := ([(8, aI v)], [])
@[reducible] def ref_SaidCheck_s4 (a0 : Int) (a3 : (List (List Int))) (v : Unit) : Fr × LL := ([(0, aI a0), (3, aD (.slice (.arr 2 tI)) a3)], [])
def ref_SaidCheck (a0 : Int) (a1 : (List Int)) (a2 : Int) (a3 : (List (List Int))) : Option Int :=
(ref_SumCheck a0 a1).bind fun r1 =>
bif r1 != (0 : Int) then
(some r1)
else
((ref_Inside (7 : Int) [a2]).bind fun r4 =>
bif !r4 then
(some (4 : Int))
else
((forL ref_SaidCheck_b1 (fun x30 => (.brk ())) a3 0 ()).bind fun v43 =>
match v43 with
| .ret v48 =>
(some v48)
| .brk v49 =>
(bif (List.length a3 : Int) != a0 then
(some (3 : Int))
else
(some (0 : Int)))))
theorem ref_SaidCheck_ok {a0 : Int} {a1 : (List Int)} {a2 : Int} {a3 : (List (List Int))} {r : Int} (h : ref_SaidCheck a0 a1 a2 a3 = some r) : FnC Try.prog 10 [aI a0, aD (.slice tI) a1, aI a2, aD (.slice (.arr 2 tI)) a3] [] (aI r) [] := by
  refine fnC_of_W (B := bodyOf Try.f10) (n := 40) Try.func10 (by kernel_rfl) (by kernel_rfl) (by kernel_rfl) (by kernel_rfl) (by kernel_rfl) ?_
  intro K
  refine W_seq (by kernel_rfl) ?_
  refine W_run 1 [] [0, 1, 2, 3] [] (fr' := [(0, aI a0), (1, aD (.slice tI) a1), (2, aI a2), (3, aD (.slice (.arr 2 tI)) a3)]) (L' := []) (obs := []) (by kernel_rfl) (by kernel_rfl) (by kernel_rfl) allP0 ?_
  refine seqQ_norm ?_
  refine W_seq (by kernel_rfl) ?_
  refine W_region (by kernel_rfl) ?_
  refine WO_run (j := 2) (k := 2) (orcs := []) (kF := [0, 2, 3, 12, 13]) (kL := []) (fr' := [(0, aI a0), (2, aI a2), (3, aD (.slice (.arr 2 tI)) a3), (12, aI a0), (13, aD (.slice tI) a1)]) (L' := []) (obs := []) rfl (by kernel_rfl) allP0 ?_
  obtain ⟨r1, h2, h⟩ := bind_of h
  refine WO_call0 (us := [none, none]) (d := 14) (p := True) (j := 3) rfl ⟨by kernel_rfl, by kernel_rfl, by kernel_rfl⟩ trivial (ref_SumCheck_ok h2) (by kernel_rfl) ?_
  refine WO_run (j := 4) (k := 1) (orcs := []) (kF := [0, 2, 3, 9]) (kL := []) (fr' := [(0, aI a0), (2, aI a2), (3, aD (.slice (.arr 2 tI)) a3), (9, aI r1)]) (L' := []) (obs := []) rfl (by kernel_rfl) allP0 ?_
  refine WO_fin [0, 2, 3, 9] [] (fr' := [(0, aI a0), (2, aI a2), (3, aD (.slice (.arr 2 tI)) a3), (9, aI r1)]) (L' := []) (by kernel_rfl) (by kernel_rfl) ?_
  refine seqQ_norm ?_
  refine W_seq (by kernel_rfl) ?_
  refine W_seq (by kernel_rfl) ?_
  refine W_run 2 [] [0, 2, 3, 9, 16] [] (fr' := [(0, aI a0), (2, aI a2), (3, aD (.slice (.arr 2 tI)) a3), (9, aI r1), (16, aB (r1 != (0 : Int)))]) (L' := []) (obs := []) (by kernel_rfl) (by kernel_rfl) (by kernel_rfl) allP0 ?_
  refine seqQ_norm ?_
  refine W_cond (o := .tmp 16) (b := r1 != (0 : Int)) (by kernel_rfl) (by kernel_rfl) (fun h3 => ?_) (fun h3 => ?_)
  · replace h := ofT h3 h
    refine W_seq (by kernel_rfl) ?_
    refine W_run 2 [] [8] [] (fr' := [(8, aI r1)]) (L' := []) (obs := []) (by kernel_rfl) (by kernel_rfl) (by kernel_rfl) allP0 ?_
    refine seqQ_norm ?_
    obtain rfl := Option.some.inj h
    refine W_ret [8] [] (fr' := [(8, aI r1)]) (L' := []) (by kernel_rfl) (by kernel_rfl) ?_
    refine seqQ_ret ?_
    exact retQ_mk (by kernel_rfl) (by kernel_rfl) (by kernel_rfl)
  · replace h := ofF h3 h
    refine W_skip [0, 2, 3] [] (fr' := [(0, aI a0), (2, aI a2), (3, aD (.slice (.arr 2 tI)) a3)]) (L' := []) (by kernel_rfl) (by kernel_rfl) ?_
    refine seqQ_norm ?_
    refine W_seq (by kernel_rfl) ?_
    refine W_seq (by kernel_rfl) ?_
    refine W_region (by kernel_rfl) ?_
    refine WO_run (j := 2) (k := 2) (orcs := []) (kF := [0, 3, 19]) (kL := [19]) (fr' := [(0, aI a0), (3, aD (.slice (.arr 2 tI)) a3), (19, .one (.slc 19))]) (L' := [(19, .seq tI [a2])]) (obs := []) rfl (by kernel_rfl) allP0 ?_
    obtain ⟨r4, h5, h⟩ := bind_of h
    refine WO_frz 19 (by kernel_rfl) ?_
    refine WO_call0 (us := [none, none]) (d := 20) (p := True) (j := 3) rfl ⟨by kernel_rfl, by kernel_rfl, by kernel_rfl⟩ trivial (ref_Inside_ok h5) (by kernel_rfl) ?_
    refine WO_run (j := 4) (k := 1) (orcs := []) (kF := [0, 3, 21]) (kL := []) (fr' := [(0, aI a0), (3, aD (.slice (.arr 2 tI)) a3), (21, aB (!r4))]) (L' := []) (obs := []) rfl (by kernel_rfl) allP0 ?_
    refine WO_fin [0, 3, 21] [] (fr' := [(0, aI a0), (3, aD (.slice (.arr 2 tI)) a3), (21, aB (!r4))]) (L' := []) (by kernel_rfl) (by kernel_rfl) ?_
    refine seqQ_norm ?_
    refine W_cond (o := .tmp 21) (b := !r4) (by kernel_rfl) (by kernel_rfl) (fun h6 => ?_) (fun h6 => ?_)
    · replace h := ofT h6 h
      refine W_seq (by kernel_rfl) ?_
      refine W_run 1 [] [8] [] (fr' := [(8, aI (4 : Int))]) (L' := []) (obs := []) (by kernel_rfl) (by kernel_rfl) (by kernel_rfl) allP0 ?_
      refine seqQ_norm ?_
      obtain rfl := Option.some.inj h
      refine W_ret [8] [] (fr' := [(8, aI (4 : Int))]) (L' := []) (by kernel_rfl) (by kernel_rfl) ?_
      refine seqQ_ret ?_
      exact retQ_mk (by kernel_rfl) (by kernel_rfl) (by kernel_rfl)
    · replace h := ofF h6 h
      refine W_skip [0, 3] [] (fr' := [(0, aI a0), (3, aD (.slice (.arr 2 tI)) a3)]) (L' := []) (by kernel_rfl) (by kernel_rfl) ?_
      refine seqQ_norm ?_
      refine W_seq (by kernel_rfl) ?_
      refine W_seq (by kernel_rfl) ?_
      refine W_run 3 [] [0, 3, 22, 23, 24] [] (fr' := [(0, aI a0), (3, aD (.slice (.arr 2 tI)) a3), (22, aD (.slice (.arr 2 tI)) a3), (23, aI (List.length a3 : Int)), (24, aI (0 : Int))]) (L' := []) (obs := []) (by kernel_rfl) (by kernel_rfl) (by kernel_rfl) allP0 ?_
      refine seqQ_norm ?_
      refine W_block (id := 0) (by kernel_rfl) ?_
      obtain ⟨v43, h44, h⟩ := bind_of h
      refine W_len (t := 22) (u := (.arr 2 tI)) (xs := a3) (by kernel_rfl) (fun h47 => ?_)
      obtain ⟨h45, h46⟩ := forL_iter h47 h44
      refine W_weaken [0, 3, 22, 23, 24] [] (fr' := ((ref_SaidCheck_s2 a0 a3) ((0 : Int), ())).1) (L' := ((ref_SaidCheck_s2 a0 a3) ((0 : Int), ())).2) (by kernel_rfl) ?_
      refine W_cutK (W_loop (S := (ref_SaidCheck_s2 a0 a3)) (J := (escQ (exQ .ret ref_SaidCheck_s3) (exQ (.exit 0) (ref_SaidCheck_s4 a0 a3)))) (by kernel_rfl) ?_ h45 _ v43 h46) ?_
      · rintro ⟨i29, x30⟩ s h
        refine W_seq (by kernel_rfl) ?_
        refine W_run 1 [] [0, 3, 22, 23, 24, 25] [] (fr' := [(0, aI a0), (3, aD (.slice (.arr 2 tI)) a3), (22, aD (.slice (.arr 2 tI)) a3), (23, aI (List.length a3 : Int)), (24, aI i29), (25, aB (decide (i29 < (List.length a3 : Int))))]) (L' := []) (obs := []) (by kernel_rfl) (by kernel_rfl) (by kernel_rfl) allP0 ?_
        refine seqQ_norm ?_
        refine W_seq (by kernel_rfl) ?_
        refine W_cond (o := .tmp 25) (b := decide (i29 < (List.length a3 : Int))) (by kernel_rfl) (by kernel_rfl) (fun h34 => ?_) (fun h34 => ?_)
        · replace h := stepL_true h34 h
          obtain ⟨v32, _, h33, h, rfl⟩ := h
          refine W_skip [0, 3, 22, 23, 24] [] (fr' := [(0, aI a0), (3, aD (.slice (.arr 2 tI)) a3), (22, aD (.slice (.arr 2 tI)) a3), (23, aI (List.length a3 : Int)), (24, aI i29)]) (L' := []) (by kernel_rfl) (by kernel_rfl) ?_
          refine seqQ_norm ?_
          refine W_seq (by kernel_rfl) ?_
          refine W_block (id := 1) (by kernel_rfl) ?_
          refine W_seq (by kernel_rfl) ?_
          refine W_run 4 [(1, .val (.dat (.arr 2 tI) v32)), (5, .typed)] [0, 3, 11, 22, 23, 24] [11] (fr' := [(0, aI a0), (3, aD (.slice (.arr 2 tI)) a3), (11, .one (.ptr 11 0)), (22, aD (.slice (.arr 2 tI)) a3), (23, aI (List.length a3 : Int)), (24, aI i29)]) (L' := [(11, .one (.arr 2 tI) v32)]) (obs := [Idx a3 i29 v32, True]) (by kernel_rfl) (by kernel_rfl) (by kernel_rfl) (allP2 (Idx.of h33) (allP1 trivial)) ?_
          refine seqQ_norm ?_
          refine W_seq (by kernel_rfl) ?_
          obtain ⟨v35, h36, h⟩ := bind_of h
          obtain ⟨v37, h38, h⟩ := bind_of h
          refine W_region (by kernel_rfl) ?_
          refine WO_run (j := 5) (k := 5) (orcs := [(3, .val (.dat tI v35)), (7, .val (.dat tI v37))]) (kF := [0, 3, 22, 23, 24, 32]) (kL := [11, 32]) (fr' := [(0, aI a0), (3, aD (.slice (.arr 2 tI)) a3), (22, aD (.slice (.arr 2 tI)) a3), (23, aI (List.length a3 : Int)), (24, aI i29), (32, .one (.slc 32))]) (L' := [(11, .one (.arr 2 tI) v32), (32, .seq tI [v35, v37])]) (obs := [InR (0 : Int) 2, Idx v32 (0 : Int) v35, InR (1 : Int) 2, Idx v32 (1 : Int) v37]) rfl (by kernel_rfl) (allP2 (by unfold InR; decide) (allP2 (Idx.of h36) (allP2 (by unfold InR; decide) (allP1 (Idx.of h38))))) ?_
          obtain ⟨r39, h40, h⟩ := bind_of h
          refine WO_frz 32 (by kernel_rfl) ?_
          refine WO_call0 (us := [none, none]) (d := 33) (p := True) (j := 6) rfl ⟨by kernel_rfl, by kernel_rfl, by kernel_rfl⟩ trivial (ref_Inside_ok h40) (by kernel_rfl) ?_
          refine WO_run (j := 7) (k := 1) (orcs := []) (kF := [0, 3, 22, 23, 24, 34]) (kL := [11]) (fr' := [(0, aI a0), (3, aD (.slice (.arr 2 tI)) a3), (22, aD (.slice (.arr 2 tI)) a3), (23, aI (List.length a3 : Int)), (24, aI i29), (34, aB (!r39))]) (L' := [(11, .one (.arr 2 tI) v32)]) (obs := []) rfl (by kernel_rfl) allP0 ?_
          refine WO_fin [0, 3, 22, 23, 24, 34] [] (fr' := [(0, aI a0), (3, aD (.slice (.arr 2 tI)) a3), (22, aD (.slice (.arr 2 tI)) a3), (23, aI (List.length a3 : Int)), (24, aI i29), (34, aB (!r39))]) (L' := []) (by kernel_rfl) (by kernel_rfl) ?_
          refine seqQ_norm ?_
          refine W_cond (o := .tmp 34) (b := !r39) (by kernel_rfl) (by kernel_rfl) (fun h41 => ?_) (fun h41 => ?_)
          · replace h := ofT h41 h
            refine W_seq (by kernel_rfl) ?_
            refine W_run 1 [] [8] [] (fr' := [(8, aI (4 : Int))]) (L' := []) (obs := []) (by kernel_rfl) (by kernel_rfl) (by kernel_rfl) allP0 ?_
            refine seqQ_norm ?_
            obtain rfl := Option.some.inj h
            refine W_ret [8] [] (fr' := [(8, aI (4 : Int))]) (L' := []) (by kernel_rfl) (by kernel_rfl) ?_
            refine blockQ_ret ?_
            refine seqQ_ret ?_
            refine round_ret ?_
            refine escQ_ret ?_
            exact exQ_mk (by kernel_rfl) (by kernel_rfl)
          · replace h := ofF h41 h
            refine W_skip [0, 3, 22, 23, 24] [] (fr' := [(0, aI a0), (3, aD (.slice (.arr 2 tI)) a3), (22, aD (.slice (.arr 2 tI)) a3), (23, aI (List.length a3 : Int)), (24, aI i29)]) (L' := []) (by kernel_rfl) (by kernel_rfl) ?_
            refine blockQ_norm ?_
            refine seqQ_norm ?_
            obtain rfl := Option.some.inj h
            refine W_run 2 [] [0, 3, 22, 23, 24] [] (fr' := [(0, aI a0), (3, aD (.slice (.arr 2 tI)) a3), (22, aD (.slice (.arr 2 tI)) a3), (23, aI (List.length a3 : Int)), (24, aI (w64 (i29 + (1 : Int))))]) (L' := []) (obs := []) (by kernel_rfl) (by kernel_rfl) (by kernel_rfl) allP0 ?_
            exact round_next' (by kernel_rfl) (by kernel_rfl)
        · obtain rfl := stepL_false h34 h
          refine W_exit (id := 0) [0, 3] [] (fr' := [(0, aI a0), (3, aD (.slice (.arr 2 tI)) a3)]) (L' := []) (by kernel_rfl) (by kernel_rfl) ?_
          refine seqQ_exit ?_
          refine round_exit ?_
          refine escQ_brk ?_
          exact exQ_mk (by kernel_rfl) (by kernel_rfl)
      · intro e fr L hJ
        rcases v43 with v48 | v49
        · obtain ⟨rfl, rfl, rfl⟩ := hJ
          obtain rfl := Option.some.inj h
          refine LT_keep [8] [] (fr' := [(8, aI v48)]) (L' := []) (by kernel_rfl) ?_
          refine blockQ_ret ?_
          refine seqQ_ret ?_
          exact retQ_mk (by kernel_rfl) (by kernel_rfl) (by kernel_rfl)
        · obtain ⟨rfl, rfl, rfl⟩ := hJ
          refine LT_keep [0, 3] [] (fr' := [(0, aI a0), (3, aD (.slice (.arr 2 tI)) a3)]) (L' := []) (by kernel_rfl) ?_
          refine blockQ_hit ?_
          refine seqQ_norm ?_
          refine W_seq (by kernel_rfl) ?_
          refine W_seq (by kernel_rfl) ?_
          refine W_run 4 [] [39] [] (fr' := [(39, aB ((List.length a3 : Int) != a0))]) (L' := []) (obs := []) (by kernel_rfl) (by kernel_rfl) (by kernel_rfl) allP0 ?_
          refine seqQ_norm ?_
          refine W_cond (o := .tmp 39) (b := (List.length a3 : Int) != a0) (by kernel_rfl) (by kernel_rfl) (fun h50 => ?_) (fun h50 => ?_)
          · replace h := ofT h50 h
            refine W_seq (by kernel_rfl) ?_
            refine W_run 1 [] [8] [] (fr' := [(8, aI (3 : Int))]) (L' := []) (obs := []) (by kernel_rfl) (by kernel_rfl) (by kernel_rfl) allP0 ?_
            refine seqQ_norm ?_
            obtain rfl := Option.some.inj h
            refine W_ret [8] [] (fr' := [(8, aI (3 : Int))]) (L' := []) (by kernel_rfl) (by kernel_rfl) ?_
            refine seqQ_ret ?_
            exact retQ_mk (by kernel_rfl) (by kernel_rfl) (by kernel_rfl)
          · replace h := ofF h50 h
            refine W_skip [] [] (fr' := []) (L' := []) (by kernel_rfl) (by kernel_rfl) ?_
            refine seqQ_norm ?_
            refine W_seq (by kernel_rfl) ?_
            refine W_run 1 [] [8] [] (fr' := [(8, aI (0 : Int))]) (L' := []) (obs := []) (by kernel_rfl) (by kernel_rfl) (by kernel_rfl) allP0 ?_
            refine seqQ_norm ?_
            obtain rfl := Option.some.inj h
            refine W_ret [8] [] (fr' := [(8, aI (0 : Int))]) (L' := []) (by kernel_rfl) (by kernel_rfl) ?_
            exact retQ_mk (by kernel_rfl) (by kernel_rfl) (by kernel_rfl)

def ref_Power_b1 (a0 : Int) (i5 : Int) (x6 : Int) : Option (Flow Int Int) :=
some (.next (w64 (x6 * a0)))
@[reducible] def ref_Power_s2 (a0 : Int) (a1 : Int) (v : Int × Int) : Fr × LL := ([(0, aI a0), (1, aI a1), (5, aI v.2), (6, aI v.1)], [])
@[reducible] def ref_Power_s3 (v : Int) : Fr × LL := ([(5, aI v)], [])
def ref_Power (a0 : Int) (a1 : Int) : Option Int :=
(forI (0 : Int) a1 (ref_Power_b1 a0) (fun x6 => x6) (1 : Int)).bind fun v10 =>
some v10
theorem ref_Power_ok {a0 : Int} {a1 : Int} {r : Int} (h : ref_Power a0 a1 = some r) : FnC Try.prog 14 [aI a0, aI a1] [] (aI r) [] := by
  refine fnC_of_W (B := bodyOf Try.f14) (n := 16) Try.func14 (by kernel_rfl) (by kernel_rfl) (by kernel_rfl) (by kernel_rfl) (by kernel_rfl) ?_
  intro K
  refine W_seq (by kernel_rfl) ?_
  refine W_run 1 [] [0, 1] [] (fr' := [(0, aI a0), (1, aI a1)]) (L' := []) (obs := []) (by kernel_rfl) (by kernel_rfl) (by kernel_rfl) allP0 ?_
  refine seqQ_norm ?_
  refine W_seq (by kernel_rfl) ?_
  refine W_run 1 [] [0, 1, 5] [] (fr' := [(0, aI a0), (1, aI a1), (5, aI (1 : Int))]) (L' := []) (obs := []) (by kernel_rfl) (by kernel_rfl) (by kernel_rfl) allP0 ?_
  refine seqQ_norm ?_
  refine W_seq (by kernel_rfl) ?_
  refine W_seq (by kernel_rfl) ?_
  refine W_run 1 [] [0, 1, 5, 6] [] (fr' := [(0, aI a0), (1, aI a1), (5, aI (1 : Int)), (6, aI (0 : Int))]) (L' := []) (obs := []) (by kernel_rfl) (by kernel_rfl) (by kernel_rfl) allP0 ?_
  refine seqQ_norm ?_
  refine W_block (id := 0) (by kernel_rfl) ?_
  obtain ⟨v10, h11, h⟩ := bind_of h
  obtain ⟨h12, h13⟩ := forI_iter h11
  refine W_weaken [0, 1, 5, 6] [] (fr' := ((ref_Power_s2 a0 a1) ((0 : Int), (1 : Int))).1) (L' := ((ref_Power_s2 a0 a1) ((0 : Int), (1 : Int))).2) (by kernel_rfl) ?_
  refine W_cutK (W_loop (S := (ref_Power_s2 a0 a1)) (J := (exQ (.exit 0) ref_Power_s3)) (by kernel_rfl) ?_ h12 _ v10 h13) ?_
  · rintro ⟨i5, x6⟩ s h
    refine W_seq (by kernel_rfl) ?_
    refine W_seq (by kernel_rfl) ?_
    refine W_run 3 [] [0, 1, 5, 6, 9] [] (fr' := [(0, aI a0), (1, aI a1), (5, aI x6), (6, aI i5), (9, aB (decide (i5 < a1)))]) (L' := []) (obs := []) (by kernel_rfl) (by kernel_rfl) (by kernel_rfl) allP0 ?_
    refine seqQ_norm ?_
    refine W_cond (o := .tmp 9) (b := decide (i5 < a1)) (by kernel_rfl) (by kernel_rfl) (fun h8 => ?_) (fun h8 => ?_)
    · replace h := stepI_true h8 h
      obtain ⟨_, h, rfl⟩ := h
      refine W_skip [0, 1, 5, 6] [] (fr' := [(0, aI a0), (1, aI a1), (5, aI x6), (6, aI i5)]) (L' := []) (by kernel_rfl) (by kernel_rfl) ?_
      refine seqQ_norm ?_
      refine W_seq (by kernel_rfl) ?_
      refine W_block (id := 1) (by kernel_rfl) ?_
      refine W_run 4 [] [0, 1, 5, 6] [] (fr' := [(0, aI a0), (1, aI a1), (5, aI (w64 (x6 * a0))), (6, aI i5)]) (L' := []) (obs := []) (by kernel_rfl) (by kernel_rfl) (by kernel_rfl) allP0 ?_
      refine blockQ_norm ?_
      refine seqQ_norm ?_
      obtain rfl := Option.some.inj h
      refine W_run 3 [] [0, 1, 5, 6] [] (fr' := [(0, aI a0), (1, aI a1), (5, aI (w64 (x6 * a0))), (6, aI (w64 (i5 + (1 : Int))))]) (L' := []) (obs := []) (by kernel_rfl) (by kernel_rfl) (by kernel_rfl) allP0 ?_
      exact round_next' (by kernel_rfl) (by kernel_rfl)
    · obtain rfl := stepI_false h8 h
      refine W_exit (id := 0) [5] [] (fr' := [(5, aI x6)]) (L' := []) (by kernel_rfl) (by kernel_rfl) ?_
      refine seqQ_exit ?_
      refine round_exit ?_
      exact exQ_mk (by kernel_rfl) (by kernel_rfl)
  · intro e fr L hJ
    obtain ⟨rfl, rfl, rfl⟩ := hJ
    refine LT_keep [5] [] (fr' := [(5, aI v10)]) (L' := []) (by kernel_rfl) ?_
    refine blockQ_hit ?_
    refine seqQ_norm ?_
    refine W_seq (by kernel_rfl) ?_
    refine W_run 2 [] [4] [] (fr' := [(4, aI v10)]) (L' := []) (obs := []) (by kernel_rfl) (by kernel_rfl) (by kernel_rfl) allP0 ?_
    refine seqQ_norm ?_
    obtain rfl := Option.some.inj h
    refine W_ret [4] [] (fr' := [(4, aI v10)]) (L' := []) (by kernel_rfl) (by kernel_rfl) ?_
    exact retQ_mk (by kernel_rfl) (by kernel_rfl) (by kernel_rfl)

def ref_Dice_b1 (a1 : Int) (i8 : Int) (x9 : (Int × (List Int))) : Option (Flow (Int × (List Int)) (List Int)) :=
(ck (a1 ≠ 0)).bind fun _ =>
(ck ((List.length x9.2 : Int) + 1 ≤ 4294967296)).bind fun _ =>
some (.next (w64 (Int.tdiv x9.1 a1), x9.2 ++ [Int.tmod x9.1 a1]))
@[reducible] def ref_Dice_s2 (a0 : Int) (a1 : Int) (v : Int × (Int × (List Int))) : Fr × LL := ([(0, aI a0), (1, aI a1), (2, aI v.2.1), (7, .one (.slc 19)), (8, aI v.1)], [(19, .seq tI v.2.2)])
@[reducible] def ref_Dice_s3 (v : (List Int)) : Fr × LL := ([(7, .one (.slc 19))], [(19, .seq tI v)])
def ref_Dice (a0 : Int) (a1 : Int) (a2 : Int) : Option (List Int) :=
(forI (0 : Int) a0 (ref_Dice_b1 a1) (fun x9 => x9.2) (a2, [])).bind fun v15 =>
some v15
theorem ref_Dice_ok {a0 : Int} {a1 : Int} {a2 : Int} {r : (List Int)} (h : ref_Dice a0 a1 a2 = some r) : FnC Try.prog 15 [aI a0, aI a1, aI a2] [] (aD (.slice tI) r) [] := by
  refine fnC_of_W (B := bodyOf Try.f15) (n := 24) Try.func15 (by kernel_rfl) (by kernel_rfl) (by kernel_rfl) (by kernel_rfl) (by kernel_rfl) ?_
  intro K
  refine W_seq (by kernel_rfl) ?_
  refine W_run 1 [] [0, 1, 2] [] (fr' := [(0, aI a0), (1, aI a1), (2, aI a2)]) (L' := []) (obs := []) (by kernel_rfl) (by kernel_rfl) (by kernel_rfl) allP0 ?_
  refine seqQ_norm ?_
  refine W_seq (by kernel_rfl) ?_
  refine W_run 1 [] [0, 1, 2, 7] [] (fr' := [(0, aI a0), (1, aI a1), (2, aI a2), (7, .one (.nilS))]) (L' := []) (obs := []) (by kernel_rfl) (by kernel_rfl) (by kernel_rfl) allP0 ?_
  refine seqQ_norm ?_
  refine W_seq (by kernel_rfl) ?_
  refine W_seq (by kernel_rfl) ?_
  refine W_run 1 [] [0, 1, 2, 7, 8] [] (fr' := [(0, aI a0), (1, aI a1), (2, aI a2), (7, .one (.nilS)), (8, aI (0 : Int))]) (L' := []) (obs := []) (by kernel_rfl) (by kernel_rfl) (by kernel_rfl) allP0 ?_
  refine seqQ_norm ?_
  refine W_block (id := 0) (by kernel_rfl) ?_
  obtain ⟨v15, h16, h⟩ := bind_of h
  obtain ⟨h17, h18⟩ := forI_iter h16
  refine W_mine 7 19 tI (by kernel_rfl) ?_
  refine W_weaken [0, 1, 2, 7, 8] [19] (fr' := ((ref_Dice_s2 a0 a1) ((0 : Int), (a2, []))).1) (L' := ((ref_Dice_s2 a0 a1) ((0 : Int), (a2, []))).2) (by kernel_rfl) ?_
  refine W_cutK (W_loop (S := (ref_Dice_s2 a0 a1)) (J := (exQ (.exit 0) ref_Dice_s3)) (by kernel_rfl) ?_ h17 _ v15 h18) ?_
  · rintro ⟨i8, x9⟩ s h
    refine W_seq (by kernel_rfl) ?_
    refine W_seq (by kernel_rfl) ?_
    refine W_run 3 [] [0, 1, 2, 7, 8, 11] [19] (fr' := [(0, aI a0), (1, aI a1), (2, aI x9.1), (7, .one (.slc 19)), (8, aI i8), (11, aB (decide (i8 < a0)))]) (L' := [(19, .seq tI x9.2)]) (obs := []) (by kernel_rfl) (by kernel_rfl) (by kernel_rfl) allP0 ?_
    refine seqQ_norm ?_
    refine W_cond (o := .tmp 11) (b := decide (i8 < a0)) (by kernel_rfl) (by kernel_rfl) (fun h11 => ?_) (fun h11 => ?_)
    · replace h := stepI_true h11 h
      obtain ⟨_, h, rfl⟩ := h
      refine W_skip [0, 1, 2, 7, 8] [19] (fr' := [(0, aI a0), (1, aI a1), (2, aI x9.1), (7, .one (.slc 19)), (8, aI i8)]) (L' := [(19, .seq tI x9.2)]) (by kernel_rfl) (by kernel_rfl) ?_
      refine seqQ_norm ?_
      refine W_seq (by kernel_rfl) ?_
      refine W_block (id := 1) (by kernel_rfl) ?_
      refine W_seq (by kernel_rfl) ?_
      obtain ⟨_, h12, h⟩ := bind_of h
      replace h12 := ck_some h12
      obtain ⟨_, h13, h⟩ := bind_of h
      replace h13 := ck_some h13
      refine W_run 7 [] [0, 1, 2, 7, 8] [19] (fr' := [(0, aI a0), (1, aI a1), (2, aI x9.1), (7, .one (.slc 19)), (8, aI i8)]) (L' := [(19, .seq tI (x9.2 ++ [Int.tmod x9.1 a1]))]) (obs := [(a1 ≠ 0), SmallLen (List.length x9.2 + List.length [Int.tmod x9.1 a1])]) (by kernel_rfl) (by kernel_rfl) (by kernel_rfl) (allP2 h12 (allP1 h13)) ?_
      refine seqQ_norm ?_
      refine W_run 4 [] [0, 1, 2, 7, 8] [19] (fr' := [(0, aI a0), (1, aI a1), (2, aI (w64 (Int.tdiv x9.1 a1))), (7, .one (.slc 19)), (8, aI i8)]) (L' := [(19, .seq tI (x9.2 ++ [Int.tmod x9.1 a1]))]) (obs := [(a1 ≠ 0)]) (by kernel_rfl) (by kernel_rfl) (by kernel_rfl) (allP1 h12) ?_
      refine blockQ_norm ?_
      refine seqQ_norm ?_
      obtain rfl := Option.some.inj h
      refine W_run 3 [] [0, 1, 2, 7, 8] [19] (fr' := [(0, aI a0), (1, aI a1), (2, aI (w64 (Int.tdiv x9.1 a1))), (7, .one (.slc 19)), (8, aI (w64 (i8 + (1 : Int))))]) (L' := [(19, .seq tI (x9.2 ++ [Int.tmod x9.1 a1]))]) (obs := []) (by kernel_rfl) (by kernel_rfl) (by kernel_rfl) allP0 ?_
      exact round_next' (by kernel_rfl) (by kernel_rfl)
    · obtain rfl := stepI_false h11 h
      refine W_exit (id := 0) [7] [19] (fr' := [(7, .one (.slc 19))]) (L' := [(19, .seq tI x9.2)]) (by kernel_rfl) (by kernel_rfl) ?_
      refine seqQ_exit ?_
      refine round_exit ?_
      exact exQ_mk (by kernel_rfl) (by kernel_rfl)
  · intro e fr L hJ
    obtain ⟨rfl, rfl, rfl⟩ := hJ
    refine LT_keep [7] [19] (fr' := [(7, .one (.slc 19))]) (L' := [(19, .seq tI v15)]) (by kernel_rfl) ?_
    refine blockQ_hit ?_
    refine seqQ_norm ?_
    refine W_seq (by kernel_rfl) ?_
    refine W_run 2 [] [6] [19] (fr' := [(6, .one (.slc 19))]) (L' := [(19, .seq tI v15)]) (obs := []) (by kernel_rfl) (by kernel_rfl) (by kernel_rfl) allP0 ?_
    refine seqQ_norm ?_
    obtain rfl := Option.some.inj h
    refine W_frz 19 (by kernel_rfl) ?_
    refine W_ret [6] [] (fr' := [(6, aD (.slice tI) v15)]) (L' := []) (by kernel_rfl) (by kernel_rfl) ?_
    exact retQ_mk (by kernel_rfl) (by kernel_rfl) (by kernel_rfl)

def ref_Line (a0 : (List Int)) (a1 : Int) : Option Int :=
(idx a0 (0 : Int)).bind fun v1 =>
(idx a0 (1 : Int)).bind fun v3 =>
some (Int.tmod (w64 ((w64 (v1 * (w64 ((8 : Int) - a1)))) + (w64 (v3 * a1)))) (7 : Int))
theorem ref_Line_ok {a0 : (List Int)} {a1 : Int} {r : Int} (h : ref_Line a0 a1 = some r) : FnC Try.prog 35 [aD (.arr 2 tI) a0, aI a1] [] (aI r) [] := by
  refine fnC_of_W (B := bodyOf Try.f35) (n := 16) Try.func35 (by kernel_rfl) (by kernel_rfl) (by kernel_rfl) (by kernel_rfl) (by kernel_rfl) ?_
  intro K
  refine W_seq (by kernel_rfl) ?_
  refine W_run 2 [] [1, 2] [2] (fr' := [(1, aI a1), (2, .one (.ptr 2 0))]) (L' := [(2, .one (.arr 2 tI) a0)]) (obs := []) (by kernel_rfl) (by kernel_rfl) (by kernel_rfl) allP0 ?_
  refine seqQ_norm ?_
  refine W_seq (by kernel_rfl) ?_
  obtain ⟨v1, h2, h⟩ := bind_of h
  obtain ⟨v3, h4, h⟩ := bind_of h
  refine W_run 12 [(3, .val (.dat tI v1)), (13, .val (.dat tI v3))] [4] [] (fr' := [(4, aI (Int.tmod (w64 ((w64 (v1 * (w64 ((8 : Int) - a1)))) + (w64 (v3 * a1)))) (7 : Int)))]) (L' := []) (obs := [InR (0 : Int) 2, Idx a0 (0 : Int) v1, InR (1 : Int) 2, Idx a0 (1 : Int) v3, ((7 : Int) ≠ 0)]) (by kernel_rfl) (by kernel_rfl) (by kernel_rfl) (allP2 (by unfold InR; decide) (allP2 (Idx.of h2) (allP2 (by unfold InR; decide) (allP2 (Idx.of h4) (allP1 (by decide)))))) ?_
  refine seqQ_norm ?_
  obtain rfl := Option.some.inj h
  refine W_ret [4] [] (fr' := [(4, aI (Int.tmod (w64 ((w64 (v1 * (w64 ((8 : Int) - a1)))) + (w64 (v3 * a1)))) (7 : Int)))]) (L' := []) (by kernel_rfl) (by kernel_rfl) ?_
  exact retQ_mk (by kernel_rfl) (by kernel_rfl) (by kernel_rfl)

def ref_Bit (a0 : Int) (a1 : Int) : Option Bool :=
bif (decide (a1 ≥ (0 : Int))) && (decide (a1 < (63 : Int))) then
((ck (0 ≤ IntKind.wrap .u64 (a1))).bind fun _ =>
some ((bAnd .i64 a0 (bShl .i64 (1 : Int) (IntKind.wrap .u64 (a1)))) != (0 : Int)))
else
(some false)
theorem ref_Bit_ok {a0 : Int} {a1 : Int} {r : Bool} (h : ref_Bit a0 a1 = some r) : FnC Try.prog 48 [aI a0, aI a1] [] (aB r) [] := by
  refine fnC_of_W (B := bodyOf Try.f48) (n := 19) Try.func48 (by kernel_rfl) (by kernel_rfl) (by kernel_rfl) (by kernel_rfl) (by kernel_rfl) ?_
  intro K
  refine W_seq (by kernel_rfl) ?_
  refine W_run 1 [] [0, 1] [] (fr' := [(0, aI a0), (1, aI a1)]) (L' := []) (obs := []) (by kernel_rfl) (by kernel_rfl) (by kernel_rfl) allP0 ?_
  refine seqQ_norm ?_
  refine W_seq (by kernel_rfl) ?_
  refine W_region (by kernel_rfl) ?_
  refine WO_run (j := 7) (k := 7) (orcs := []) (kF := [0, 1, 11]) (kL := []) (fr' := [(0, aI a0), (1, aI a1), (11, aB ((decide (a1 ≥ (0 : Int))) && (decide (a1 < (63 : Int)))))]) (L' := []) (obs := []) rfl (by kernel_rfl) allP0 ?_
  rcases Bool.eq_false_or_eq_true ((decide (a1 ≥ (0 : Int))) && (decide (a1 < (63 : Int)))) with h1 | h1
  · replace h := ofT h1 h
    obtain ⟨_, h2, h⟩ := bind_of h
    replace h2 := ck_some h2
    refine WO_run (j := 15) (k := 8) (orcs := [(14, .known true), (16, .known true), (18, .known true), (20, .known true), (22, .known true), (24, .known true), (27, .val (.dat .bool true))]) (kF := [4]) (kL := []) (fr' := [(4, aB ((bAnd .i64 a0 (bShl .i64 (1 : Int) (IntKind.wrap .u64 (a1)))) != (0 : Int)))]) (L' := []) (obs := [(((decide (a1 ≥ (0 : Int))) && (decide (a1 < (63 : Int)))) = true), (((decide (a1 ≥ (0 : Int))) && (decide (a1 < (63 : Int)))) = true), (((decide (a1 ≥ (0 : Int))) && (decide (a1 < (63 : Int)))) = true), (((decide (a1 ≥ (0 : Int))) && (decide (a1 < (63 : Int)))) = true), (0 ≤ IntKind.wrap .u64 (a1)), (((decide (a1 ≥ (0 : Int))) && (decide (a1 < (63 : Int)))) = true), (((decide (a1 ≥ (0 : Int))) && (decide (a1 < (63 : Int)))) = true), (((decide (a1 ≥ (0 : Int))) && (decide (a1 < (63 : Int)))) = true)]) rfl (by kernel_rfl) (allP2 h1 (allP2 h1 (allP2 h1 (allP2 h1 (allP2 h2 (allP2 h1 (allP2 h1 (allP1 h1)))))))) ?_
    refine WO_fin [4] [] (fr' := [(4, aB ((bAnd .i64 a0 (bShl .i64 (1 : Int) (IntKind.wrap .u64 (a1)))) != (0 : Int)))]) (L' := []) (by kernel_rfl) (by kernel_rfl) ?_
    refine seqQ_norm ?_
    obtain rfl := Option.some.inj h
    refine W_ret [4] [] (fr' := [(4, aB ((bAnd .i64 a0 (bShl .i64 (1 : Int) (IntKind.wrap .u64 (a1)))) != (0 : Int)))]) (L' := []) (by kernel_rfl) (by kernel_rfl) ?_
    exact retQ_mk (by kernel_rfl) (by kernel_rfl) (by kernel_rfl)
  · replace h := ofF h1 h
    refine WO_run (j := 15) (k := 8) (orcs := [(14, .known false), (16, .known false), (18, .known false), (20, .known false), (22, .known false), (24, .known false), (27, .val (.dat .bool false))]) (kF := [4]) (kL := []) (fr' := [(4, aB false)]) (L' := []) (obs := [(((decide (a1 ≥ (0 : Int))) && (decide (a1 < (63 : Int)))) = false), (((decide (a1 ≥ (0 : Int))) && (decide (a1 < (63 : Int)))) = false), (((decide (a1 ≥ (0 : Int))) && (decide (a1 < (63 : Int)))) = false), (((decide (a1 ≥ (0 : Int))) && (decide (a1 < (63 : Int)))) = false), (((decide (a1 ≥ (0 : Int))) && (decide (a1 < (63 : Int)))) = false), (((decide (a1 ≥ (0 : Int))) && (decide (a1 < (63 : Int)))) = false), (((decide (a1 ≥ (0 : Int))) && (decide (a1 < (63 : Int)))) = false)]) rfl (by kernel_rfl) (allP2 h1 (allP2 h1 (allP2 h1 (allP2 h1 (allP2 h1 (allP2 h1 (allP1 h1))))))) ?_
    refine WO_fin [4] [] (fr' := [(4, aB false)]) (L' := []) (by kernel_rfl) (by kernel_rfl) ?_
    refine seqQ_norm ?_
    obtain rfl := Option.some.inj h
    refine W_ret [4] [] (fr' := [(4, aB false)]) (L' := []) (by kernel_rfl) (by kernel_rfl) ?_
    exact retQ_mk (by kernel_rfl) (by kernel_rfl) (by kernel_rfl)

def ref_At_g23 (a2 : (List Int)) (i173 : Int) (i229 : Int) (x230 : Int) : Option Int :=
(ref_Bit i173 i229).bind fun r247 =>
bif r247 then
((idx a2 i229).bind fun v250 =>
some (Int.tmod (w64 (x230 * v250)) (7 : Int)))
else
((idx a2 i229).bind fun v252 =>
some (Int.tmod (w64 (x230 * (w64 ((8 : Int) - v252)))) (7 : Int)))
@[reducible] def ref_At_s24 (a0 : Int) (a1 : (List Int)) (a2 : (List Int)) (i173 : Int) (x174 : Int) (i229 : Int) (v : Int) : Fr × LL := ([(0, aI a0), (1, aD (.slice tI) a1), (2, aD (.slice tI) a2), (7, aI x174), (8, aI i173), (9, aI v), (10, aI i229)], [])
def ref_At_b25 (a2 : (List Int)) (i173 : Int) (i229 : Int) (x230 : Int) : Option (Flow Int Int) :=
(ref_At_g23 a2 i173 i229 x230).bind fun v254 =>
some (.next v254)
@[reducible] def ref_At_s26 (a0 : Int) (a1 : (List Int)) (a2 : (List Int)) (i173 : Int) (x174 : Int) (v : Int × Int) : Fr × LL := ([(0, aI a0), (1, aD (.slice tI) a1), (2, aD (.slice tI) a2), (7, aI x174), (8, aI i173), (9, aI v.2), (10, aI v.1)], [])
@[reducible] def ref_At_s27 (a0 : Int) (a1 : (List Int)) (a2 : (List Int)) (i173 : Int) (x174 : Int) (v : Int) : Fr × LL := ([(0, aI a0), (1, aD (.slice tI) a1), (2, aD (.slice tI) a2), (7, aI x174), (8, aI i173), (9, aI v)], [])
def ref_At_b28 (a0 : Int) (a2 : (List Int)) (i173 : Int) (v176 : Int) (x174 : Int) : Option (Flow Int Int) :=
(forI (0 : Int) a0 (ref_At_b25 a2 i173) (fun x230 => x230) v176).bind fun v257 =>
some (.next (w64 (x174 + v257)))
@[reducible] def ref_At_s29 (a0 : Int) (a1 : (List Int)) (a2 : (List Int)) (v : Int × Int) : Fr × LL := ([(0, aI a0), (1, aD (.slice tI) a1), (2, aD (.slice tI) a2), (7, aI v.2), (8, aI v.1)], [])
@[reducible] def ref_At_s30 (v : Int) : Fr × LL := ([(7, aI v)], [])
def ref_At (a0 : Int) (a1 : (List Int)) (a2 : (List Int)) : Option Int :=
(forL (ref_At_b28 a0 a2) (fun x174 => x174) a1 0 (0 : Int)).bind fun v262 =>
some (Int.tmod v262 (7 : Int))
theorem ref_At_ok {a0 : Int} {a1 : (List Int)} {a2 : (List Int)} {r : Int} (h : ref_At a0 a1 a2 = some r) : FnC Try.prog 36 [aI a0, aD (.slice tI) a1, aD (.slice tI) a2] [] (aI r) [] := by
  refine fnC_of_W (B := bodyOf Try.f36) (n := 49) Try.func36 (by kernel_rfl) (by kernel_rfl) (by kernel_rfl) (by kernel_rfl) (by kernel_rfl) ?_
  intro K
  refine W_seq (by kernel_rfl) ?_
  refine W_run 1 [] [0, 1, 2] [] (fr' := [(0, aI a0), (1, aD (.slice tI) a1), (2, aD (.slice tI) a2)]) (L' := []) (obs := []) (by kernel_rfl) (by kernel_rfl) (by kernel_rfl) allP0 ?_
  refine seqQ_norm ?_
  refine W_seq (by kernel_rfl) ?_
  refine W_run 1 [] [0, 1, 2, 7] [] (fr' := [(0, aI a0), (1, aD (.slice tI) a1), (2, aD (.slice tI) a2), (7, aI (0 : Int))]) (L' := []) (obs := []) (by kernel_rfl) (by kernel_rfl) (by kernel_rfl) allP0 ?_
  refine seqQ_norm ?_
  refine W_seq (by kernel_rfl) ?_
  refine W_seq (by kernel_rfl) ?_
  refine W_run 1 [] [0, 1, 2, 7, 8] [] (fr' := [(0, aI a0), (1, aD (.slice tI) a1), (2, aD (.slice tI) a2), (7, aI (0 : Int)), (8, aI (0 : Int))]) (L' := []) (obs := []) (by kernel_rfl) (by kernel_rfl) (by kernel_rfl) allP0 ?_
  refine seqQ_norm ?_
  refine W_block (id := 0) (by kernel_rfl) ?_
  obtain ⟨v262, h263, h⟩ := bind_of h
  refine W_len (t := 1) (u := tI) (xs := a1) (by kernel_rfl) (fun h266 => ?_)
  obtain ⟨h264, h265⟩ := forL_iter h266 h263
  refine W_weaken [0, 1, 2, 7, 8] [] (fr' := ((ref_At_s29 a0 a1 a2) ((0 : Int), (0 : Int))).1) (L' := ((ref_At_s29 a0 a1 a2) ((0 : Int), (0 : Int))).2) (by kernel_rfl) ?_
  refine W_cutK (W_loop (S := (ref_At_s29 a0 a1 a2)) (J := (exQ (.exit 0) ref_At_s30)) (by kernel_rfl) ?_ h264 _ v262 h265) ?_
  · rintro ⟨i173, x174⟩ s h
    refine W_seq (by kernel_rfl) ?_
    refine W_seq (by kernel_rfl) ?_
    refine W_run 4 [] [0, 1, 2, 7, 8, 14] [] (fr' := [(0, aI a0), (1, aD (.slice tI) a1), (2, aD (.slice tI) a2), (7, aI x174), (8, aI i173), (14, aB (decide (i173 < (List.length a1 : Int))))]) (L' := []) (obs := []) (by kernel_rfl) (by kernel_rfl) (by kernel_rfl) allP0 ?_
    refine seqQ_norm ?_
    refine W_cond (o := .tmp 14) (b := decide (i173 < (List.length a1 : Int))) (by kernel_rfl) (by kernel_rfl) (fun h178 => ?_) (fun h178 => ?_)
    · replace h := stepL_true h178 h
      obtain ⟨v176, _, h177, h, rfl⟩ := h
      refine W_skip [0, 1, 2, 7, 8] [] (fr' := [(0, aI a0), (1, aD (.slice tI) a1), (2, aD (.slice tI) a2), (7, aI x174), (8, aI i173)]) (L' := []) (by kernel_rfl) (by kernel_rfl) ?_
      refine seqQ_norm ?_
      refine W_seq (by kernel_rfl) ?_
      refine W_block (id := 1) (by kernel_rfl) ?_
      refine W_seq (by kernel_rfl) ?_
      refine W_run 5 [(5, .val (.dat tI v176))] [0, 1, 2, 7, 8, 9] [] (fr' := [(0, aI a0), (1, aD (.slice tI) a1), (2, aD (.slice tI) a2), (7, aI x174), (8, aI i173), (9, aI v176)]) (L' := []) (obs := [Idx a1 i173 v176]) (by kernel_rfl) (by kernel_rfl) (by kernel_rfl) (allP1 (Idx.of h177)) ?_
      refine seqQ_norm ?_
      refine W_seq (by kernel_rfl) ?_
      refine W_seq (by kernel_rfl) ?_
      refine W_run 1 [] [0, 1, 2, 7, 8, 9, 10] [] (fr' := [(0, aI a0), (1, aD (.slice tI) a1), (2, aD (.slice tI) a2), (7, aI x174), (8, aI i173), (9, aI v176), (10, aI (0 : Int))]) (L' := []) (obs := []) (by kernel_rfl) (by kernel_rfl) (by kernel_rfl) allP0 ?_
      refine seqQ_norm ?_
      refine W_block (id := 2) (by kernel_rfl) ?_
      obtain ⟨v257, h258, h⟩ := bind_of h
      obtain ⟨h259, h260⟩ := forI_iter h258
      refine W_weaken [0, 1, 2, 7, 8, 9, 10] [] (fr' := ((ref_At_s26 a0 a1 a2 i173 x174) ((0 : Int), v176)).1) (L' := ((ref_At_s26 a0 a1 a2 i173 x174) ((0 : Int), v176)).2) (by kernel_rfl) ?_
      refine W_cutK (W_loop (S := (ref_At_s26 a0 a1 a2 i173 x174)) (J := (exQ (.exit 2) (ref_At_s27 a0 a1 a2 i173 x174))) (by kernel_rfl) ?_ h259 _ v257 h260) ?_
      · rintro ⟨i229, x230⟩ s h
        refine W_seq (by kernel_rfl) ?_
        refine W_seq (by kernel_rfl) ?_
        refine W_run 3 [] [0, 1, 2, 7, 8, 9, 10, 23] [] (fr' := [(0, aI a0), (1, aD (.slice tI) a1), (2, aD (.slice tI) a2), (7, aI x174), (8, aI i173), (9, aI x230), (10, aI i229), (23, aB (decide (i229 < a0)))]) (L' := []) (obs := []) (by kernel_rfl) (by kernel_rfl) (by kernel_rfl) allP0 ?_
        refine seqQ_norm ?_
        refine W_cond (o := .tmp 23) (b := decide (i229 < a0)) (by kernel_rfl) (by kernel_rfl) (fun h232 => ?_) (fun h232 => ?_)
        · replace h := stepI_true h232 h
          obtain ⟨_, h, rfl⟩ := h
          refine W_skip [0, 1, 2, 7, 8, 9, 10] [] (fr' := [(0, aI a0), (1, aD (.slice tI) a1), (2, aD (.slice tI) a2), (7, aI x174), (8, aI i173), (9, aI x230), (10, aI i229)]) (L' := []) (by kernel_rfl) (by kernel_rfl) ?_
          refine seqQ_norm ?_
          refine W_seq (by kernel_rfl) ?_
          obtain ⟨v254, h255, h⟩ := bind_of h
          refine W_cutK (Q' := (exQ .normal (ref_At_s24 a0 a1 a2 i173 x174 i229)) v254) ?_ ?_
          · replace h := h255
            refine W_block (id := 3) (by kernel_rfl) ?_
            refine W_seq (by kernel_rfl) ?_
            refine W_region (by kernel_rfl) ?_
            refine WO_run (j := 2) (k := 2) (orcs := []) (kF := [0, 1, 2, 7, 8, 9, 10, 26, 27]) (kL := []) (fr' := [(0, aI a0), (1, aD (.slice tI) a1), (2, aD (.slice tI) a2), (7, aI x174), (8, aI i173), (9, aI x230), (10, aI i229), (26, aI i173), (27, aI i229)]) (L' := []) (obs := []) rfl (by kernel_rfl) allP0 ?_
            obtain ⟨r247, h248, h⟩ := bind_of h
            refine WO_call0 (us := [none, none]) (d := 28) (p := True) (j := 3) rfl ⟨by kernel_rfl, by kernel_rfl, by kernel_rfl⟩ trivial (ref_Bit_ok h248) (by kernel_rfl) ?_
            refine WO_fin [0, 1, 2, 7, 8, 9, 10, 28] [] (fr' := [(0, aI a0), (1, aD (.slice tI) a1), (2, aD (.slice tI) a2), (7, aI x174), (8, aI i173), (9, aI x230), (10, aI i229), (28, aB r247)]) (L' := []) (by kernel_rfl) (by kernel_rfl) ?_
            refine seqQ_norm ?_
            refine W_cond (o := .tmp 28) (b := r247) (by kernel_rfl) (by kernel_rfl) (fun h249 => ?_) (fun h249 => ?_)
            · replace h := ofT h249 h
              obtain ⟨v250, h251, h⟩ := bind_of h
              obtain rfl := Option.some.inj h
              refine W_run 8 [(7, .val (.dat tI v250))] [0, 1, 2, 7, 8, 9, 10] [] (fr' := [(0, aI a0), (1, aD (.slice tI) a1), (2, aD (.slice tI) a2), (7, aI x174), (8, aI i173), (9, aI (Int.tmod (w64 (x230 * v250)) (7 : Int))), (10, aI i229)]) (L' := []) (obs := [Idx a2 i229 v250, ((7 : Int) ≠ 0)]) (by kernel_rfl) (by kernel_rfl) (by kernel_rfl) (allP2 (Idx.of h251) (allP1 (by decide))) ?_
              refine blockQ_norm ?_
              exact exQ_mk (by kernel_rfl) (by kernel_rfl)
            · replace h := ofF h249 h
              obtain ⟨v252, h253, h⟩ := bind_of h
              obtain rfl := Option.some.inj h
              refine W_run 9 [(7, .val (.dat tI v252))] [0, 1, 2, 7, 8, 9, 10] [] (fr' := [(0, aI a0), (1, aD (.slice tI) a1), (2, aD (.slice tI) a2), (7, aI x174), (8, aI i173), (9, aI (Int.tmod (w64 (x230 * (w64 ((8 : Int) - v252)))) (7 : Int))), (10, aI i229)]) (L' := []) (obs := [Idx a2 i229 v252, ((7 : Int) ≠ 0)]) (by kernel_rfl) (by kernel_rfl) (by kernel_rfl) (allP2 (Idx.of h253) (allP1 (by decide))) ?_
              refine blockQ_norm ?_
              exact exQ_mk (by kernel_rfl) (by kernel_rfl)
          · intro e fr L hJ
            obtain ⟨rfl, rfl, rfl⟩ := hJ
            refine LT_keep [0, 1, 2, 7, 8, 9, 10] [] (fr' := [(0, aI a0), (1, aD (.slice tI) a1), (2, aD (.slice tI) a2), (7, aI x174), (8, aI i173), (9, aI v254), (10, aI i229)]) (L' := []) (by kernel_rfl) ?_
            refine seqQ_norm ?_
            obtain rfl := Option.some.inj h
            refine W_run 3 [] [0, 1, 2, 7, 8, 9, 10] [] (fr' := [(0, aI a0), (1, aD (.slice tI) a1), (2, aD (.slice tI) a2), (7, aI x174), (8, aI i173), (9, aI v254), (10, aI (w64 (i229 + (1 : Int))))]) (L' := []) (obs := []) (by kernel_rfl) (by kernel_rfl) (by kernel_rfl) allP0 ?_
            exact round_next' (by kernel_rfl) (by kernel_rfl)
        · obtain rfl := stepI_false h232 h
          refine W_exit (id := 2) [0, 1, 2, 7, 8, 9] [] (fr' := [(0, aI a0), (1, aD (.slice tI) a1), (2, aD (.slice tI) a2), (7, aI x174), (8, aI i173), (9, aI x230)]) (L' := []) (by kernel_rfl) (by kernel_rfl) ?_
          refine seqQ_exit ?_
          refine round_exit ?_
          exact exQ_mk (by kernel_rfl) (by kernel_rfl)
      · intro e fr L hJ
        obtain ⟨rfl, rfl, rfl⟩ := hJ
        refine LT_keep [0, 1, 2, 7, 8, 9] [] (fr' := [(0, aI a0), (1, aD (.slice tI) a1), (2, aD (.slice tI) a2), (7, aI x174), (8, aI i173), (9, aI v257)]) (L' := []) (by kernel_rfl) ?_
        refine blockQ_hit ?_
        refine seqQ_norm ?_
        refine W_run 4 [] [0, 1, 2, 7, 8] [] (fr' := [(0, aI a0), (1, aD (.slice tI) a1), (2, aD (.slice tI) a2), (7, aI (w64 (x174 + v257))), (8, aI i173)]) (L' := []) (obs := []) (by kernel_rfl) (by kernel_rfl) (by kernel_rfl) allP0 ?_
        refine blockQ_norm ?_
        refine seqQ_norm ?_
        obtain rfl := Option.some.inj h
        refine W_run 3 [] [0, 1, 2, 7, 8] [] (fr' := [(0, aI a0), (1, aD (.slice tI) a1), (2, aD (.slice tI) a2), (7, aI (w64 (x174 + v257))), (8, aI (w64 (i173 + (1 : Int))))]) (L' := []) (obs := []) (by kernel_rfl) (by kernel_rfl) (by kernel_rfl) allP0 ?_
        exact round_next' (by kernel_rfl) (by kernel_rfl)
    · obtain rfl := stepL_false h178 h
      refine W_exit (id := 0) [7] [] (fr' := [(7, aI x174)]) (L' := []) (by kernel_rfl) (by kernel_rfl) ?_
      refine seqQ_exit ?_
      refine round_exit ?_
      exact exQ_mk (by kernel_rfl) (by kernel_rfl)
  · intro e fr L hJ
    obtain ⟨rfl, rfl, rfl⟩ := hJ
    refine LT_keep [7] [] (fr' := [(7, aI v262)]) (L' := []) (by kernel_rfl) ?_
    refine blockQ_hit ?_
    refine seqQ_norm ?_
    refine W_seq (by kernel_rfl) ?_
    refine W_run 3 [] [6] [] (fr' := [(6, aI (Int.tmod v262 (7 : Int)))]) (L' := []) (obs := [((7 : Int) ≠ 0)]) (by kernel_rfl) (by kernel_rfl) (by kernel_rfl) (allP1 (by decide)) ?_
    refine seqQ_norm ?_
    obtain rfl := Option.some.inj h
    refine W_ret [6] [] (fr' := [(6, aI (Int.tmod v262 (7 : Int)))]) (L' := []) (by kernel_rfl) (by kernel_rfl) ?_
    exact retQ_mk (by kernel_rfl) (by kernel_rfl) (by kernel_rfl)

def ref_Believed_b1 (a3 : (List (List Int))) (a4 : (List Int)) (i27 : Int) (x28 : Int) : Option (Flow Int (Esc Bool Int)) :=
(idx a3 i27).bind fun v31 =>
(idx v31 (0 : Int)).bind fun v33 =>
(idx v31 (1 : Int)).bind fun v35 =>
bif (Int.tmod (w64 (v33 + v35)) (7 : Int)) != x28 then
(some (.done (.ret false)))
else
((idx a4 i27).bind fun v38 =>
(ref_Line v31 v38).bind fun r40 =>
some (.next r40))
@[reducible] def ref_Believed_s2 (a0 : Int) (a1 : (List Int)) (a3 : (List (List Int))) (a4 : (List Int)) (v : Int × Int) : Fr × LL := ([(0, aI a0), (1, aD (.slice tI) a1), (3, aD (.slice (.arr 2 tI)) a3), (4, aD (.slice tI) a4), (11, aI v.2), (12, aI v.1)], [])
@[reducible] def ref_Believed_s3 (v : Bool) : Fr × LL := ([(10, aB v)], [])
@[reducible] def ref_Believed_s4 (a0 : Int) (a1 : (List Int)) (a4 : (List Int)) (v : Int) : Fr × LL := ([(0, aI a0), (1, aD (.slice tI) a1), (4, aD (.slice tI) a4), (11, aI v)], [])
def ref_Believed (a0 : Int) (a1 : (List Int)) (a2 : Int) (a3 : (List (List Int))) (a4 : (List Int)) : Option Bool :=
(forI (0 : Int) a0 (ref_Believed_b1 a3 a4) (fun x28 => (.brk x28)) a2).bind fun v43 =>
match v43 with
| .ret v47 =>
(some v47)
| .brk v48 =>
((ref_At a0 a1 a4).bind fun r49 =>
some (v48 == r49))
theorem ref_Believed_ok {a0 : Int} {a1 : (List Int)} {a2 : Int} {a3 : (List (List Int))} {a4 : (List Int)} {r : Bool} (h : ref_Believed a0 a1 a2 a3 a4 = some r) : FnC Try.prog 12 [aI a0, aD (.slice tI) a1, aI a2, aD (.slice (.arr 2 tI)) a3, aD (.slice tI) a4] [] (aB r) [] := by
  refine fnC_of_W (B := bodyOf Try.f12) (n := 48) Try.func12 (by kernel_rfl) (by kernel_rfl) (by kernel_rfl) (by kernel_rfl) (by kernel_rfl) ?_
  intro K
  refine W_seq (by kernel_rfl) ?_
  refine W_run 1 [] [0, 1, 2, 3, 4] [] (fr' := [(0, aI a0), (1, aD (.slice tI) a1), (2, aI a2), (3, aD (.slice (.arr 2 tI)) a3), (4, aD (.slice tI) a4)]) (L' := []) (obs := []) (by kernel_rfl) (by kernel_rfl) (by kernel_rfl) allP0 ?_
  refine seqQ_norm ?_
  refine W_seq (by kernel_rfl) ?_
  refine W_run 2 [] [0, 1, 3, 4, 11] [] (fr' := [(0, aI a0), (1, aD (.slice tI) a1), (3, aD (.slice (.arr 2 tI)) a3), (4, aD (.slice tI) a4), (11, aI a2)]) (L' := []) (obs := []) (by kernel_rfl) (by kernel_rfl) (by kernel_rfl) allP0 ?_
  refine seqQ_norm ?_
  refine W_seq (by kernel_rfl) ?_
  refine W_seq (by kernel_rfl) ?_
  refine W_run 1 [] [0, 1, 3, 4, 11, 12] [] (fr' := [(0, aI a0), (1, aD (.slice tI) a1), (3, aD (.slice (.arr 2 tI)) a3), (4, aD (.slice tI) a4), (11, aI a2), (12, aI (0 : Int))]) (L' := []) (obs := []) (by kernel_rfl) (by kernel_rfl) (by kernel_rfl) allP0 ?_
  refine seqQ_norm ?_
  refine W_block (id := 0) (by kernel_rfl) ?_
  obtain ⟨v43, h44, h⟩ := bind_of h
  obtain ⟨h45, h46⟩ := forI_iter h44
  refine W_weaken [0, 1, 3, 4, 11, 12] [] (fr' := ((ref_Believed_s2 a0 a1 a3 a4) ((0 : Int), a2)).1) (L' := ((ref_Believed_s2 a0 a1 a3 a4) ((0 : Int), a2)).2) (by kernel_rfl) ?_
  refine W_cutK (W_loop (S := (ref_Believed_s2 a0 a1 a3 a4)) (J := (escQ (exQ .ret ref_Believed_s3) (exQ (.exit 0) (ref_Believed_s4 a0 a1 a4)))) (by kernel_rfl) ?_ h45 _ v43 h46) ?_
  · rintro ⟨i27, x28⟩ s h
    refine W_seq (by kernel_rfl) ?_
    refine W_seq (by kernel_rfl) ?_
    refine W_run 3 [] [0, 1, 3, 4, 11, 12, 16] [] (fr' := [(0, aI a0), (1, aD (.slice tI) a1), (3, aD (.slice (.arr 2 tI)) a3), (4, aD (.slice tI) a4), (11, aI x28), (12, aI i27), (16, aB (decide (i27 < a0)))]) (L' := []) (obs := []) (by kernel_rfl) (by kernel_rfl) (by kernel_rfl) allP0 ?_
    refine seqQ_norm ?_
    refine W_cond (o := .tmp 16) (b := decide (i27 < a0)) (by kernel_rfl) (by kernel_rfl) (fun h30 => ?_) (fun h30 => ?_)
    · replace h := stepI_true h30 h
      obtain ⟨_, h, rfl⟩ := h
      refine W_skip [0, 1, 3, 4, 11, 12] [] (fr' := [(0, aI a0), (1, aD (.slice tI) a1), (3, aD (.slice (.arr 2 tI)) a3), (4, aD (.slice tI) a4), (11, aI x28), (12, aI i27)]) (L' := []) (by kernel_rfl) (by kernel_rfl) ?_
      refine seqQ_norm ?_
      refine W_seq (by kernel_rfl) ?_
      refine W_block (id := 1) (by kernel_rfl) ?_
      refine W_seq (by kernel_rfl) ?_
      refine W_seq (by kernel_rfl) ?_
      obtain ⟨v31, h32, h⟩ := bind_of h
      obtain ⟨v33, h34, h⟩ := bind_of h
      obtain ⟨v35, h36, h⟩ := bind_of h
      refine W_draw2 14 [(5, .val (.dat (.arr 2 tI) v31)), (7, .val (.dat tI v33)), (15, .val (.dat (.arr 2 tI) v31)), (17, .val (.dat tI v35))] [] [0, 1, 3, 4, 12, 32] [] (fr' := [(0, aI a0), (1, aD (.slice tI) a1), (3, aD (.slice (.arr 2 tI)) a3), (4, aD (.slice tI) a4), (12, aI i27), (32, aB ((Int.tmod (w64 (v33 + v35)) (7 : Int)) != x28))]) (L' := []) (out := [(19, aD (.slice (.arr 2 tI)) a3), (20, aI i27), (21, .one (.dptr (.arr 2 tI) v31)), (22, .one (.dptr tI v33)), (23, aI v33), (24, aD (.slice (.arr 2 tI)) a3), (25, aI i27), (26, .one (.dptr (.arr 2 tI) v31)), (27, .one (.dptr tI v35)), (28, aI v35), (29, aI (w64 (v33 + v35))), (30, aI (Int.tmod (w64 (v33 + v35)) (7 : Int))), (31, aI x28), (32, aB ((Int.tmod (w64 (v33 + v35)) (7 : Int)) != x28))]) (obs := [Idx a3 i27 v31, Idx v31 (0 : Int) v33, Idx a3 i27 v31, Idx v31 (1 : Int) v35, ((7 : Int) ≠ 0)]) (obs2 := []) (calls := []) (by kernel_rfl) (by kernel_rfl) (by kernel_rfl) (by kernel_rfl) (allP2 (Idx.of h32) (allP2 (Idx.of h34) (allP2 (Idx.of h32) (allP2 (Idx.of h36) (allP1 (by decide)))))) allC0 (by kernel_rfl) allP0 ?_
      refine seqQ_norm ?_
      refine W_cond (o := .tmp 32) (b := (Int.tmod (w64 (v33 + v35)) (7 : Int)) != x28) (by kernel_rfl) (by kernel_rfl) (fun h37 => ?_) (fun h37 => ?_)
      · replace h := ofT h37 h
        refine W_seq (by kernel_rfl) ?_
        refine W_run 1 [] [10] [] (fr' := [(10, aB false)]) (L' := []) (obs := []) (by kernel_rfl) (by kernel_rfl) (by kernel_rfl) allP0 ?_
        refine seqQ_norm ?_
        obtain rfl := Option.some.inj h
        refine W_ret [10] [] (fr' := [(10, aB false)]) (L' := []) (by kernel_rfl) (by kernel_rfl) ?_
        refine seqQ_ret ?_
        refine blockQ_ret ?_
        refine seqQ_ret ?_
        refine round_ret ?_
        refine escQ_ret ?_
        exact exQ_mk (by kernel_rfl) (by kernel_rfl)
      · replace h := ofF h37 h
        refine W_skip [0, 1, 3, 4, 12] [] (fr' := [(0, aI a0), (1, aD (.slice tI) a1), (3, aD (.slice (.arr 2 tI)) a3), (4, aD (.slice tI) a4), (12, aI i27)]) (L' := []) (by kernel_rfl) (by kernel_rfl) ?_
        refine seqQ_norm ?_
        obtain ⟨v38, h39, h⟩ := bind_of h
        obtain ⟨r40, h41, h⟩ := bind_of h
        refine W_draw2 9 [(5, .val (.dat (.arr 2 tI) v31)), (13, .val (.dat tI v38))] [(8, [none, none], aI r40)] [0, 1, 3, 4, 11, 12] [] (fr' := [(0, aI a0), (1, aD (.slice tI) a1), (3, aD (.slice (.arr 2 tI)) a3), (4, aD (.slice tI) a4), (11, aI r40), (12, aI i27)]) (L' := []) (out := [(33, aD (.slice (.arr 2 tI)) a3), (34, aI i27), (35, .one (.dptr (.arr 2 tI) v31)), (36, aD (.arr 2 tI) v31), (37, aD (.slice tI) a4), (38, aI i27), (39, .one (.dptr tI v38)), (40, aI v38), (41, aI r40)]) (obs := [Idx a3 i27 v31, Idx a4 i27 v38, True]) (obs2 := []) (calls := [(35, [aD (.arr 2 tI) v31, aI v38], aI r40)]) (by kernel_rfl) (by kernel_rfl) (by kernel_rfl) (by kernel_rfl) (allP2 (Idx.of h32) (allP2 (Idx.of h39) (allP1 trivial))) (allC1 (by kernel_rfl) (ref_Line_ok h41) (by kernel_rfl) allC0) (by kernel_rfl) allP0 ?_
        refine blockQ_norm ?_
        refine seqQ_norm ?_
        obtain rfl := Option.some.inj h
        refine W_run 3 [] [0, 1, 3, 4, 11, 12] [] (fr' := [(0, aI a0), (1, aD (.slice tI) a1), (3, aD (.slice (.arr 2 tI)) a3), (4, aD (.slice tI) a4), (11, aI r40), (12, aI (w64 (i27 + (1 : Int))))]) (L' := []) (obs := []) (by kernel_rfl) (by kernel_rfl) (by kernel_rfl) allP0 ?_
        exact round_next' (by kernel_rfl) (by kernel_rfl)
    · obtain rfl := stepI_false h30 h
      refine W_exit (id := 0) [0, 1, 4, 11] [] (fr' := [(0, aI a0), (1, aD (.slice tI) a1), (4, aD (.slice tI) a4), (11, aI x28)]) (L' := []) (by kernel_rfl) (by kernel_rfl) ?_
      refine seqQ_exit ?_
      refine round_exit ?_
      refine escQ_brk ?_
      exact exQ_mk (by kernel_rfl) (by kernel_rfl)
  · intro e fr L hJ
    rcases v43 with v47 | v48
    · obtain ⟨rfl, rfl, rfl⟩ := hJ
      obtain rfl := Option.some.inj h
      refine LT_keep [10] [] (fr' := [(10, aB v47)]) (L' := []) (by kernel_rfl) ?_
      refine blockQ_ret ?_
      refine seqQ_ret ?_
      exact retQ_mk (by kernel_rfl) (by kernel_rfl) (by kernel_rfl)
    · obtain ⟨rfl, rfl, rfl⟩ := hJ
      refine LT_keep [0, 1, 4, 11] [] (fr' := [(0, aI a0), (1, aD (.slice tI) a1), (4, aD (.slice tI) a4), (11, aI v48)]) (L' := []) (by kernel_rfl) ?_
      refine blockQ_hit ?_
      refine seqQ_norm ?_
      refine W_seq (by kernel_rfl) ?_
      refine W_region (by kernel_rfl) ?_
      refine WO_run (j := 4) (k := 4) (orcs := []) (kF := [42, 43, 44, 45]) (kL := []) (fr' := [(42, aI v48), (43, aI a0), (44, aD (.slice tI) a1), (45, aD (.slice tI) a4)]) (L' := []) (obs := []) rfl (by kernel_rfl) allP0 ?_
      obtain ⟨r49, h50, h⟩ := bind_of h
      refine WO_call0 (us := [none, none, none]) (d := 46) (p := True) (j := 5) rfl ⟨by kernel_rfl, by kernel_rfl, by kernel_rfl⟩ trivial (ref_At_ok h50) (by kernel_rfl) ?_
      refine WO_run (j := 7) (k := 2) (orcs := []) (kF := [10]) (kL := []) (fr' := [(10, aB (v48 == r49))]) (L' := []) (obs := []) rfl (by kernel_rfl) allP0 ?_
      refine WO_fin [10] [] (fr' := [(10, aB (v48 == r49))]) (L' := []) (by kernel_rfl) (by kernel_rfl) ?_
      refine seqQ_norm ?_
      obtain rfl := Option.some.inj h
      refine W_ret [10] [] (fr' := [(10, aB (v48 == r49))]) (L' := []) (by kernel_rfl) (by kernel_rfl) ?_
      exact retQ_mk (by kernel_rfl) (by kernel_rfl) (by kernel_rfl)

@[reducible] def law_ProofFools_s3 (a0 : Int) (a1 : (List Int)) (a2 : Int) (a3 : (List (List Int))) (r1 : (Int × Int)) (x27 : (Int × Int)) (v : Int) : Fr × LL := ([(0, aI a0), (1, aD (.slice tI) a1), (2, aI a2), (3, aD (.slice (.arr 2 tI)) a3), (9, aI r1.1), (10, aI r1.2), (12, aI v), (13, aI x27.2)], [])
def law_ProofFools_b4 (a0 : Int) (a1 : (List Int)) (a2 : Int) (a3 : (List (List Int))) (x27 : (Int × Int)) : Option (Flow (Int × Int) Int) :=
(ref_Power (7 : Int) a0).bind fun r48 =>
bif decide (x27.2 < r48) then
(((ref_Dice a0 (7 : Int) x27.2).bind fun r61 =>
(ref_Believed a0 a1 a2 a3 r61).bind fun r63 =>
bif r63 then
(some (w64 (x27.1 + (1 : Int))))
else
(some x27.1)).bind fun v66 =>
some (.next (v66, w64 (x27.2 + (1 : Int)))))
else
(some (.done x27.1))
@[reducible] def law_ProofFools_s5 (a0 : Int) (a1 : (List Int)) (a2 : Int) (a3 : (List (List Int))) (r1 : (Int × Int)) (v : (Int × Int)) : Fr × LL := ([(0, aI a0), (1, aD (.slice tI) a1), (2, aI a2), (3, aD (.slice (.arr 2 tI)) a3), (9, aI r1.1), (10, aI r1.2), (12, aI v.1), (13, aI v.2)], [])
@[reducible] def law_ProofFools_s6 (r1 : (Int × Int)) (v : Int) : Fr × LL := ([(9, aI r1.1), (10, aI r1.2), (12, aI v)], [])
def law_ProofFools (fuel : Nat) (a0 : Int) (a1 : (List Int)) (a2 : Int) (a3 : (List (List Int))) : Option Bool :=
(proof_Fooled fuel a0 a1 a2 a3).bind fun r1 =>
(ref_SaidCheck a0 a1 a2 a3).bind fun r3 =>
bif r3 != (0 : Int) then
(some ((r1.2 == r3) && (r1.1 == (0 : Int))))
else
((iter (law_ProofFools_b4 a0 a1 a2 a3) fuel ((0 : Int), (0 : Int))).bind fun v68 =>
some ((r1.2 == (0 : Int)) && (r1.1 == v68)))
theorem law_ProofFools_ok {fuel : Nat} {a0 : Int} {a1 : (List Int)} {a2 : Int} {a3 : (List (List Int))} {r : Bool} (h : law_ProofFools fuel a0 a1 a2 a3 = some r) : FnC Try.prog 4 [aI a0, aD (.slice tI) a1, aI a2, aD (.slice (.arr 2 tI)) a3] [] (aB r) [] := by
  refine fnC_of_W (B := bodyOf Try.f4) (n := 59) Try.func4 (by kernel_rfl) (by kernel_rfl) (by kernel_rfl) (by kernel_rfl) (by kernel_rfl) ?_
  intro K
  refine W_seq (by kernel_rfl) ?_
  refine W_run 1 [] [0, 1, 2, 3] [] (fr' := [(0, aI a0), (1, aD (.slice tI) a1), (2, aI a2), (3, aD (.slice (.arr 2 tI)) a3)]) (L' := []) (obs := []) (by kernel_rfl) (by kernel_rfl) (by kernel_rfl) allP0 ?_
  refine seqQ_norm ?_
  refine W_seq (by kernel_rfl) ?_
  refine W_region (by kernel_rfl) ?_
  refine WO_run (j := 4) (k := 4) (orcs := []) (kF := [0, 1, 2, 3, 15, 16, 17, 18]) (kL := []) (fr' := [(0, aI a0), (1, aD (.slice tI) a1), (2, aI a2), (3, aD (.slice (.arr 2 tI)) a3), (15, aI a0), (16, aD (.slice tI) a1), (17, aI a2), (18, aD (.slice (.arr 2 tI)) a3)]) (L' := []) (obs := []) rfl (by kernel_rfl) allP0 ?_
  obtain ⟨r1, h2, h⟩ := bind_of h
  refine WO_call0 (us := [none, none, none, none]) (d := 19) (p := True) (j := 5) rfl ⟨by kernel_rfl, by kernel_rfl, by kernel_rfl⟩ trivial (proof_Fooled_ok h2) (by kernel_rfl) ?_
  refine WO_run (j := 10) (k := 5) (orcs := []) (kF := [0, 1, 2, 3, 9, 10]) (kL := []) (fr' := [(0, aI a0), (1, aD (.slice tI) a1), (2, aI a2), (3, aD (.slice (.arr 2 tI)) a3), (9, aI r1.1), (10, aI r1.2)]) (L' := []) (obs := []) rfl (by kernel_rfl) allP0 ?_
  refine WO_fin [0, 1, 2, 3, 9, 10] [] (fr' := [(0, aI a0), (1, aD (.slice tI) a1), (2, aI a2), (3, aD (.slice (.arr 2 tI)) a3), (9, aI r1.1), (10, aI r1.2)]) (L' := []) (by kernel_rfl) (by kernel_rfl) ?_
  refine seqQ_norm ?_
  refine W_seq (by kernel_rfl) ?_
  refine W_region (by kernel_rfl) ?_
  refine WO_run (j := 4) (k := 4) (orcs := []) (kF := [0, 1, 2, 3, 9, 10, 22, 23, 24, 25]) (kL := []) (fr' := [(0, aI a0), (1, aD (.slice tI) a1), (2, aI a2), (3, aD (.slice (.arr 2 tI)) a3), (9, aI r1.1), (10, aI r1.2), (22, aI a0), (23, aD (.slice tI) a1), (24, aI a2), (25, aD (.slice (.arr 2 tI)) a3)]) (L' := []) (obs := []) rfl (by kernel_rfl) allP0 ?_
  obtain ⟨r3, h4, h⟩ := bind_of h
  refine WO_call0 (us := [none, none, none, none]) (d := 26) (p := True) (j := 5) rfl ⟨by kernel_rfl, by kernel_rfl, by kernel_rfl⟩ trivial (ref_SaidCheck_ok h4) (by kernel_rfl) ?_
  refine WO_run (j := 6) (k := 1) (orcs := []) (kF := [0, 1, 2, 3, 9, 10, 11]) (kL := []) (fr' := [(0, aI a0), (1, aD (.slice tI) a1), (2, aI a2), (3, aD (.slice (.arr 2 tI)) a3), (9, aI r1.1), (10, aI r1.2), (11, aI r3)]) (L' := []) (obs := []) rfl (by kernel_rfl) allP0 ?_
  refine WO_fin [0, 1, 2, 3, 9, 10, 11] [] (fr' := [(0, aI a0), (1, aD (.slice tI) a1), (2, aI a2), (3, aD (.slice (.arr 2 tI)) a3), (9, aI r1.1), (10, aI r1.2), (11, aI r3)]) (L' := []) (by kernel_rfl) (by kernel_rfl) ?_
  refine seqQ_norm ?_
  refine W_seq (by kernel_rfl) ?_
  refine W_seq (by kernel_rfl) ?_
  refine W_run 2 [] [0, 1, 2, 3, 9, 10, 11, 28] [] (fr' := [(0, aI a0), (1, aD (.slice tI) a1), (2, aI a2), (3, aD (.slice (.arr 2 tI)) a3), (9, aI r1.1), (10, aI r1.2), (11, aI r3), (28, aB (r3 != (0 : Int)))]) (L' := []) (obs := []) (by kernel_rfl) (by kernel_rfl) (by kernel_rfl) allP0 ?_
  refine seqQ_norm ?_
  refine W_cond (o := .tmp 28) (b := r3 != (0 : Int)) (by kernel_rfl) (by kernel_rfl) (fun h5 => ?_) (fun h5 => ?_)
  · replace h := ofT h5 h
    refine W_seq (by kernel_rfl) ?_
    refine W_run 8 [] [8] [] (fr' := [(8, aB ((r1.2 == r3) && (r1.1 == (0 : Int))))]) (L' := []) (obs := []) (by kernel_rfl) (by kernel_rfl) (by kernel_rfl) allP0 ?_
    refine seqQ_norm ?_
    obtain rfl := Option.some.inj h
    refine W_ret [8] [] (fr' := [(8, aB ((r1.2 == r3) && (r1.1 == (0 : Int))))]) (L' := []) (by kernel_rfl) (by kernel_rfl) ?_
    refine seqQ_ret ?_
    exact retQ_mk (by kernel_rfl) (by kernel_rfl) (by kernel_rfl)
  · replace h := ofF h5 h
    refine W_skip [0, 1, 2, 3, 9, 10] [] (fr' := [(0, aI a0), (1, aD (.slice tI) a1), (2, aI a2), (3, aD (.slice (.arr 2 tI)) a3), (9, aI r1.1), (10, aI r1.2)]) (L' := []) (by kernel_rfl) (by kernel_rfl) ?_
    refine seqQ_norm ?_
    refine W_seq (by kernel_rfl) ?_
    refine W_run 1 [] [0, 1, 2, 3, 9, 10, 12] [] (fr' := [(0, aI a0), (1, aD (.slice tI) a1), (2, aI a2), (3, aD (.slice (.arr 2 tI)) a3), (9, aI r1.1), (10, aI r1.2), (12, aI (0 : Int))]) (L' := []) (obs := []) (by kernel_rfl) (by kernel_rfl) (by kernel_rfl) allP0 ?_
    refine seqQ_norm ?_
    refine W_seq (by kernel_rfl) ?_
    refine W_seq (by kernel_rfl) ?_
    refine W_run 1 [] [0, 1, 2, 3, 9, 10, 12, 13] [] (fr' := [(0, aI a0), (1, aD (.slice tI) a1), (2, aI a2), (3, aD (.slice (.arr 2 tI)) a3), (9, aI r1.1), (10, aI r1.2), (12, aI (0 : Int)), (13, aI (0 : Int))]) (L' := []) (obs := []) (by kernel_rfl) (by kernel_rfl) (by kernel_rfl) allP0 ?_
    refine seqQ_norm ?_
    refine W_block (id := 0) (by kernel_rfl) ?_
    obtain ⟨v68, h69, h⟩ := bind_of h
    refine W_weaken [0, 1, 2, 3, 9, 10, 12, 13] [] (fr' := ((law_ProofFools_s5 a0 a1 a2 a3 r1) ((0 : Int), (0 : Int))).1) (L' := ((law_ProofFools_s5 a0 a1 a2 a3 r1) ((0 : Int), (0 : Int))).2) (by kernel_rfl) ?_
    refine W_cutK (W_loop (S := (law_ProofFools_s5 a0 a1 a2 a3 r1)) (J := (exQ (.exit 0) (law_ProofFools_s6 r1))) (by kernel_rfl) ?_ fuel _ v68 h69) ?_
    · rintro x27 s h
      refine W_seq (by kernel_rfl) ?_
      refine W_seq (by kernel_rfl) ?_
      refine W_region (by kernel_rfl) ?_
      refine WO_run (j := 2) (k := 2) (orcs := []) (kF := [0, 1, 2, 3, 9, 10, 12, 13, 36, 37]) (kL := []) (fr' := [(0, aI a0), (1, aD (.slice tI) a1), (2, aI a2), (3, aD (.slice (.arr 2 tI)) a3), (9, aI r1.1), (10, aI r1.2), (12, aI x27.1), (13, aI x27.2), (36, aI x27.2), (37, aI a0)]) (L' := []) (obs := []) rfl (by kernel_rfl) allP0 ?_
      obtain ⟨r48, h49, h⟩ := bind_of h
      refine WO_call0 (us := [none, none]) (d := 38) (p := True) (j := 3) rfl ⟨by kernel_rfl, by kernel_rfl, by kernel_rfl⟩ trivial (ref_Power_ok h49) (by kernel_rfl) ?_
      refine WO_run (j := 4) (k := 1) (orcs := []) (kF := [0, 1, 2, 3, 9, 10, 12, 13, 39]) (kL := []) (fr' := [(0, aI a0), (1, aD (.slice tI) a1), (2, aI a2), (3, aD (.slice (.arr 2 tI)) a3), (9, aI r1.1), (10, aI r1.2), (12, aI x27.1), (13, aI x27.2), (39, aB (decide (x27.2 < r48)))]) (L' := []) (obs := []) rfl (by kernel_rfl) allP0 ?_
      refine WO_fin [0, 1, 2, 3, 9, 10, 12, 13, 39] [] (fr' := [(0, aI a0), (1, aD (.slice tI) a1), (2, aI a2), (3, aD (.slice (.arr 2 tI)) a3), (9, aI r1.1), (10, aI r1.2), (12, aI x27.1), (13, aI x27.2), (39, aB (decide (x27.2 < r48)))]) (L' := []) (by kernel_rfl) (by kernel_rfl) ?_
      refine seqQ_norm ?_
      refine W_cond (o := .tmp 39) (b := decide (x27.2 < r48)) (by kernel_rfl) (by kernel_rfl) (fun h50 => ?_) (fun h50 => ?_)
      · replace h := ofT h50 h
        refine W_skip [0, 1, 2, 3, 9, 10, 12, 13] [] (fr' := [(0, aI a0), (1, aD (.slice tI) a1), (2, aI a2), (3, aD (.slice (.arr 2 tI)) a3), (9, aI r1.1), (10, aI r1.2), (12, aI x27.1), (13, aI x27.2)]) (L' := []) (by kernel_rfl) (by kernel_rfl) ?_
        refine seqQ_norm ?_
        refine W_seq (by kernel_rfl) ?_
        obtain ⟨v66, h67, h⟩ := bind_of h
        refine W_cutK (Q' := (exQ .normal (law_ProofFools_s3 a0 a1 a2 a3 r1 x27)) v66) ?_ ?_
        · replace h := h67
          refine W_block (id := 1) (by kernel_rfl) ?_
          refine W_seq (by kernel_rfl) ?_
          refine W_region (by kernel_rfl) ?_
          refine WO_run (j := 6) (k := 6) (orcs := []) (kF := [0, 1, 2, 3, 9, 10, 12, 13, 42, 43, 44, 45, 46, 47]) (kL := []) (fr' := [(0, aI a0), (1, aD (.slice tI) a1), (2, aI a2), (3, aD (.slice (.arr 2 tI)) a3), (9, aI r1.1), (10, aI r1.2), (12, aI x27.1), (13, aI x27.2), (42, aI a0), (43, aD (.slice tI) a1), (44, aI a2), (45, aD (.slice (.arr 2 tI)) a3), (46, aI a0), (47, aI x27.2)]) (L' := []) (obs := []) rfl (by kernel_rfl) allP0 ?_
          obtain ⟨r61, h62, h⟩ := bind_of h
          refine WO_call0 (us := [none, none, none]) (d := 48) (p := True) (j := 7) rfl ⟨by kernel_rfl, by kernel_rfl, by kernel_rfl⟩ trivial (ref_Dice_ok h62) (by kernel_rfl) ?_
          obtain ⟨r63, h64, h⟩ := bind_of h
          refine WO_call0 (us := [none, none, none, none, none]) (d := 49) (p := True) (j := 8) rfl ⟨by kernel_rfl, by kernel_rfl, by kernel_rfl⟩ trivial (ref_Believed_ok h64) (by kernel_rfl) ?_
          refine WO_fin [0, 1, 2, 3, 9, 10, 12, 13, 49] [] (fr' := [(0, aI a0), (1, aD (.slice tI) a1), (2, aI a2), (3, aD (.slice (.arr 2 tI)) a3), (9, aI r1.1), (10, aI r1.2), (12, aI x27.1), (13, aI x27.2), (49, aB r63)]) (L' := []) (by kernel_rfl) (by kernel_rfl) ?_
          refine seqQ_norm ?_
          refine W_cond (o := .tmp 49) (b := r63) (by kernel_rfl) (by kernel_rfl) (fun h65 => ?_) (fun h65 => ?_)
          · replace h := ofT h65 h
            obtain rfl := Option.some.inj h
            refine W_run 3 [] [0, 1, 2, 3, 9, 10, 12, 13] [] (fr' := [(0, aI a0), (1, aD (.slice tI) a1), (2, aI a2), (3, aD (.slice (.arr 2 tI)) a3), (9, aI r1.1), (10, aI r1.2), (12, aI (w64 (x27.1 + (1 : Int)))), (13, aI x27.2)]) (L' := []) (obs := []) (by kernel_rfl) (by kernel_rfl) (by kernel_rfl) allP0 ?_
            refine blockQ_norm ?_
            exact exQ_mk (by kernel_rfl) (by kernel_rfl)
          · replace h := ofF h65 h
            obtain rfl := Option.some.inj h
            refine W_skip [0, 1, 2, 3, 9, 10, 12, 13] [] (fr' := [(0, aI a0), (1, aD (.slice tI) a1), (2, aI a2), (3, aD (.slice (.arr 2 tI)) a3), (9, aI r1.1), (10, aI r1.2), (12, aI x27.1), (13, aI x27.2)]) (L' := []) (by kernel_rfl) (by kernel_rfl) ?_
            refine blockQ_norm ?_
            exact exQ_mk (by kernel_rfl) (by kernel_rfl)
        · intro e fr L hJ
          obtain ⟨rfl, rfl, rfl⟩ := hJ
          refine LT_keep [0, 1, 2, 3, 9, 10, 12, 13] [] (fr' := [(0, aI a0), (1, aD (.slice tI) a1), (2, aI a2), (3, aD (.slice (.arr 2 tI)) a3), (9, aI r1.1), (10, aI r1.2), (12, aI v66), (13, aI x27.2)]) (L' := []) (by kernel_rfl) ?_
          refine seqQ_norm ?_
          obtain rfl := Option.some.inj h
          refine W_run 3 [] [0, 1, 2, 3, 9, 10, 12, 13] [] (fr' := [(0, aI a0), (1, aD (.slice tI) a1), (2, aI a2), (3, aD (.slice (.arr 2 tI)) a3), (9, aI r1.1), (10, aI r1.2), (12, aI v66), (13, aI (w64 (x27.2 + (1 : Int))))]) (L' := []) (obs := []) (by kernel_rfl) (by kernel_rfl) (by kernel_rfl) allP0 ?_
          exact round_next' (by kernel_rfl) (by kernel_rfl)
      · replace h := ofF h50 h
        obtain rfl := Option.some.inj h
        refine W_exit (id := 0) [9, 10, 12] [] (fr' := [(9, aI r1.1), (10, aI r1.2), (12, aI x27.1)]) (L' := []) (by kernel_rfl) (by kernel_rfl) ?_
        refine seqQ_exit ?_
        refine round_exit ?_
        exact exQ_mk (by kernel_rfl) (by kernel_rfl)
    · intro e fr L hJ
      obtain ⟨rfl, rfl, rfl⟩ := hJ
      refine LT_keep [9, 10, 12] [] (fr' := [(9, aI r1.1), (10, aI r1.2), (12, aI v68)]) (L' := []) (by kernel_rfl) ?_
      refine blockQ_hit ?_
      refine seqQ_norm ?_
      refine W_seq (by kernel_rfl) ?_
      refine W_run 8 [] [8] [] (fr' := [(8, aB ((r1.2 == (0 : Int)) && (r1.1 == v68)))]) (L' := []) (obs := []) (by kernel_rfl) (by kernel_rfl) (by kernel_rfl) allP0 ?_
      refine seqQ_norm ?_
      obtain rfl := Option.some.inj h
      refine W_ret [8] [] (fr' := [(8, aB ((r1.2 == (0 : Int)) && (r1.1 == v68)))]) (L' := []) (by kernel_rfl) (by kernel_rfl) ?_
      exact retQ_mk (by kernel_rfl) (by kernel_rfl) (by kernel_rfl)
end Go.Proofs.Ytbicjcdenfcojaa.proofFools
