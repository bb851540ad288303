/- What the functions that ProofSums calls compute, as models, and that they compute it: written by a program of mine. -/
import Derived.Test.YtjgpfbdenfoffaaProg
import Derived.Test.YtjgpfbdenfoffaaSl3
set_option linter.all false
set_option maxRecDepth 100000
namespace Go.Proofs.Ytjgpfbdenfoffaa.proofSums
open Go Go.Sl
def proof_bad (a0 : Int) : Option Bool :=
some ((decide (a0 < (0 : Int))) || (decide (a0 ≥ (7 : Int))))
theorem proof_bad_ok {a0 : Int} {r : Bool} (h : proof_bad a0 = some r) : FnC Try.prog 47 [aI a0] [] (aB r) [] := by
  refine fnC_of_W (B := bodyOf Try.f47) (n := 9) Try.func47 (by kernel_rfl) (by kernel_rfl) (by kernel_rfl) (by kernel_rfl) (by kernel_rfl) ?_
  intro K
  refine W_seq (by kernel_rfl) ?_
  refine W_run 1 [] [0] [] (fr' := [(0, aI a0)]) (L' := []) (obs := []) (by kernel_rfl) (by kernel_rfl) (by kernel_rfl) allP0 ?_
  refine seqQ_norm ?_
  refine W_seq (by kernel_rfl) ?_
  refine W_run 7 [] [2] [] (fr' := [(2, aB ((decide (a0 < (0 : Int))) || (decide (a0 ≥ (7 : Int)))))]) (L' := []) (obs := []) (by kernel_rfl) (by kernel_rfl) (by kernel_rfl) allP0 ?_
  refine seqQ_norm ?_
  obtain rfl := Option.some.inj h
  refine W_ret [2] [] (fr' := [(2, aB ((decide (a0 < (0 : Int))) || (decide (a0 ≥ (7 : Int)))))]) (L' := []) (by kernel_rfl) (by kernel_rfl) ?_
  exact retQ_mk (by kernel_rfl) (by kernel_rfl) (by kernel_rfl)

def slices_IndexFunc_Lintint_with_proof_bad_b1 (i15 : Int) (v18 : Int) (x16 : Unit) : Option (Flow Unit (Esc Int Unit)) :=
(proof_bad v18).bind fun r21 =>
bif r21 then
(some (.done (.ret i15)))
else
(some (.next ()))
@[reducible] def slices_IndexFunc_Lintint_with_proof_bad_s2 (a0 : (List Int)) (v : Int × Unit) : Fr × LL := ([(0, aD (.slice tI) a0), (1, .one (.fn 47 [])), (7, aI (List.length a0 : Int)), (8, aI v.1)], [])
@[reducible] def slices_IndexFunc_Lintint_with_proof_bad_s3 (v : Int) : Fr × LL := ([(4, aI v)], [])
@[reducible] def slices_IndexFunc_Lintint_with_proof_bad_s4 (v : Unit) : Fr × LL := ([], [])
def slices_IndexFunc_Lintint_with_proof_bad (a0 : (List Int)) : Option Int :=
(forL slices_IndexFunc_Lintint_with_proof_bad_b1 (fun x16 => (.brk ())) a0 0 ()).bind fun v25 =>
match v25 with
| .ret v30 =>
(some v30)
| .brk v31 =>
(some (-1 : Int))
theorem slices_IndexFunc_Lintint_with_proof_bad_ok {a0 : (List Int)} {r : Int} (h : slices_IndexFunc_Lintint_with_proof_bad a0 = some r) : FnC Try.prog 66 [aD (.slice tI) a0, .one (.fn 47 [])] [] (aI r) [] := by
  refine fnC_of_W (B := bodyOf Try.f66) (n := 19) Try.func66 (by kernel_rfl) (by kernel_rfl) (by kernel_rfl) (by kernel_rfl) (by kernel_rfl) ?_
  intro K
  refine W_seq (by kernel_rfl) ?_
  refine W_run 1 [] [0, 1] [] (fr' := [(0, aD (.slice tI) a0), (1, .one (.fn 47 []))]) (L' := []) (obs := []) (by kernel_rfl) (by kernel_rfl) (by kernel_rfl) allP0 ?_
  refine seqQ_norm ?_
  refine W_seq (by kernel_rfl) ?_
  refine W_seq (by kernel_rfl) ?_
  refine W_run 3 [] [0, 1, 7, 8] [] (fr' := [(0, aD (.slice tI) a0), (1, .one (.fn 47 [])), (7, aI (List.length a0 : Int)), (8, aI (0 : Int))]) (L' := []) (obs := []) (by kernel_rfl) (by kernel_rfl) (by kernel_rfl) allP0 ?_
  refine seqQ_norm ?_
  refine W_block (id := 0) (by kernel_rfl) ?_
  obtain ⟨v25, h26, h⟩ := bind_of h
  refine W_len (t := 0) (u := tI) (xs := a0) (by kernel_rfl) (fun h29 => ?_)
  obtain ⟨h27, h28⟩ := forL_iter h29 h26
  refine W_weaken [0, 1, 7, 8] [] (fr' := ((slices_IndexFunc_Lintint_with_proof_bad_s2 a0) ((0 : Int), ())).1) (L' := ((slices_IndexFunc_Lintint_with_proof_bad_s2 a0) ((0 : Int), ())).2) (by kernel_rfl) ?_
  refine W_cutK (W_loop (S := (slices_IndexFunc_Lintint_with_proof_bad_s2 a0)) (J := (escQ (exQ .ret slices_IndexFunc_Lintint_with_proof_bad_s3) (exQ (.exit 0) slices_IndexFunc_Lintint_with_proof_bad_s4))) (by kernel_rfl) ?_ h27 _ v25 h28) ?_
  · rintro ⟨i15, x16⟩ s h
    refine W_seq (by kernel_rfl) ?_
    refine W_run 1 [] [0, 1, 7, 8, 9] [] (fr' := [(0, aD (.slice tI) a0), (1, .one (.fn 47 [])), (7, aI (List.length a0 : Int)), (8, aI i15), (9, aB (decide (i15 < (List.length a0 : Int))))]) (L' := []) (obs := []) (by kernel_rfl) (by kernel_rfl) (by kernel_rfl) allP0 ?_
    refine seqQ_norm ?_
    refine W_seq (by kernel_rfl) ?_
    refine W_cond (o := .tmp 9) (b := decide (i15 < (List.length a0 : Int))) (by kernel_rfl) (by kernel_rfl) (fun h20 => ?_) (fun h20 => ?_)
    · replace h := stepL_true h20 h
      obtain ⟨v18, _, h19, h, rfl⟩ := h
      refine W_skip [0, 1, 7, 8] [] (fr' := [(0, aD (.slice tI) a0), (1, .one (.fn 47 [])), (7, aI (List.length a0 : Int)), (8, aI i15)]) (L' := []) (by kernel_rfl) (by kernel_rfl) ?_
      refine seqQ_norm ?_
      refine W_seq (by kernel_rfl) ?_
      refine W_block (id := 1) (by kernel_rfl) ?_
      refine W_seq (by kernel_rfl) ?_
      refine W_run 2 [] [0, 1, 5, 7, 8] [] (fr' := [(0, aD (.slice tI) a0), (1, .one (.fn 47 [])), (5, aI i15), (7, aI (List.length a0 : Int)), (8, aI i15)]) (L' := []) (obs := []) (by kernel_rfl) (by kernel_rfl) (by kernel_rfl) allP0 ?_
      refine seqQ_norm ?_
      refine W_seq (by kernel_rfl) ?_
      refine W_region (by kernel_rfl) ?_
      refine WO_run (j := 5) (k := 5) (orcs := [(7, .val (.dat tI v18))]) (kF := [0, 1, 5, 7, 8, 11, 15]) (kL := []) (fr' := [(0, aD (.slice tI) a0), (1, .one (.fn 47 [])), (5, aI i15), (7, aI (List.length a0 : Int)), (8, aI i15), (11, .one (.fn 47 [])), (15, aI v18)]) (L' := []) (obs := [Idx a0 i15 v18]) rfl (by kernel_rfl) (allP1 (Idx.of h19)) ?_
      obtain ⟨r21, h22, h⟩ := bind_of h
      refine WO_call0 (us := [none]) (d := 16) (p := True) (j := 6) rfl ⟨by kernel_rfl, by kernel_rfl, by kernel_rfl⟩ trivial (proof_bad_ok h22) (by kernel_rfl) ?_
      refine WO_fin [0, 1, 5, 7, 8, 16] [] (fr' := [(0, aD (.slice tI) a0), (1, .one (.fn 47 [])), (5, aI i15), (7, aI (List.length a0 : Int)), (8, aI i15), (16, aB r21)]) (L' := []) (by kernel_rfl) (by kernel_rfl) ?_
      refine seqQ_norm ?_
      refine W_cond (o := .tmp 16) (b := r21) (by kernel_rfl) (by kernel_rfl) (fun h23 => ?_) (fun h23 => ?_)
      · replace h := ofT h23 h
        refine W_seq (by kernel_rfl) ?_
        refine W_run 2 [] [4] [] (fr' := [(4, aI i15)]) (L' := []) (obs := []) (by kernel_rfl) (by kernel_rfl) (by kernel_rfl) allP0 ?_
        refine seqQ_norm ?_
        obtain rfl := Option.some.inj h
        refine W_ret [4] [] (fr' := [(4, aI i15)]) (L' := []) (by kernel_rfl) (by kernel_rfl) ?_
        refine blockQ_ret ?_
        refine seqQ_ret ?_
        refine round_ret ?_
        refine escQ_ret ?_
        exact exQ_mk (by kernel_rfl) (by kernel_rfl)
      · replace h := ofF h23 h
        refine W_skip [0, 1, 7, 8] [] (fr' := [(0, aD (.slice tI) a0), (1, .one (.fn 47 [])), (7, aI (List.length a0 : Int)), (8, aI i15)]) (L' := []) (by kernel_rfl) (by kernel_rfl) ?_
        refine blockQ_norm ?_
        refine seqQ_norm ?_
        obtain rfl := Option.some.inj h
        refine W_run 2 [] [0, 1, 7, 8] [] (fr' := [(0, aD (.slice tI) a0), (1, .one (.fn 47 [])), (7, aI (List.length a0 : Int)), (8, aI (w64 (i15 + (1 : Int))))]) (L' := []) (obs := []) (by kernel_rfl) (by kernel_rfl) (by kernel_rfl) allP0 ?_
        exact round_next' (by kernel_rfl) (by kernel_rfl)
    · obtain rfl := stepL_false h20 h
      refine W_exit (id := 0) [] [] (fr' := []) (L' := []) (by kernel_rfl) (by kernel_rfl) ?_
      refine seqQ_exit ?_
      refine round_exit ?_
      refine escQ_brk ?_
      exact exQ_mk (by kernel_rfl) (by kernel_rfl)
  · intro e fr L hJ
    rcases v25 with v30 | v31
    · obtain ⟨rfl, rfl, rfl⟩ := hJ
      obtain rfl := Option.some.inj h
      refine LT_keep [4] [] (fr' := [(4, aI v30)]) (L' := []) (by kernel_rfl) ?_
      refine blockQ_ret ?_
      refine seqQ_ret ?_
      exact retQ_mk (by kernel_rfl) (by kernel_rfl) (by kernel_rfl)
    · obtain ⟨rfl, rfl, rfl⟩ := hJ
      refine LT_keep [] [] (fr' := []) (L' := []) (by kernel_rfl) ?_
      refine blockQ_hit ?_
      refine seqQ_norm ?_
      refine W_seq (by kernel_rfl) ?_
      refine W_run 1 [] [4] [] (fr' := [(4, aI (-1 : Int))]) (L' := []) (obs := []) (by kernel_rfl) (by kernel_rfl) (by kernel_rfl) allP0 ?_
      refine seqQ_norm ?_
      obtain rfl := Option.some.inj h
      refine W_ret [4] [] (fr' := [(4, aI (-1 : Int))]) (L' := []) (by kernel_rfl) (by kernel_rfl) ?_
      exact retQ_mk (by kernel_rfl) (by kernel_rfl) (by kernel_rfl)

def slices_ContainsFunc_Lintint_with_proof_bad (a0 : (List Int)) : Option Bool :=
(slices_IndexFunc_Lintint_with_proof_bad a0).bind fun r1 =>
some (decide (r1 ≥ (0 : Int)))
theorem slices_ContainsFunc_Lintint_with_proof_bad_ok {a0 : (List Int)} {r : Bool} (h : slices_ContainsFunc_Lintint_with_proof_bad a0 = some r) : FnC Try.prog 46 [aD (.slice tI) a0, .one (.fn 47 [])] [] (aB r) [] := by
  refine fnC_of_W (B := bodyOf Try.f46) (n := 9) Try.func46 (by kernel_rfl) (by kernel_rfl) (by kernel_rfl) (by kernel_rfl) (by kernel_rfl) ?_
  intro K
  refine W_seq (by kernel_rfl) ?_
  refine W_run 1 [] [0, 1] [] (fr' := [(0, aD (.slice tI) a0), (1, .one (.fn 47 []))]) (L' := []) (obs := []) (by kernel_rfl) (by kernel_rfl) (by kernel_rfl) allP0 ?_
  refine seqQ_norm ?_
  refine W_seq (by kernel_rfl) ?_
  refine W_region (by kernel_rfl) ?_
  refine WO_run (j := 2) (k := 2) (orcs := []) (kF := [5, 6]) (kL := []) (fr' := [(5, aD (.slice tI) a0), (6, .one (.fn 47 []))]) (L' := []) (obs := []) rfl (by kernel_rfl) allP0 ?_
  obtain ⟨r1, h2, h⟩ := bind_of h
  refine WO_call0 (us := [none, none]) (d := 7) (p := True) (j := 3) rfl ⟨by kernel_rfl, by kernel_rfl, by kernel_rfl⟩ trivial (slices_IndexFunc_Lintint_with_proof_bad_ok h2) (by kernel_rfl) ?_
  refine WO_run (j := 5) (k := 2) (orcs := []) (kF := [4]) (kL := []) (fr' := [(4, aB (decide (r1 ≥ (0 : Int))))]) (L' := []) (obs := []) rfl (by kernel_rfl) allP0 ?_
  refine WO_fin [4] [] (fr' := [(4, aB (decide (r1 ≥ (0 : Int))))]) (L' := []) (by kernel_rfl) (by kernel_rfl) ?_
  refine seqQ_norm ?_
  obtain rfl := Option.some.inj h
  refine W_ret [4] [] (fr' := [(4, aB (decide (r1 ≥ (0 : Int))))]) (L' := []) (by kernel_rfl) (by kernel_rfl) ?_
  exact retQ_mk (by kernel_rfl) (by kernel_rfl) (by kernel_rfl)

def proof_wrong (a0 : Int) (a1 : (List Int)) : Option Int :=
bif (decide (a0 < (1 : Int))) || (decide (a0 > (4 : Int))) then
(some (1 : Int))
else
((ck (0 ≤ a0)).bind fun _ =>
bif (List.length a1 : Int) != (bShl .i64 (1 : Int) a0) then
(some (3 : Int))
else
((slices_ContainsFunc_Lintint_with_proof_bad a1).bind fun r4 =>
bif r4 then
(some (4 : Int))
else
(some (0 : Int))))
theorem proof_wrong_ok {a0 : Int} {a1 : (List Int)} {r : Int} (h : proof_wrong a0 a1 = some r) : FnC Try.prog 44 [aI a0, aD (.slice tI) a1] [] (aI r) [] := by
  refine fnC_of_W (B := bodyOf Try.f44) (n := 21) Try.func44 (by kernel_rfl) (by kernel_rfl) (by kernel_rfl) (by kernel_rfl) (by kernel_rfl) ?_
  intro K
  refine W_seq (by kernel_rfl) ?_
  refine W_run 1 [] [0, 1] [] (fr' := [(0, aI a0), (1, aD (.slice tI) a1)]) (L' := []) (obs := []) (by kernel_rfl) (by kernel_rfl) (by kernel_rfl) allP0 ?_
  refine seqQ_norm ?_
  refine W_seq (by kernel_rfl) ?_
  refine W_block (id := 0) (by kernel_rfl) ?_
  refine W_seq (by kernel_rfl) ?_
  refine W_run 7 [] [0, 1, 5] [] (fr' := [(0, aI a0), (1, aD (.slice tI) a1), (5, aB ((decide (a0 < (1 : Int))) || (decide (a0 > (4 : Int)))))]) (L' := []) (obs := []) (by kernel_rfl) (by kernel_rfl) (by kernel_rfl) allP0 ?_
  refine seqQ_norm ?_
  refine W_cond (o := .tmp 5) (b := (decide (a0 < (1 : Int))) || (decide (a0 > (4 : Int)))) (by kernel_rfl) (by kernel_rfl) (fun h1 => ?_) (fun h1 => ?_)
  · replace h := ofT h1 h
    refine W_seq (by kernel_rfl) ?_
    refine W_run 1 [] [4] [] (fr' := [(4, aI (1 : Int))]) (L' := []) (obs := []) (by kernel_rfl) (by kernel_rfl) (by kernel_rfl) allP0 ?_
    refine seqQ_norm ?_
    obtain rfl := Option.some.inj h
    refine W_ret [4] [] (fr' := [(4, aI (1 : Int))]) (L' := []) (by kernel_rfl) (by kernel_rfl) ?_
    refine blockQ_ret ?_
    refine seqQ_ret ?_
    exact retQ_mk (by kernel_rfl) (by kernel_rfl) (by kernel_rfl)
  · replace h := ofF h1 h
    refine W_seq (by kernel_rfl) ?_
    obtain ⟨_, h2, h⟩ := bind_of h
    replace h2 := ck_some h2
    refine W_run 6 [] [1, 12] [] (fr' := [(1, aD (.slice tI) a1), (12, aB ((List.length a1 : Int) != (bShl .i64 (1 : Int) a0)))]) (L' := []) (obs := [(0 ≤ a0)]) (by kernel_rfl) (by kernel_rfl) (by kernel_rfl) (allP1 h2) ?_
    refine seqQ_norm ?_
    refine W_cond (o := .tmp 12) (b := (List.length a1 : Int) != (bShl .i64 (1 : Int) a0)) (by kernel_rfl) (by kernel_rfl) (fun h3 => ?_) (fun h3 => ?_)
    · replace h := ofT h3 h
      refine W_seq (by kernel_rfl) ?_
      refine W_run 1 [] [4] [] (fr' := [(4, aI (3 : Int))]) (L' := []) (obs := []) (by kernel_rfl) (by kernel_rfl) (by kernel_rfl) allP0 ?_
      refine seqQ_norm ?_
      obtain rfl := Option.some.inj h
      refine W_ret [4] [] (fr' := [(4, aI (3 : Int))]) (L' := []) (by kernel_rfl) (by kernel_rfl) ?_
      refine blockQ_ret ?_
      refine seqQ_ret ?_
      exact retQ_mk (by kernel_rfl) (by kernel_rfl) (by kernel_rfl)
    · replace h := ofF h3 h
      refine W_seq (by kernel_rfl) ?_
      refine W_region (by kernel_rfl) ?_
      refine WO_run (j := 1) (k := 1) (orcs := []) (kF := [19]) (kL := []) (fr' := [(19, aD (.slice tI) a1)]) (L' := []) (obs := []) rfl (by kernel_rfl) allP0 ?_
      obtain ⟨r4, h5, h⟩ := bind_of h
      refine WO_call0 (us := [none, none]) (d := 20) (p := True) (j := 2) rfl ⟨by kernel_rfl, by kernel_rfl, by kernel_rfl⟩ trivial (slices_ContainsFunc_Lintint_with_proof_bad_ok h5) (by kernel_rfl) ?_
      refine WO_run (j := 3) (k := 1) (orcs := []) (kF := [18]) (kL := []) (fr' := [(18, aB r4)]) (L' := []) (obs := []) rfl (by kernel_rfl) allP0 ?_
      refine WO_fin [18] [] (fr' := [(18, aB r4)]) (L' := []) (by kernel_rfl) (by kernel_rfl) ?_
      refine seqQ_norm ?_
      refine W_cond (o := .tmp 18) (b := r4) (by kernel_rfl) (by kernel_rfl) (fun h6 => ?_) (fun h6 => ?_)
      · replace h := ofT h6 h
        refine W_seq (by kernel_rfl) ?_
        refine W_run 1 [] [4] [] (fr' := [(4, aI (4 : Int))]) (L' := []) (obs := []) (by kernel_rfl) (by kernel_rfl) (by kernel_rfl) allP0 ?_
        refine seqQ_norm ?_
        obtain rfl := Option.some.inj h
        refine W_ret [4] [] (fr' := [(4, aI (4 : Int))]) (L' := []) (by kernel_rfl) (by kernel_rfl) ?_
        refine blockQ_ret ?_
        refine seqQ_ret ?_
        exact retQ_mk (by kernel_rfl) (by kernel_rfl) (by kernel_rfl)
      · replace h := ofF h6 h
        refine W_skip [] [] (fr' := []) (L' := []) (by kernel_rfl) (by kernel_rfl) ?_
        refine blockQ_norm ?_
        refine seqQ_norm ?_
        refine W_seq (by kernel_rfl) ?_
        refine W_run 1 [] [4] [] (fr' := [(4, aI (0 : Int))]) (L' := []) (obs := []) (by kernel_rfl) (by kernel_rfl) (by kernel_rfl) allP0 ?_
        refine seqQ_norm ?_
        obtain rfl := Option.some.inj h
        refine W_ret [4] [] (fr' := [(4, aI (0 : Int))]) (L' := []) (by kernel_rfl) (by kernel_rfl) ?_
        exact retQ_mk (by kernel_rfl) (by kernel_rfl) (by kernel_rfl)

def proof_sum_b1 (i9 : Int) (v12 : Int) (x10 : Int) : Option (Flow Int Int) :=
some (.next (w64 (x10 + v12)))
@[reducible] def proof_sum_s2 (a0 : (List Int)) (v : Int × Int) : Fr × LL := ([(3, aI v.2), (6, aD (.slice tI) a0), (7, aI (List.length a0 : Int)), (8, aI v.1)], [])
@[reducible] def proof_sum_s3 (v : Int) : Fr × LL := ([(3, aI v)], [])
def proof_sum (a0 : (List Int)) : Option Int :=
(forL proof_sum_b1 (fun x10 => x10) a0 0 (0 : Int)).bind fun v16 =>
some (Int.tmod v16 (7 : Int))
theorem proof_sum_ok {a0 : (List Int)} {r : Int} (h : proof_sum a0 = some r) : FnC Try.prog 45 [aD (.slice tI) a0] [] (aI r) [] := by
  refine fnC_of_W (B := bodyOf Try.f45) (n := 18) Try.func45 (by kernel_rfl) (by kernel_rfl) (by kernel_rfl) (by kernel_rfl) (by kernel_rfl) ?_
  intro K
  refine W_seq (by kernel_rfl) ?_
  refine W_run 1 [] [0] [] (fr' := [(0, aD (.slice tI) a0)]) (L' := []) (obs := []) (by kernel_rfl) (by kernel_rfl) (by kernel_rfl) allP0 ?_
  refine seqQ_norm ?_
  refine W_seq (by kernel_rfl) ?_
  refine W_run 1 [] [0, 3] [] (fr' := [(0, aD (.slice tI) a0), (3, aI (0 : Int))]) (L' := []) (obs := []) (by kernel_rfl) (by kernel_rfl) (by kernel_rfl) allP0 ?_
  refine seqQ_norm ?_
  refine W_seq (by kernel_rfl) ?_
  refine W_seq (by kernel_rfl) ?_
  refine W_run 3 [] [3, 6, 7, 8] [] (fr' := [(3, aI (0 : Int)), (6, aD (.slice tI) a0), (7, aI (List.length a0 : Int)), (8, aI (0 : Int))]) (L' := []) (obs := []) (by kernel_rfl) (by kernel_rfl) (by kernel_rfl) allP0 ?_
  refine seqQ_norm ?_
  refine W_block (id := 0) (by kernel_rfl) ?_
  obtain ⟨v16, h17, h⟩ := bind_of h
  refine W_len (t := 6) (u := tI) (xs := a0) (by kernel_rfl) (fun h20 => ?_)
  obtain ⟨h18, h19⟩ := forL_iter h20 h17
  refine W_weaken [3, 6, 7, 8] [] (fr' := ((proof_sum_s2 a0) ((0 : Int), (0 : Int))).1) (L' := ((proof_sum_s2 a0) ((0 : Int), (0 : Int))).2) (by kernel_rfl) ?_
  refine W_cutK (W_loop (S := (proof_sum_s2 a0)) (J := (exQ (.exit 0) proof_sum_s3)) (by kernel_rfl) ?_ h18 _ v16 h19) ?_
  · rintro ⟨i9, x10⟩ s h
    refine W_seq (by kernel_rfl) ?_
    refine W_run 1 [] [3, 6, 7, 8, 9] [] (fr' := [(3, aI x10), (6, aD (.slice tI) a0), (7, aI (List.length a0 : Int)), (8, aI i9), (9, aB (decide (i9 < (List.length a0 : Int))))]) (L' := []) (obs := []) (by kernel_rfl) (by kernel_rfl) (by kernel_rfl) allP0 ?_
    refine seqQ_norm ?_
    refine W_seq (by kernel_rfl) ?_
    refine W_cond (o := .tmp 9) (b := decide (i9 < (List.length a0 : Int))) (by kernel_rfl) (by kernel_rfl) (fun h14 => ?_) (fun h14 => ?_)
    · replace h := stepL_true h14 h
      obtain ⟨v12, _, h13, h, rfl⟩ := h
      refine W_skip [3, 6, 7, 8] [] (fr' := [(3, aI x10), (6, aD (.slice tI) a0), (7, aI (List.length a0 : Int)), (8, aI i9)]) (L' := []) (by kernel_rfl) (by kernel_rfl) ?_
      refine seqQ_norm ?_
      refine W_seq (by kernel_rfl) ?_
      refine W_block (id := 1) (by kernel_rfl) ?_
      refine W_seq (by kernel_rfl) ?_
      refine W_run 3 [(1, .val (.dat tI v12))] [3, 5, 6, 7, 8] [] (fr' := [(3, aI x10), (5, aI v12), (6, aD (.slice tI) a0), (7, aI (List.length a0 : Int)), (8, aI i9)]) (L' := []) (obs := [Idx a0 i9 v12]) (by kernel_rfl) (by kernel_rfl) (by kernel_rfl) (allP1 (Idx.of h13)) ?_
      refine seqQ_norm ?_
      refine W_run 4 [] [3, 6, 7, 8] [] (fr' := [(3, aI (w64 (x10 + v12))), (6, aD (.slice tI) a0), (7, aI (List.length a0 : Int)), (8, aI i9)]) (L' := []) (obs := []) (by kernel_rfl) (by kernel_rfl) (by kernel_rfl) allP0 ?_
      refine blockQ_norm ?_
      refine seqQ_norm ?_
      obtain rfl := Option.some.inj h
      refine W_run 2 [] [3, 6, 7, 8] [] (fr' := [(3, aI (w64 (x10 + v12))), (6, aD (.slice tI) a0), (7, aI (List.length a0 : Int)), (8, aI (w64 (i9 + (1 : Int))))]) (L' := []) (obs := []) (by kernel_rfl) (by kernel_rfl) (by kernel_rfl) allP0 ?_
      exact round_next' (by kernel_rfl) (by kernel_rfl)
    · obtain rfl := stepL_false h14 h
      refine W_exit (id := 0) [3] [] (fr' := [(3, aI x10)]) (L' := []) (by kernel_rfl) (by kernel_rfl) ?_
      refine seqQ_exit ?_
      refine round_exit ?_
      exact exQ_mk (by kernel_rfl) (by kernel_rfl)
  · intro e fr L hJ
    obtain ⟨rfl, rfl, rfl⟩ := hJ
    refine LT_keep [3] [] (fr' := [(3, aI v16)]) (L' := []) (by kernel_rfl) ?_
    refine blockQ_hit ?_
    refine seqQ_norm ?_
    refine W_seq (by kernel_rfl) ?_
    refine W_run 3 [] [2] [] (fr' := [(2, aI (Int.tmod v16 (7 : Int)))]) (L' := []) (obs := [((7 : Int) ≠ 0)]) (by kernel_rfl) (by kernel_rfl) (by kernel_rfl) (allP1 (by decide)) ?_
    refine seqQ_norm ?_
    obtain rfl := Option.some.inj h
    refine W_ret [2] [] (fr' := [(2, aI (Int.tmod v16 (7 : Int)))]) (L' := []) (by kernel_rfl) (by kernel_rfl) ?_
    exact retQ_mk (by kernel_rfl) (by kernel_rfl) (by kernel_rfl)

def proof_Sum (a0 : Int) (a1 : (List Int)) : Option (Int × Int) :=
(proof_wrong a0 a1).bind fun r1 =>
bif r1 != (0 : Int) then
(some ((0 : Int), r1))
else
((proof_sum a1).bind fun r4 =>
some (r4, (0 : Int)))
theorem proof_Sum_ok {a0 : Int} {a1 : (List Int)} {r : (Int × Int)} (h : proof_Sum a0 a1 = some r) : FnC Try.prog 14 [aI a0, aD (.slice tI) a1] [] (.tup [.dat tI r.1, .dat tI r.2]) [] := by
  refine fnC_of_W (B := bodyOf Try.f14) (n := 15) Try.func14 (by kernel_rfl) (by kernel_rfl) (by kernel_rfl) (by kernel_rfl) (by kernel_rfl) ?_
  intro K
  refine W_seq (by kernel_rfl) ?_
  refine W_run 2 [] [0, 1] [] (fr' := [(0, aI a0), (1, aD (.slice tI) a1)]) (L' := []) (obs := []) (by kernel_rfl) (by kernel_rfl) (by kernel_rfl) allP0 ?_
  refine seqQ_norm ?_
  refine W_seq (by kernel_rfl) ?_
  refine W_seq (by kernel_rfl) ?_
  refine W_region (by kernel_rfl) ?_
  refine WO_run (j := 2) (k := 2) (orcs := []) (kF := [1, 7, 8]) (kL := []) (fr' := [(1, aD (.slice tI) a1), (7, aI a0), (8, aD (.slice tI) a1)]) (L' := []) (obs := []) rfl (by kernel_rfl) allP0 ?_
  obtain ⟨r1, h2, h⟩ := bind_of h
  refine WO_call0 (us := [none, none]) (d := 9) (p := True) (j := 3) rfl ⟨by kernel_rfl, by kernel_rfl, by kernel_rfl⟩ trivial (proof_wrong_ok h2) (by kernel_rfl) ?_
  refine WO_run (j := 4) (k := 1) (orcs := []) (kF := [1, 6]) (kL := []) (fr' := [(1, aD (.slice tI) a1), (6, aI r1)]) (L' := []) (obs := []) rfl (by kernel_rfl) allP0 ?_
  refine WO_fin [1, 6] [] (fr' := [(1, aD (.slice tI) a1), (6, aI r1)]) (L' := []) (by kernel_rfl) (by kernel_rfl) ?_
  refine seqQ_norm ?_
  refine W_seq (by kernel_rfl) ?_
  refine W_run 2 [] [1, 6, 11] [] (fr' := [(1, aD (.slice tI) a1), (6, aI r1), (11, aB (r1 != (0 : Int)))]) (L' := []) (obs := []) (by kernel_rfl) (by kernel_rfl) (by kernel_rfl) allP0 ?_
  refine seqQ_norm ?_
  refine W_cond (o := .tmp 11) (b := r1 != (0 : Int)) (by kernel_rfl) (by kernel_rfl) (fun h3 => ?_) (fun h3 => ?_)
  · replace h := ofT h3 h
    refine W_seq (by kernel_rfl) ?_
    refine W_run 3 [] [4, 5] [] (fr' := [(4, aI (0 : Int)), (5, aI r1)]) (L' := []) (obs := []) (by kernel_rfl) (by kernel_rfl) (by kernel_rfl) allP0 ?_
    refine seqQ_norm ?_
    obtain rfl := Option.some.inj h
    refine W_ret [4, 5] [] (fr' := [(4, aI (0 : Int)), (5, aI r1)]) (L' := []) (by kernel_rfl) (by kernel_rfl) ?_
    refine seqQ_ret ?_
    exact retQ_mk (by kernel_rfl) (by kernel_rfl) (by kernel_rfl)
  · replace h := ofF h3 h
    refine W_skip [1] [] (fr' := [(1, aD (.slice tI) a1)]) (L' := []) (by kernel_rfl) (by kernel_rfl) ?_
    refine seqQ_norm ?_
    refine W_seq (by kernel_rfl) ?_
    refine W_region (by kernel_rfl) ?_
    refine WO_run (j := 1) (k := 1) (orcs := []) (kF := [13]) (kL := []) (fr' := [(13, aD (.slice tI) a1)]) (L' := []) (obs := []) rfl (by kernel_rfl) allP0 ?_
    obtain ⟨r4, h5, h⟩ := bind_of h
    refine WO_call0 (us := [none]) (d := 14) (p := True) (j := 2) rfl ⟨by kernel_rfl, by kernel_rfl, by kernel_rfl⟩ trivial (proof_sum_ok h5) (by kernel_rfl) ?_
    refine WO_run (j := 4) (k := 2) (orcs := []) (kF := [4, 5]) (kL := []) (fr' := [(4, aI r4), (5, aI (0 : Int))]) (L' := []) (obs := []) rfl (by kernel_rfl) allP0 ?_
    refine WO_fin [4, 5] [] (fr' := [(4, aI r4), (5, aI (0 : Int))]) (L' := []) (by kernel_rfl) (by kernel_rfl) ?_
    refine seqQ_norm ?_
    obtain rfl := Option.some.inj h
    refine W_ret [4, 5] [] (fr' := [(4, aI r4), (5, aI (0 : Int))]) (L' := []) (by kernel_rfl) (by kernel_rfl) ?_
    exact retQ_mk (by kernel_rfl) (by kernel_rfl) (by kernel_rfl)

def ref_Within (a0 : Int) (a1 : Int) (a2 : Int) : Option Bool :=
some ((decide (a0 ≤ a1)) && (decide (a1 ≤ a2)))
theorem ref_Within_ok {a0 : Int} {a1 : Int} {a2 : Int} {r : Bool} (h : ref_Within a0 a1 a2 = some r) : FnC Try.prog 32 [aI a0, aI a1, aI a2] [] (aB r) [] := by
  refine fnC_of_W (B := bodyOf Try.f32) (n := 15) Try.func32 (by kernel_rfl) (by kernel_rfl) (by kernel_rfl) (by kernel_rfl) (by kernel_rfl) ?_
  intro K
  refine W_seq (by kernel_rfl) ?_
  refine W_run 1 [] [0, 1, 2] [] (fr' := [(0, aI a0), (1, aI a1), (2, aI a2)]) (L' := []) (obs := []) (by kernel_rfl) (by kernel_rfl) (by kernel_rfl) allP0 ?_
  refine seqQ_norm ?_
  refine W_seq (by kernel_rfl) ?_
  refine W_run 9 [] [6] [] (fr' := [(6, aB ((decide (a0 ≤ a1)) && (decide (a1 ≤ a2))))]) (L' := []) (obs := []) (by kernel_rfl) (by kernel_rfl) (by kernel_rfl) allP0 ?_
  refine seqQ_norm ?_
  obtain rfl := Option.some.inj h
  refine W_ret [6] [] (fr' := [(6, aB ((decide (a0 ≤ a1)) && (decide (a1 ≤ a2))))]) (L' := []) (by kernel_rfl) (by kernel_rfl) ?_
  exact retQ_mk (by kernel_rfl) (by kernel_rfl) (by kernel_rfl)

def ref_Inside_b1 (a0 : Int) (i11 : Int) (v14 : Int) (x12 : Unit) : Option (Flow Unit (Esc Bool Unit)) :=
bif (decide (v14 < (0 : Int))) || (decide (v14 ≥ a0)) then
(some (.done (.ret false)))
else
(some (.next ()))
@[reducible] def ref_Inside_s2 (a0 : Int) (a1 : (List Int)) (v : Int × Unit) : Fr × LL := ([(0, aI a0), (7, aD (.slice tI) a1), (8, aI (List.length a1 : Int)), (9, aI v.1)], [])
@[reducible] def ref_Inside_s3 (v : Bool) : Fr × LL := ([(4, aB v)], [])
@[reducible] def ref_Inside_s4 (v : Unit) : Fr × LL := ([], [])
def ref_Inside (a0 : Int) (a1 : (List Int)) : Option Bool :=
(forL (ref_Inside_b1 a0) (fun x12 => (.brk ())) a1 0 ()).bind fun v19 =>
match v19 with
| .ret v24 =>
(some v24)
| .brk v25 =>
(some true)
theorem ref_Inside_ok {a0 : Int} {a1 : (List Int)} {r : Bool} (h : ref_Inside a0 a1 = some r) : FnC Try.prog 17 [aI a0, aD (.slice tI) a1] [] (aB r) [] := by
  refine fnC_of_W (B := bodyOf Try.f17) (n := 21) Try.func17 (by kernel_rfl) (by kernel_rfl) (by kernel_rfl) (by kernel_rfl) (by kernel_rfl) ?_
  intro K
  refine W_seq (by kernel_rfl) ?_
  refine W_run 1 [] [0, 1] [] (fr' := [(0, aI a0), (1, aD (.slice tI) a1)]) (L' := []) (obs := []) (by kernel_rfl) (by kernel_rfl) (by kernel_rfl) allP0 ?_
  refine seqQ_norm ?_
  refine W_seq (by kernel_rfl) ?_
  refine W_seq (by kernel_rfl) ?_
  refine W_run 3 [] [0, 7, 8, 9] [] (fr' := [(0, aI a0), (7, aD (.slice tI) a1), (8, aI (List.length a1 : Int)), (9, aI (0 : Int))]) (L' := []) (obs := []) (by kernel_rfl) (by kernel_rfl) (by kernel_rfl) allP0 ?_
  refine seqQ_norm ?_
  refine W_block (id := 0) (by kernel_rfl) ?_
  obtain ⟨v19, h20, h⟩ := bind_of h
  refine W_len (t := 7) (u := tI) (xs := a1) (by kernel_rfl) (fun h23 => ?_)
  obtain ⟨h21, h22⟩ := forL_iter h23 h20
  refine W_weaken [0, 7, 8, 9] [] (fr' := ((ref_Inside_s2 a0 a1) ((0 : Int), ())).1) (L' := ((ref_Inside_s2 a0 a1) ((0 : Int), ())).2) (by kernel_rfl) ?_
  refine W_cutK (W_loop (S := (ref_Inside_s2 a0 a1)) (J := (escQ (exQ .ret ref_Inside_s3) (exQ (.exit 0) ref_Inside_s4))) (by kernel_rfl) ?_ h21 _ v19 h22) ?_
  · rintro ⟨i11, x12⟩ s h
    refine W_seq (by kernel_rfl) ?_
    refine W_run 1 [] [0, 7, 8, 9, 10] [] (fr' := [(0, aI a0), (7, aD (.slice tI) a1), (8, aI (List.length a1 : Int)), (9, aI i11), (10, aB (decide (i11 < (List.length a1 : Int))))]) (L' := []) (obs := []) (by kernel_rfl) (by kernel_rfl) (by kernel_rfl) allP0 ?_
    refine seqQ_norm ?_
    refine W_seq (by kernel_rfl) ?_
    refine W_cond (o := .tmp 10) (b := decide (i11 < (List.length a1 : Int))) (by kernel_rfl) (by kernel_rfl) (fun h16 => ?_) (fun h16 => ?_)
    · replace h := stepL_true h16 h
      obtain ⟨v14, _, h15, h, rfl⟩ := h
      refine W_skip [0, 7, 8, 9] [] (fr' := [(0, aI a0), (7, aD (.slice tI) a1), (8, aI (List.length a1 : Int)), (9, aI i11)]) (L' := []) (by kernel_rfl) (by kernel_rfl) ?_
      refine seqQ_norm ?_
      refine W_seq (by kernel_rfl) ?_
      refine W_block (id := 1) (by kernel_rfl) ?_
      refine W_seq (by kernel_rfl) ?_
      refine W_run 3 [(1, .val (.dat tI v14))] [0, 6, 7, 8, 9] [] (fr' := [(0, aI a0), (6, aI v14), (7, aD (.slice tI) a1), (8, aI (List.length a1 : Int)), (9, aI i11)]) (L' := []) (obs := [Idx a1 i11 v14]) (by kernel_rfl) (by kernel_rfl) (by kernel_rfl) (allP1 (Idx.of h15)) ?_
      refine seqQ_norm ?_
      refine W_seq (by kernel_rfl) ?_
      refine W_run 7 [] [0, 7, 8, 9, 19] [] (fr' := [(0, aI a0), (7, aD (.slice tI) a1), (8, aI (List.length a1 : Int)), (9, aI i11), (19, aB ((decide (v14 < (0 : Int))) || (decide (v14 ≥ a0))))]) (L' := []) (obs := []) (by kernel_rfl) (by kernel_rfl) (by kernel_rfl) allP0 ?_
      refine seqQ_norm ?_
      refine W_cond (o := .tmp 19) (b := (decide (v14 < (0 : Int))) || (decide (v14 ≥ a0))) (by kernel_rfl) (by kernel_rfl) (fun h17 => ?_) (fun h17 => ?_)
      · replace h := ofT h17 h
        refine W_seq (by kernel_rfl) ?_
        refine W_run 1 [] [4] [] (fr' := [(4, aB false)]) (L' := []) (obs := []) (by kernel_rfl) (by kernel_rfl) (by kernel_rfl) allP0 ?_
        refine seqQ_norm ?_
        obtain rfl := Option.some.inj h
        refine W_ret [4] [] (fr' := [(4, aB false)]) (L' := []) (by kernel_rfl) (by kernel_rfl) ?_
        refine blockQ_ret ?_
        refine seqQ_ret ?_
        refine round_ret ?_
        refine escQ_ret ?_
        exact exQ_mk (by kernel_rfl) (by kernel_rfl)
      · replace h := ofF h17 h
        refine W_skip [0, 7, 8, 9] [] (fr' := [(0, aI a0), (7, aD (.slice tI) a1), (8, aI (List.length a1 : Int)), (9, aI i11)]) (L' := []) (by kernel_rfl) (by kernel_rfl) ?_
        refine blockQ_norm ?_
        refine seqQ_norm ?_
        obtain rfl := Option.some.inj h
        refine W_run 2 [] [0, 7, 8, 9] [] (fr' := [(0, aI a0), (7, aD (.slice tI) a1), (8, aI (List.length a1 : Int)), (9, aI (w64 (i11 + (1 : Int))))]) (L' := []) (obs := []) (by kernel_rfl) (by kernel_rfl) (by kernel_rfl) allP0 ?_
        exact round_next' (by kernel_rfl) (by kernel_rfl)
    · obtain rfl := stepL_false h16 h
      refine W_exit (id := 0) [] [] (fr' := []) (L' := []) (by kernel_rfl) (by kernel_rfl) ?_
      refine seqQ_exit ?_
      refine round_exit ?_
      refine escQ_brk ?_
      exact exQ_mk (by kernel_rfl) (by kernel_rfl)
  · intro e fr L hJ
    rcases v19 with v24 | v25
    · obtain ⟨rfl, rfl, rfl⟩ := hJ
      obtain rfl := Option.some.inj h
      refine LT_keep [4] [] (fr' := [(4, aB v24)]) (L' := []) (by kernel_rfl) ?_
      refine blockQ_ret ?_
      refine seqQ_ret ?_
      exact retQ_mk (by kernel_rfl) (by kernel_rfl) (by kernel_rfl)
    · obtain ⟨rfl, rfl, rfl⟩ := hJ
      refine LT_keep [] [] (fr' := []) (L' := []) (by kernel_rfl) ?_
      refine blockQ_hit ?_
      refine seqQ_norm ?_
      refine W_seq (by kernel_rfl) ?_
      refine W_run 1 [] [4] [] (fr' := [(4, aB true)]) (L' := []) (obs := []) (by kernel_rfl) (by kernel_rfl) (by kernel_rfl) allP0 ?_
      refine seqQ_norm ?_
      obtain rfl := Option.some.inj h
      refine W_ret [4] [] (fr' := [(4, aB true)]) (L' := []) (by kernel_rfl) (by kernel_rfl) ?_
      exact retQ_mk (by kernel_rfl) (by kernel_rfl) (by kernel_rfl)

def ref_SumCheck (a0 : Int) (a1 : (List Int)) : Option Int :=
(ref_Within (1 : Int) a0 (4 : Int)).bind fun r1 =>
bif !r1 then
(some (1 : Int))
else
((ck (0 ≤ IntKind.wrap .u64 (a0))).bind fun _ =>
bif (List.length a1 : Int) != (bShl .i64 (1 : Int) (IntKind.wrap .u64 (a0))) then
(some (3 : Int))
else
((ref_Inside (7 : Int) a1).bind fun r6 =>
bif !r6 then
(some (4 : Int))
else
(some (0 : Int))))
theorem ref_SumCheck_ok {a0 : Int} {a1 : (List Int)} {r : Int} (h : ref_SumCheck a0 a1 = some r) : FnC Try.prog 15 [aI a0, aD (.slice tI) a1] [] (aI r) [] := by
  refine fnC_of_W (B := bodyOf Try.f15) (n := 17) Try.func15 (by kernel_rfl) (by kernel_rfl) (by kernel_rfl) (by kernel_rfl) (by kernel_rfl) ?_
  intro K
  refine W_seq (by kernel_rfl) ?_
  refine W_run 1 [] [0, 1] [] (fr' := [(0, aI a0), (1, aD (.slice tI) a1)]) (L' := []) (obs := []) (by kernel_rfl) (by kernel_rfl) (by kernel_rfl) allP0 ?_
  refine seqQ_norm ?_
  refine W_seq (by kernel_rfl) ?_
  refine W_seq (by kernel_rfl) ?_
  refine W_region (by kernel_rfl) ?_
  refine WO_run (j := 1) (k := 1) (orcs := []) (kF := [0, 1, 5]) (kL := []) (fr' := [(0, aI a0), (1, aD (.slice tI) a1), (5, aI a0)]) (L' := []) (obs := []) rfl (by kernel_rfl) allP0 ?_
  obtain ⟨r1, h2, h⟩ := bind_of h
  refine WO_call0 (us := [none, none, none]) (d := 6) (p := True) (j := 2) rfl ⟨by kernel_rfl, by kernel_rfl, by kernel_rfl⟩ trivial (ref_Within_ok h2) (by kernel_rfl) ?_
  refine WO_run (j := 3) (k := 1) (orcs := []) (kF := [0, 1, 7]) (kL := []) (fr' := [(0, aI a0), (1, aD (.slice tI) a1), (7, aB (!r1))]) (L' := []) (obs := []) rfl (by kernel_rfl) allP0 ?_
  refine WO_fin [0, 1, 7] [] (fr' := [(0, aI a0), (1, aD (.slice tI) a1), (7, aB (!r1))]) (L' := []) (by kernel_rfl) (by kernel_rfl) ?_
  refine seqQ_norm ?_
  refine W_cond (o := .tmp 7) (b := !r1) (by kernel_rfl) (by kernel_rfl) (fun h3 => ?_) (fun h3 => ?_)
  · replace h := ofT h3 h
    refine W_seq (by kernel_rfl) ?_
    refine W_run 1 [] [4] [] (fr' := [(4, aI (1 : Int))]) (L' := []) (obs := []) (by kernel_rfl) (by kernel_rfl) (by kernel_rfl) allP0 ?_
    refine seqQ_norm ?_
    obtain rfl := Option.some.inj h
    refine W_ret [4] [] (fr' := [(4, aI (1 : Int))]) (L' := []) (by kernel_rfl) (by kernel_rfl) ?_
    refine seqQ_ret ?_
    exact retQ_mk (by kernel_rfl) (by kernel_rfl) (by kernel_rfl)
  · replace h := ofF h3 h
    refine W_skip [0, 1] [] (fr' := [(0, aI a0), (1, aD (.slice tI) a1)]) (L' := []) (by kernel_rfl) (by kernel_rfl) ?_
    refine seqQ_norm ?_
    refine W_seq (by kernel_rfl) ?_
    refine W_seq (by kernel_rfl) ?_
    obtain ⟨_, h4, h⟩ := bind_of h
    replace h4 := ck_some h4
    refine W_run 6 [] [1, 13] [] (fr' := [(1, aD (.slice tI) a1), (13, aB ((List.length a1 : Int) != (bShl .i64 (1 : Int) (IntKind.wrap .u64 (a0)))))]) (L' := []) (obs := [(0 ≤ IntKind.wrap .u64 (a0))]) (by kernel_rfl) (by kernel_rfl) (by kernel_rfl) (allP1 h4) ?_
    refine seqQ_norm ?_
    refine W_cond (o := .tmp 13) (b := (List.length a1 : Int) != (bShl .i64 (1 : Int) (IntKind.wrap .u64 (a0)))) (by kernel_rfl) (by kernel_rfl) (fun h5 => ?_) (fun h5 => ?_)
    · replace h := ofT h5 h
      refine W_seq (by kernel_rfl) ?_
      refine W_run 1 [] [4] [] (fr' := [(4, aI (3 : Int))]) (L' := []) (obs := []) (by kernel_rfl) (by kernel_rfl) (by kernel_rfl) allP0 ?_
      refine seqQ_norm ?_
      obtain rfl := Option.some.inj h
      refine W_ret [4] [] (fr' := [(4, aI (3 : Int))]) (L' := []) (by kernel_rfl) (by kernel_rfl) ?_
      refine seqQ_ret ?_
      exact retQ_mk (by kernel_rfl) (by kernel_rfl) (by kernel_rfl)
    · replace h := ofF h5 h
      refine W_skip [1] [] (fr' := [(1, aD (.slice tI) a1)]) (L' := []) (by kernel_rfl) (by kernel_rfl) ?_
      refine seqQ_norm ?_
      refine W_seq (by kernel_rfl) ?_
      refine W_seq (by kernel_rfl) ?_
      refine W_region (by kernel_rfl) ?_
      refine WO_run (j := 1) (k := 1) (orcs := []) (kF := [14]) (kL := []) (fr' := [(14, aD (.slice tI) a1)]) (L' := []) (obs := []) rfl (by kernel_rfl) allP0 ?_
      obtain ⟨r6, h7, h⟩ := bind_of h
      refine WO_call0 (us := [none, none]) (d := 15) (p := True) (j := 2) rfl ⟨by kernel_rfl, by kernel_rfl, by kernel_rfl⟩ trivial (ref_Inside_ok h7) (by kernel_rfl) ?_
      refine WO_run (j := 3) (k := 1) (orcs := []) (kF := [16]) (kL := []) (fr' := [(16, aB (!r6))]) (L' := []) (obs := []) rfl (by kernel_rfl) allP0 ?_
      refine WO_fin [16] [] (fr' := [(16, aB (!r6))]) (L' := []) (by kernel_rfl) (by kernel_rfl) ?_
      refine seqQ_norm ?_
      refine W_cond (o := .tmp 16) (b := !r6) (by kernel_rfl) (by kernel_rfl) (fun h8 => ?_) (fun h8 => ?_)
      · replace h := ofT h8 h
        refine W_seq (by kernel_rfl) ?_
        refine W_run 1 [] [4] [] (fr' := [(4, aI (4 : Int))]) (L' := []) (obs := []) (by kernel_rfl) (by kernel_rfl) (by kernel_rfl) allP0 ?_
        refine seqQ_norm ?_
        obtain rfl := Option.some.inj h
        refine W_ret [4] [] (fr' := [(4, aI (4 : Int))]) (L' := []) (by kernel_rfl) (by kernel_rfl) ?_
        refine seqQ_ret ?_
        exact retQ_mk (by kernel_rfl) (by kernel_rfl) (by kernel_rfl)
      · replace h := ofF h8 h
        refine W_skip [] [] (fr' := []) (L' := []) (by kernel_rfl) (by kernel_rfl) ?_
        refine seqQ_norm ?_
        refine W_seq (by kernel_rfl) ?_
        refine W_run 1 [] [4] [] (fr' := [(4, aI (0 : Int))]) (L' := []) (obs := []) (by kernel_rfl) (by kernel_rfl) (by kernel_rfl) allP0 ?_
        refine seqQ_norm ?_
        obtain rfl := Option.some.inj h
        refine W_ret [4] [] (fr' := [(4, aI (0 : Int))]) (L' := []) (by kernel_rfl) (by kernel_rfl) ?_
        exact retQ_mk (by kernel_rfl) (by kernel_rfl) (by kernel_rfl)

def law_ProofSums_b1 (i14 : Int) (v17 : Int) (x15 : Int) : Option (Flow Int Int) :=
some (.next (w64 (x15 + v17)))
@[reducible] def law_ProofSums_s2 (a1 : (List Int)) (r1 : (Int × Int)) (v : Int × Int) : Fr × LL := ([(5, aI r1.1), (6, aI r1.2), (8, aI v.2), (29, aD (.slice tI) a1), (30, aI (List.length a1 : Int)), (31, aI v.1)], [])
@[reducible] def law_ProofSums_s3 (r1 : (Int × Int)) (v : Int) : Fr × LL := ([(5, aI r1.1), (6, aI r1.2), (8, aI v)], [])
def law_ProofSums (a0 : Int) (a1 : (List Int)) : Option Bool :=
(proof_Sum a0 a1).bind fun r1 =>
(ref_SumCheck a0 a1).bind fun r3 =>
bif r3 != (0 : Int) then
(some ((r1.2 == r3) && (r1.1 == (0 : Int))))
else
((forL law_ProofSums_b1 (fun x15 => x15) a1 0 (0 : Int)).bind fun v21 =>
some ((r1.2 == (0 : Int)) && (r1.1 == (Int.tmod v21 (7 : Int)))))
theorem law_ProofSums_ok {a0 : Int} {a1 : (List Int)} {r : Bool} (h : law_ProofSums a0 a1 = some r) : FnC Try.prog 3 [aI a0, aD (.slice tI) a1] [] (aB r) [] := by
  refine fnC_of_W (B := bodyOf Try.f3) (n := 47) Try.func3 (by kernel_rfl) (by kernel_rfl) (by kernel_rfl) (by kernel_rfl) (by kernel_rfl) ?_
  intro K
  refine W_seq (by kernel_rfl) ?_
  refine W_run 1 [] [0, 1] [] (fr' := [(0, aI a0), (1, aD (.slice tI) a1)]) (L' := []) (obs := []) (by kernel_rfl) (by kernel_rfl) (by kernel_rfl) allP0 ?_
  refine seqQ_norm ?_
  refine W_seq (by kernel_rfl) ?_
  refine W_region (by kernel_rfl) ?_
  refine WO_run (j := 2) (k := 2) (orcs := []) (kF := [0, 1, 12, 13]) (kL := []) (fr' := [(0, aI a0), (1, aD (.slice tI) a1), (12, aI a0), (13, aD (.slice tI) a1)]) (L' := []) (obs := []) rfl (by kernel_rfl) allP0 ?_
  obtain ⟨r1, h2, h⟩ := bind_of h
  refine WO_call0 (us := [none, none]) (d := 14) (p := True) (j := 3) rfl ⟨by kernel_rfl, by kernel_rfl, by kernel_rfl⟩ trivial (proof_Sum_ok h2) (by kernel_rfl) ?_
  refine WO_run (j := 8) (k := 5) (orcs := []) (kF := [0, 1, 5, 6]) (kL := []) (fr' := [(0, aI a0), (1, aD (.slice tI) a1), (5, aI r1.1), (6, aI r1.2)]) (L' := []) (obs := []) rfl (by kernel_rfl) allP0 ?_
  refine WO_fin [0, 1, 5, 6] [] (fr' := [(0, aI a0), (1, aD (.slice tI) a1), (5, aI r1.1), (6, aI r1.2)]) (L' := []) (by kernel_rfl) (by kernel_rfl) ?_
  refine seqQ_norm ?_
  refine W_seq (by kernel_rfl) ?_
  refine W_region (by kernel_rfl) ?_
  refine WO_run (j := 2) (k := 2) (orcs := []) (kF := [1, 5, 6, 17, 18]) (kL := []) (fr' := [(1, aD (.slice tI) a1), (5, aI r1.1), (6, aI r1.2), (17, aI a0), (18, aD (.slice tI) a1)]) (L' := []) (obs := []) rfl (by kernel_rfl) allP0 ?_
  obtain ⟨r3, h4, h⟩ := bind_of h
  refine WO_call0 (us := [none, none]) (d := 19) (p := True) (j := 3) rfl ⟨by kernel_rfl, by kernel_rfl, by kernel_rfl⟩ trivial (ref_SumCheck_ok h4) (by kernel_rfl) ?_
  refine WO_run (j := 4) (k := 1) (orcs := []) (kF := [1, 5, 6, 7]) (kL := []) (fr' := [(1, aD (.slice tI) a1), (5, aI r1.1), (6, aI r1.2), (7, aI r3)]) (L' := []) (obs := []) rfl (by kernel_rfl) allP0 ?_
  refine WO_fin [1, 5, 6, 7] [] (fr' := [(1, aD (.slice tI) a1), (5, aI r1.1), (6, aI r1.2), (7, aI r3)]) (L' := []) (by kernel_rfl) (by kernel_rfl) ?_
  refine seqQ_norm ?_
  refine W_seq (by kernel_rfl) ?_
  refine W_seq (by kernel_rfl) ?_
  refine W_run 2 [] [1, 5, 6, 7, 21] [] (fr' := [(1, aD (.slice tI) a1), (5, aI r1.1), (6, aI r1.2), (7, aI r3), (21, aB (r3 != (0 : Int)))]) (L' := []) (obs := []) (by kernel_rfl) (by kernel_rfl) (by kernel_rfl) allP0 ?_
  refine seqQ_norm ?_
  refine W_cond (o := .tmp 21) (b := r3 != (0 : Int)) (by kernel_rfl) (by kernel_rfl) (fun h5 => ?_) (fun h5 => ?_)
  · replace h := ofT h5 h
    refine W_seq (by kernel_rfl) ?_
    refine W_run 8 [] [4] [] (fr' := [(4, aB ((r1.2 == r3) && (r1.1 == (0 : Int))))]) (L' := []) (obs := []) (by kernel_rfl) (by kernel_rfl) (by kernel_rfl) allP0 ?_
    refine seqQ_norm ?_
    obtain rfl := Option.some.inj h
    refine W_ret [4] [] (fr' := [(4, aB ((r1.2 == r3) && (r1.1 == (0 : Int))))]) (L' := []) (by kernel_rfl) (by kernel_rfl) ?_
    refine seqQ_ret ?_
    exact retQ_mk (by kernel_rfl) (by kernel_rfl) (by kernel_rfl)
  · replace h := ofF h5 h
    refine W_skip [1, 5, 6] [] (fr' := [(1, aD (.slice tI) a1), (5, aI r1.1), (6, aI r1.2)]) (L' := []) (by kernel_rfl) (by kernel_rfl) ?_
    refine seqQ_norm ?_
    refine W_seq (by kernel_rfl) ?_
    refine W_run 1 [] [1, 5, 6, 8] [] (fr' := [(1, aD (.slice tI) a1), (5, aI r1.1), (6, aI r1.2), (8, aI (0 : Int))]) (L' := []) (obs := []) (by kernel_rfl) (by kernel_rfl) (by kernel_rfl) allP0 ?_
    refine seqQ_norm ?_
    refine W_seq (by kernel_rfl) ?_
    refine W_seq (by kernel_rfl) ?_
    refine W_run 3 [] [5, 6, 8, 29, 30, 31] [] (fr' := [(5, aI r1.1), (6, aI r1.2), (8, aI (0 : Int)), (29, aD (.slice tI) a1), (30, aI (List.length a1 : Int)), (31, aI (0 : Int))]) (L' := []) (obs := []) (by kernel_rfl) (by kernel_rfl) (by kernel_rfl) allP0 ?_
    refine seqQ_norm ?_
    refine W_block (id := 0) (by kernel_rfl) ?_
    obtain ⟨v21, h22, h⟩ := bind_of h
    refine W_len (t := 29) (u := tI) (xs := a1) (by kernel_rfl) (fun h25 => ?_)
    obtain ⟨h23, h24⟩ := forL_iter h25 h22
    refine W_weaken [5, 6, 8, 29, 30, 31] [] (fr' := ((law_ProofSums_s2 a1 r1) ((0 : Int), (0 : Int))).1) (L' := ((law_ProofSums_s2 a1 r1) ((0 : Int), (0 : Int))).2) (by kernel_rfl) ?_
    refine W_cutK (W_loop (S := (law_ProofSums_s2 a1 r1)) (J := (exQ (.exit 0) (law_ProofSums_s3 r1))) (by kernel_rfl) ?_ h23 _ v21 h24) ?_
    · rintro ⟨i14, x15⟩ s h
      refine W_seq (by kernel_rfl) ?_
      refine W_run 1 [] [5, 6, 8, 29, 30, 31, 32] [] (fr' := [(5, aI r1.1), (6, aI r1.2), (8, aI x15), (29, aD (.slice tI) a1), (30, aI (List.length a1 : Int)), (31, aI i14), (32, aB (decide (i14 < (List.length a1 : Int))))]) (L' := []) (obs := []) (by kernel_rfl) (by kernel_rfl) (by kernel_rfl) allP0 ?_
      refine seqQ_norm ?_
      refine W_seq (by kernel_rfl) ?_
      refine W_cond (o := .tmp 32) (b := decide (i14 < (List.length a1 : Int))) (by kernel_rfl) (by kernel_rfl) (fun h19 => ?_) (fun h19 => ?_)
      · replace h := stepL_true h19 h
        obtain ⟨v17, _, h18, h, rfl⟩ := h
        refine W_skip [5, 6, 8, 29, 30, 31] [] (fr' := [(5, aI r1.1), (6, aI r1.2), (8, aI x15), (29, aD (.slice tI) a1), (30, aI (List.length a1 : Int)), (31, aI i14)]) (L' := []) (by kernel_rfl) (by kernel_rfl) ?_
        refine seqQ_norm ?_
        refine W_seq (by kernel_rfl) ?_
        refine W_block (id := 1) (by kernel_rfl) ?_
        refine W_seq (by kernel_rfl) ?_
        refine W_run 3 [(1, .val (.dat tI v17))] [5, 6, 8, 10, 29, 30, 31] [] (fr' := [(5, aI r1.1), (6, aI r1.2), (8, aI x15), (10, aI v17), (29, aD (.slice tI) a1), (30, aI (List.length a1 : Int)), (31, aI i14)]) (L' := []) (obs := [Idx a1 i14 v17]) (by kernel_rfl) (by kernel_rfl) (by kernel_rfl) (allP1 (Idx.of h18)) ?_
        refine seqQ_norm ?_
        refine W_run 4 [] [5, 6, 8, 29, 30, 31] [] (fr' := [(5, aI r1.1), (6, aI r1.2), (8, aI (w64 (x15 + v17))), (29, aD (.slice tI) a1), (30, aI (List.length a1 : Int)), (31, aI i14)]) (L' := []) (obs := []) (by kernel_rfl) (by kernel_rfl) (by kernel_rfl) allP0 ?_
        refine blockQ_norm ?_
        refine seqQ_norm ?_
        obtain rfl := Option.some.inj h
        refine W_run 2 [] [5, 6, 8, 29, 30, 31] [] (fr' := [(5, aI r1.1), (6, aI r1.2), (8, aI (w64 (x15 + v17))), (29, aD (.slice tI) a1), (30, aI (List.length a1 : Int)), (31, aI (w64 (i14 + (1 : Int))))]) (L' := []) (obs := []) (by kernel_rfl) (by kernel_rfl) (by kernel_rfl) allP0 ?_
        exact round_next' (by kernel_rfl) (by kernel_rfl)
      · obtain rfl := stepL_false h19 h
        refine W_exit (id := 0) [5, 6, 8] [] (fr' := [(5, aI r1.1), (6, aI r1.2), (8, aI x15)]) (L' := []) (by kernel_rfl) (by kernel_rfl) ?_
        refine seqQ_exit ?_
        refine round_exit ?_
        exact exQ_mk (by kernel_rfl) (by kernel_rfl)
    · intro e fr L hJ
      obtain ⟨rfl, rfl, rfl⟩ := hJ
      refine LT_keep [5, 6, 8] [] (fr' := [(5, aI r1.1), (6, aI r1.2), (8, aI v21)]) (L' := []) (by kernel_rfl) ?_
      refine blockQ_hit ?_
      refine seqQ_norm ?_
      refine W_seq (by kernel_rfl) ?_
      refine W_run 9 [] [4] [] (fr' := [(4, aB ((r1.2 == (0 : Int)) && (r1.1 == (Int.tmod v21 (7 : Int)))))]) (L' := []) (obs := [((7 : Int) ≠ 0)]) (by kernel_rfl) (by kernel_rfl) (by kernel_rfl) (allP1 (by decide)) ?_
      refine seqQ_norm ?_
      obtain rfl := Option.some.inj h
      refine W_ret [4] [] (fr' := [(4, aB ((r1.2 == (0 : Int)) && (r1.1 == (Int.tmod v21 (7 : Int)))))]) (L' := []) (by kernel_rfl) (by kernel_rfl) ?_
      exact retQ_mk (by kernel_rfl) (by kernel_rfl) (by kernel_rfl)
end Go.Proofs.Ytjgpfbdenfoffaa.proofSums
