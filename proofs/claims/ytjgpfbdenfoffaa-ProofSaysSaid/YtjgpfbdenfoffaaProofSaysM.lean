/- What the functions that ProofSays calls compute, as models, and that they compute it: written by a program of mine. -/
import Derived.Test.YtjgpfbdenfoffaaProg
import Derived.Test.YtjgpfbdenfoffaaSl3
set_option linter.all false
set_option maxRecDepth 100000
namespace Go.Proofs.Ytjgpfbdenfoffaa.proofSays
open Go Go.Sl
def proof_bad (a0 : Int) : Option Bool :=
some ((decide (a0 < (0 : Int))) || (decide (a0 ≥ (7 : Int))))
theorem proof_bad_ok {a0 : Int} {r : Bool} (h : proof_bad a0 = some r) : FnC Try.prog 47 [aI a0] [] (aB r) [] := by
  refine fnC_of_W (B := bodyOf Try.f47) (n := 9) Try.func47 (by kernel_rfl) (by kernel_rfl) (by kernel_rfl) (by kernel_rfl) (by kernel_rfl) ?_
  intro K
  refine W_seq (by kernel_rfl) ?_
  refine W_run 1 [] [0] [] (fr' := [(0, aI a0)]) (L' := []) (obs := []) (by kernel_rfl) (by kernel_rfl) (by kernel_rfl) allP0 ?_
  refine seqQ_norm ?_
  refine W_seq (by kernel_rfl) ?_
  refine W_run 7 [] [2] [] (fr' := [(2, aB ((decide (a0 < (0 : Int))) || (decide (a0 ≥ (7 : Int)))))]) (L' := []) (obs := []) (by kernel_rfl) (by kernel_rfl) (by kernel_rfl) allP0 ?_
  refine seqQ_norm ?_
  obtain rfl := Option.some.inj h
  refine W_ret [2] [] (fr' := [(2, aB ((decide (a0 < (0 : Int))) || (decide (a0 ≥ (7 : Int)))))]) (L' := []) (by kernel_rfl) (by kernel_rfl) ?_
  exact retQ_mk (by kernel_rfl) (by kernel_rfl) (by kernel_rfl)

def slices_IndexFunc_Lintint_with_proof_bad_b1 (i15 : Int) (v18 : Int) (x16 : Unit) : Option (Flow Unit (Esc Int Unit)) :=
(proof_bad v18).bind fun r21 =>
bif r21 then
(some (.done (.ret i15)))
else
(some (.next ()))
@[reducible] def slices_IndexFunc_Lintint_with_proof_bad_s2 (a0 : (List Int)) (v : Int × Unit) : Fr × LL := ([(0, aD (.slice tI) a0), (1, .one (.fn 47 [])), (7, aI (List.length a0 : Int)), (8, aI v.1)], [])
@[reducible] def slices_IndexFunc_Lintint_with_proof_bad_s3 (v : Int) : Fr × LL := ([(4, aI v)], [])
@[reducible] def slices_IndexFunc_Lintint_with_proof_bad_s4 (v : Unit) : Fr × LL := ([], [])
def slices_IndexFunc_Lintint_with_proof_bad (a0 : (List Int)) : Option Int :=
(forL slices_IndexFunc_Lintint_with_proof_bad_b1 (fun x16 => (.brk ())) a0 0 ()).bind fun v25 =>
match v25 with
| .ret v30 =>
(some v30)
| .brk v31 =>
(some (-1 : Int))
theorem slices_IndexFunc_Lintint_with_proof_bad_ok {a0 : (List Int)} {r : Int} (h : slices_IndexFunc_Lintint_with_proof_bad a0 = some r) : FnC Try.prog 66 [aD (.slice tI) a0, .one (.fn 47 [])] [] (aI r) [] := by
  refine fnC_of_W (B := bodyOf Try.f66) (n := 19) Try.func66 (by kernel_rfl) (by kernel_rfl) (by kernel_rfl) (by kernel_rfl) (by kernel_rfl) ?_
  intro K
  refine W_seq (by kernel_rfl) ?_
  refine W_run 1 [] [0, 1] [] (fr' := [(0, aD (.slice tI) a0), (1, .one (.fn 47 []))]) (L' := []) (obs := []) (by kernel_rfl) (by kernel_rfl) (by kernel_rfl) allP0 ?_
  refine seqQ_norm ?_
  refine W_seq (by kernel_rfl) ?_
  refine W_seq (by kernel_rfl) ?_
  refine W_run 3 [] [0, 1, 7, 8] [] (fr' := [(0, aD (.slice tI) a0), (1, .one (.fn 47 [])), (7, aI (List.length a0 : Int)), (8, aI (0 : Int))]) (L' := []) (obs := []) (by kernel_rfl) (by kernel_rfl) (by kernel_rfl) allP0 ?_
  refine seqQ_norm ?_
  refine W_block (id := 0) (by kernel_rfl) ?_
  obtain ⟨v25, h26, h⟩ := bind_of h
  refine W_len (t := 0) (u := tI) (xs := a0) (by kernel_rfl) (fun h29 => ?_)
  obtain ⟨h27, h28⟩ := forL_iter h29 h26
  refine W_weaken [0, 1, 7, 8] [] (fr' := ((slices_IndexFunc_Lintint_with_proof_bad_s2 a0) ((0 : Int), ())).1) (L' := ((slices_IndexFunc_Lintint_with_proof_bad_s2 a0) ((0 : Int), ())).2) (by kernel_rfl) ?_
  refine W_cutK (W_loop (S := (slices_IndexFunc_Lintint_with_proof_bad_s2 a0)) (J := (escQ (exQ .ret slices_IndexFunc_Lintint_with_proof_bad_s3) (exQ (.exit 0) slices_IndexFunc_Lintint_with_proof_bad_s4))) (by kernel_rfl) ?_ h27 _ v25 h28) ?_
  · rintro ⟨i15, x16⟩ s h
    refine W_seq (by kernel_rfl) ?_
    refine W_run 1 [] [0, 1, 7, 8, 9] [] (fr' := [(0, aD (.slice tI) a0), (1, .one (.fn 47 [])), (7, aI (List.length a0 : Int)), (8, aI i15), (9, aB (decide (i15 < (List.length a0 : Int))))]) (L' := []) (obs := []) (by kernel_rfl) (by kernel_rfl) (by kernel_rfl) allP0 ?_
    refine seqQ_norm ?_
    refine W_seq (by kernel_rfl) ?_
    refine W_cond (o := .tmp 9) (b := decide (i15 < (List.length a0 : Int))) (by kernel_rfl) (by kernel_rfl) (fun h20 => ?_) (fun h20 => ?_)
    · replace h := stepL_true h20 h
      obtain ⟨v18, _, h19, h, rfl⟩ := h
      refine W_skip [0, 1, 7, 8] [] (fr' := [(0, aD (.slice tI) a0), (1, .one (.fn 47 [])), (7, aI (List.length a0 : Int)), (8, aI i15)]) (L' := []) (by kernel_rfl) (by kernel_rfl) ?_
      refine seqQ_norm ?_
      refine W_seq (by kernel_rfl) ?_
      refine W_block (id := 1) (by kernel_rfl) ?_
      refine W_seq (by kernel_rfl) ?_
      refine W_run 2 [] [0, 1, 5, 7, 8] [] (fr' := [(0, aD (.slice tI) a0), (1, .one (.fn 47 [])), (5, aI i15), (7, aI (List.length a0 : Int)), (8, aI i15)]) (L' := []) (obs := []) (by kernel_rfl) (by kernel_rfl) (by kernel_rfl) allP0 ?_
      refine seqQ_norm ?_
      refine W_seq (by kernel_rfl) ?_
      refine W_region (by kernel_rfl) ?_
      refine WO_run (j := 5) (k := 5) (orcs := [(7, .val (.dat tI v18))]) (kF := [0, 1, 5, 7, 8, 11, 15]) (kL := []) (fr' := [(0, aD (.slice tI) a0), (1, .one (.fn 47 [])), (5, aI i15), (7, aI (List.length a0 : Int)), (8, aI i15), (11, .one (.fn 47 [])), (15, aI v18)]) (L' := []) (obs := [Idx a0 i15 v18]) rfl (by kernel_rfl) (allP1 (Idx.of h19)) ?_
      obtain ⟨r21, h22, h⟩ := bind_of h
      refine WO_call0 (us := [none]) (d := 16) (p := True) (j := 6) rfl ⟨by kernel_rfl, by kernel_rfl, by kernel_rfl⟩ trivial (proof_bad_ok h22) (by kernel_rfl) ?_
      refine WO_fin [0, 1, 5, 7, 8, 16] [] (fr' := [(0, aD (.slice tI) a0), (1, .one (.fn 47 [])), (5, aI i15), (7, aI (List.length a0 : Int)), (8, aI i15), (16, aB r21)]) (L' := []) (by kernel_rfl) (by kernel_rfl) ?_
      refine seqQ_norm ?_
      refine W_cond (o := .tmp 16) (b := r21) (by kernel_rfl) (by kernel_rfl) (fun h23 => ?_) (fun h23 => ?_)
      · replace h := ofT h23 h
        refine W_seq (by kernel_rfl) ?_
        refine W_run 2 [] [4] [] (fr' := [(4, aI i15)]) (L' := []) (obs := []) (by kernel_rfl) (by kernel_rfl) (by kernel_rfl) allP0 ?_
        refine seqQ_norm ?_
        obtain rfl := Option.some.inj h
        refine W_ret [4] [] (fr' := [(4, aI i15)]) (L' := []) (by kernel_rfl) (by kernel_rfl) ?_
        refine blockQ_ret ?_
        refine seqQ_ret ?_
        refine round_ret ?_
        refine escQ_ret ?_
        exact exQ_mk (by kernel_rfl) (by kernel_rfl)
      · replace h := ofF h23 h
        refine W_skip [0, 1, 7, 8] [] (fr' := [(0, aD (.slice tI) a0), (1, .one (.fn 47 [])), (7, aI (List.length a0 : Int)), (8, aI i15)]) (L' := []) (by kernel_rfl) (by kernel_rfl) ?_
        refine blockQ_norm ?_
        refine seqQ_norm ?_
        obtain rfl := Option.some.inj h
        refine W_run 2 [] [0, 1, 7, 8] [] (fr' := [(0, aD (.slice tI) a0), (1, .one (.fn 47 [])), (7, aI (List.length a0 : Int)), (8, aI (w64 (i15 + (1 : Int))))]) (L' := []) (obs := []) (by kernel_rfl) (by kernel_rfl) (by kernel_rfl) allP0 ?_
        exact round_next' (by kernel_rfl) (by kernel_rfl)
    · obtain rfl := stepL_false h20 h
      refine W_exit (id := 0) [] [] (fr' := []) (L' := []) (by kernel_rfl) (by kernel_rfl) ?_
      refine seqQ_exit ?_
      refine round_exit ?_
      refine escQ_brk ?_
      exact exQ_mk (by kernel_rfl) (by kernel_rfl)
  · intro e fr L hJ
    rcases v25 with v30 | v31
    · obtain ⟨rfl, rfl, rfl⟩ := hJ
      obtain rfl := Option.some.inj h
      refine LT_keep [4] [] (fr' := [(4, aI v30)]) (L' := []) (by kernel_rfl) ?_
      refine blockQ_ret ?_
      refine seqQ_ret ?_
      exact retQ_mk (by kernel_rfl) (by kernel_rfl) (by kernel_rfl)
    · obtain ⟨rfl, rfl, rfl⟩ := hJ
      refine LT_keep [] [] (fr' := []) (L' := []) (by kernel_rfl) ?_
      refine blockQ_hit ?_
      refine seqQ_norm ?_
      refine W_seq (by kernel_rfl) ?_
      refine W_run 1 [] [4] [] (fr' := [(4, aI (-1 : Int))]) (L' := []) (obs := []) (by kernel_rfl) (by kernel_rfl) (by kernel_rfl) allP0 ?_
      refine seqQ_norm ?_
      obtain rfl := Option.some.inj h
      refine W_ret [4] [] (fr' := [(4, aI (-1 : Int))]) (L' := []) (by kernel_rfl) (by kernel_rfl) ?_
      exact retQ_mk (by kernel_rfl) (by kernel_rfl) (by kernel_rfl)

def slices_ContainsFunc_Lintint_with_proof_bad (a0 : (List Int)) : Option Bool :=
(slices_IndexFunc_Lintint_with_proof_bad a0).bind fun r1 =>
some (decide (r1 ≥ (0 : Int)))
theorem slices_ContainsFunc_Lintint_with_proof_bad_ok {a0 : (List Int)} {r : Bool} (h : slices_ContainsFunc_Lintint_with_proof_bad a0 = some r) : FnC Try.prog 46 [aD (.slice tI) a0, .one (.fn 47 [])] [] (aB r) [] := by
  refine fnC_of_W (B := bodyOf Try.f46) (n := 9) Try.func46 (by kernel_rfl) (by kernel_rfl) (by kernel_rfl) (by kernel_rfl) (by kernel_rfl) ?_
  intro K
  refine W_seq (by kernel_rfl) ?_
  refine W_run 1 [] [0, 1] [] (fr' := [(0, aD (.slice tI) a0), (1, .one (.fn 47 []))]) (L' := []) (obs := []) (by kernel_rfl) (by kernel_rfl) (by kernel_rfl) allP0 ?_
  refine seqQ_norm ?_
  refine W_seq (by kernel_rfl) ?_
  refine W_region (by kernel_rfl) ?_
  refine WO_run (j := 2) (k := 2) (orcs := []) (kF := [5, 6]) (kL := []) (fr' := [(5, aD (.slice tI) a0), (6, .one (.fn 47 []))]) (L' := []) (obs := []) rfl (by kernel_rfl) allP0 ?_
  obtain ⟨r1, h2, h⟩ := bind_of h
  refine WO_call0 (us := [none, none]) (d := 7) (p := True) (j := 3) rfl ⟨by kernel_rfl, by kernel_rfl, by kernel_rfl⟩ trivial (slices_IndexFunc_Lintint_with_proof_bad_ok h2) (by kernel_rfl) ?_
  refine WO_run (j := 5) (k := 2) (orcs := []) (kF := [4]) (kL := []) (fr' := [(4, aB (decide (r1 ≥ (0 : Int))))]) (L' := []) (obs := []) rfl (by kernel_rfl) allP0 ?_
  refine WO_fin [4] [] (fr' := [(4, aB (decide (r1 ≥ (0 : Int))))]) (L' := []) (by kernel_rfl) (by kernel_rfl) ?_
  refine seqQ_norm ?_
  obtain rfl := Option.some.inj h
  refine W_ret [4] [] (fr' := [(4, aB (decide (r1 ≥ (0 : Int))))]) (L' := []) (by kernel_rfl) (by kernel_rfl) ?_
  exact retQ_mk (by kernel_rfl) (by kernel_rfl) (by kernel_rfl)

def proof_wrong (a0 : Int) (a1 : (List Int)) : Option Int :=
bif (decide (a0 < (1 : Int))) || (decide (a0 > (4 : Int))) then
(some (1 : Int))
else
((ck (0 ≤ a0)).bind fun _ =>
bif (List.length a1 : Int) != (bShl .i64 (1 : Int) a0) then
(some (3 : Int))
else
((slices_ContainsFunc_Lintint_with_proof_bad a1).bind fun r4 =>
bif r4 then
(some (4 : Int))
else
(some (0 : Int))))
theorem proof_wrong_ok {a0 : Int} {a1 : (List Int)} {r : Int} (h : proof_wrong a0 a1 = some r) : FnC Try.prog 44 [aI a0, aD (.slice tI) a1] [] (aI r) [] := by
  refine fnC_of_W (B := bodyOf Try.f44) (n := 21) Try.func44 (by kernel_rfl) (by kernel_rfl) (by kernel_rfl) (by kernel_rfl) (by kernel_rfl) ?_
  intro K
  refine W_seq (by kernel_rfl) ?_
  refine W_run 1 [] [0, 1] [] (fr' := [(0, aI a0), (1, aD (.slice tI) a1)]) (L' := []) (obs := []) (by kernel_rfl) (by kernel_rfl) (by kernel_rfl) allP0 ?_
  refine seqQ_norm ?_
  refine W_seq (by kernel_rfl) ?_
  refine W_block (id := 0) (by kernel_rfl) ?_
  refine W_seq (by kernel_rfl) ?_
  refine W_run 7 [] [0, 1, 5] [] (fr' := [(0, aI a0), (1, aD (.slice tI) a1), (5, aB ((decide (a0 < (1 : Int))) || (decide (a0 > (4 : Int)))))]) (L' := []) (obs := []) (by kernel_rfl) (by kernel_rfl) (by kernel_rfl) allP0 ?_
  refine seqQ_norm ?_
  refine W_cond (o := .tmp 5) (b := (decide (a0 < (1 : Int))) || (decide (a0 > (4 : Int)))) (by kernel_rfl) (by kernel_rfl) (fun h1 => ?_) (fun h1 => ?_)
  · replace h := ofT h1 h
    refine W_seq (by kernel_rfl) ?_
    refine W_run 1 [] [4] [] (fr' := [(4, aI (1 : Int))]) (L' := []) (obs := []) (by kernel_rfl) (by kernel_rfl) (by kernel_rfl) allP0 ?_
    refine seqQ_norm ?_
    obtain rfl := Option.some.inj h
    refine W_ret [4] [] (fr' := [(4, aI (1 : Int))]) (L' := []) (by kernel_rfl) (by kernel_rfl) ?_
    refine blockQ_ret ?_
    refine seqQ_ret ?_
    exact retQ_mk (by kernel_rfl) (by kernel_rfl) (by kernel_rfl)
  · replace h := ofF h1 h
    refine W_seq (by kernel_rfl) ?_
    obtain ⟨_, h2, h⟩ := bind_of h
    replace h2 := ck_some h2
    refine W_run 6 [] [1, 12] [] (fr' := [(1, aD (.slice tI) a1), (12, aB ((List.length a1 : Int) != (bShl .i64 (1 : Int) a0)))]) (L' := []) (obs := [(0 ≤ a0)]) (by kernel_rfl) (by kernel_rfl) (by kernel_rfl) (allP1 h2) ?_
    refine seqQ_norm ?_
    refine W_cond (o := .tmp 12) (b := (List.length a1 : Int) != (bShl .i64 (1 : Int) a0)) (by kernel_rfl) (by kernel_rfl) (fun h3 => ?_) (fun h3 => ?_)
    · replace h := ofT h3 h
      refine W_seq (by kernel_rfl) ?_
      refine W_run 1 [] [4] [] (fr' := [(4, aI (3 : Int))]) (L' := []) (obs := []) (by kernel_rfl) (by kernel_rfl) (by kernel_rfl) allP0 ?_
      refine seqQ_norm ?_
      obtain rfl := Option.some.inj h
      refine W_ret [4] [] (fr' := [(4, aI (3 : Int))]) (L' := []) (by kernel_rfl) (by kernel_rfl) ?_
      refine blockQ_ret ?_
      refine seqQ_ret ?_
      exact retQ_mk (by kernel_rfl) (by kernel_rfl) (by kernel_rfl)
    · replace h := ofF h3 h
      refine W_seq (by kernel_rfl) ?_
      refine W_region (by kernel_rfl) ?_
      refine WO_run (j := 1) (k := 1) (orcs := []) (kF := [19]) (kL := []) (fr' := [(19, aD (.slice tI) a1)]) (L' := []) (obs := []) rfl (by kernel_rfl) allP0 ?_
      obtain ⟨r4, h5, h⟩ := bind_of h
      refine WO_call0 (us := [none, none]) (d := 20) (p := True) (j := 2) rfl ⟨by kernel_rfl, by kernel_rfl, by kernel_rfl⟩ trivial (slices_ContainsFunc_Lintint_with_proof_bad_ok h5) (by kernel_rfl) ?_
      refine WO_run (j := 3) (k := 1) (orcs := []) (kF := [18]) (kL := []) (fr' := [(18, aB r4)]) (L' := []) (obs := []) rfl (by kernel_rfl) allP0 ?_
      refine WO_fin [18] [] (fr' := [(18, aB r4)]) (L' := []) (by kernel_rfl) (by kernel_rfl) ?_
      refine seqQ_norm ?_
      refine W_cond (o := .tmp 18) (b := r4) (by kernel_rfl) (by kernel_rfl) (fun h6 => ?_) (fun h6 => ?_)
      · replace h := ofT h6 h
        refine W_seq (by kernel_rfl) ?_
        refine W_run 1 [] [4] [] (fr' := [(4, aI (4 : Int))]) (L' := []) (obs := []) (by kernel_rfl) (by kernel_rfl) (by kernel_rfl) allP0 ?_
        refine seqQ_norm ?_
        obtain rfl := Option.some.inj h
        refine W_ret [4] [] (fr' := [(4, aI (4 : Int))]) (L' := []) (by kernel_rfl) (by kernel_rfl) ?_
        refine blockQ_ret ?_
        refine seqQ_ret ?_
        exact retQ_mk (by kernel_rfl) (by kernel_rfl) (by kernel_rfl)
      · replace h := ofF h6 h
        refine W_skip [] [] (fr' := []) (L' := []) (by kernel_rfl) (by kernel_rfl) ?_
        refine blockQ_norm ?_
        refine seqQ_norm ?_
        refine W_seq (by kernel_rfl) ?_
        refine W_run 1 [] [4] [] (fr' := [(4, aI (0 : Int))]) (L' := []) (obs := []) (by kernel_rfl) (by kernel_rfl) (by kernel_rfl) allP0 ?_
        refine seqQ_norm ?_
        obtain rfl := Option.some.inj h
        refine W_ret [4] [] (fr' := [(4, aI (0 : Int))]) (L' := []) (by kernel_rfl) (by kernel_rfl) ?_
        exact retQ_mk (by kernel_rfl) (by kernel_rfl) (by kernel_rfl)

def proof_line (a0 : (List Int)) (a1 : Int) : Option Int :=
(idx a0 (0 : Int)).bind fun v1 =>
(idx a0 (1 : Int)).bind fun v3 =>
some (Int.tmod (w64 ((w64 (v1 * (w64 ((8 : Int) - a1)))) + (w64 (v3 * a1)))) (7 : Int))
theorem proof_line_ok {a0 : (List Int)} {a1 : Int} {r : Int} (h : proof_line a0 a1 = some r) : FnC Try.prog 67 [aD (.arr 2 tI) a0, aI a1] [] (aI r) [] := by
  refine fnC_of_W (B := bodyOf Try.f67) (n := 16) Try.func67 (by kernel_rfl) (by kernel_rfl) (by kernel_rfl) (by kernel_rfl) (by kernel_rfl) ?_
  intro K
  refine W_seq (by kernel_rfl) ?_
  refine W_run 2 [] [1, 2] [2] (fr' := [(1, aI a1), (2, .one (.ptr 2 0))]) (L' := [(2, .one (.arr 2 tI) a0)]) (obs := []) (by kernel_rfl) (by kernel_rfl) (by kernel_rfl) allP0 ?_
  refine seqQ_norm ?_
  refine W_seq (by kernel_rfl) ?_
  obtain ⟨v1, h2, h⟩ := bind_of h
  obtain ⟨v3, h4, h⟩ := bind_of h
  refine W_run 12 [(3, .val (.dat tI v1)), (13, .val (.dat tI v3))] [4] [] (fr' := [(4, aI (Int.tmod (w64 ((w64 (v1 * (w64 ((8 : Int) - a1)))) + (w64 (v3 * a1)))) (7 : Int)))]) (L' := []) (obs := [InR (0 : Int) 2, Idx a0 (0 : Int) v1, InR (1 : Int) 2, Idx a0 (1 : Int) v3, ((7 : Int) ≠ 0)]) (by kernel_rfl) (by kernel_rfl) (by kernel_rfl) (allP2 (by unfold InR; decide) (allP2 (Idx.of h2) (allP2 (by unfold InR; decide) (allP2 (Idx.of h4) (allP1 (by decide)))))) ?_
  refine seqQ_norm ?_
  obtain rfl := Option.some.inj h
  refine W_ret [4] [] (fr' := [(4, aI (Int.tmod (w64 ((w64 (v1 * (w64 ((8 : Int) - a1)))) + (w64 (v3 * a1)))) (7 : Int)))]) (L' := []) (by kernel_rfl) (by kernel_rfl) ?_
  exact retQ_mk (by kernel_rfl) (by kernel_rfl) (by kernel_rfl)

def proof_fold_b7 (x68 : (List Int)) (v70 : Int) (x81 : (Int × (List Int))) : Option (Flow (Int × (List Int)) (List Int)) :=
bif decide (x81.1 < (List.length x68 : Int)) then
((idx x68 x81.1).bind fun v91 =>
(idx x68 (w64 (x81.1 + (1 : Int)))).bind fun v93 =>
(proof_line [v91, v93] v70).bind fun r95 =>
(ck ((List.length x81.2 : Int) + 1 ≤ 4294967296)).bind fun _ =>
some (.next (w64 (x81.1 + (2 : Int)), x81.2 ++ [r95])))
else
(some (.done x81.2))
@[reducible] def proof_fold_s8 (a1 : (List Int)) (i67 : Int) (x68 : (List Int)) (v70 : Int) (v : (Int × (List Int))) : Fr × LL := ([(0, aD (.slice tI) x68), (6, aI v70), (7, .one (.slc 35)), (8, aI v.1), (9, aD (.slice tI) a1), (10, aI (List.length a1 : Int)), (11, aI i67)], [(35, .seq tI v.2)])
@[reducible] def proof_fold_s9 (a1 : (List Int)) (i67 : Int) (v : (List Int)) : Fr × LL := ([(7, .one (.slc 35)), (9, aD (.slice tI) a1), (10, aI (List.length a1 : Int)), (11, aI i67)], [(35, .seq tI v)])
def proof_fold_b10 (fuel : Nat) (i67 : Int) (v70 : Int) (x68 : (List Int)) : Option (Flow (List Int) (List Int)) :=
(iter (proof_fold_b7 x68 v70) fuel ((0 : Int), [])).bind fun v98 =>
some (.next v98)
@[reducible] def proof_fold_s11 (a1 : (List Int)) (v : Int × (List Int)) : Fr × LL := ([(0, aD (.slice tI) v.2), (9, aD (.slice tI) a1), (10, aI (List.length a1 : Int)), (11, aI v.1)], [])
@[reducible] def proof_fold_s12 (v : (List Int)) : Fr × LL := ([(0, aD (.slice tI) v)], [])
def proof_fold (fuel : Nat) (a0 : (List Int)) (a1 : (List Int)) : Option (List Int) :=
(forL (proof_fold_b10 fuel) (fun x68 => x68) a1 0 a0).bind fun v103 =>
some v103
theorem proof_fold_ok {fuel : Nat} {a0 : (List Int)} {a1 : (List Int)} {r : (List Int)} (h : proof_fold fuel a0 a1 = some r) : FnC Try.prog 48 [aD (.slice tI) a0, aD (.slice tI) a1] [] (aD (.slice tI) r) [] := by
  refine fnC_of_W (B := bodyOf Try.f48) (n := 39) Try.func48 (by kernel_rfl) (by kernel_rfl) (by kernel_rfl) (by kernel_rfl) (by kernel_rfl) ?_
  intro K
  refine W_seq (by kernel_rfl) ?_
  refine W_run 1 [] [0, 1] [] (fr' := [(0, aD (.slice tI) a0), (1, aD (.slice tI) a1)]) (L' := []) (obs := []) (by kernel_rfl) (by kernel_rfl) (by kernel_rfl) allP0 ?_
  refine seqQ_norm ?_
  refine W_seq (by kernel_rfl) ?_
  refine W_seq (by kernel_rfl) ?_
  refine W_run 3 [] [0, 9, 10, 11] [] (fr' := [(0, aD (.slice tI) a0), (9, aD (.slice tI) a1), (10, aI (List.length a1 : Int)), (11, aI (0 : Int))]) (L' := []) (obs := []) (by kernel_rfl) (by kernel_rfl) (by kernel_rfl) allP0 ?_
  refine seqQ_norm ?_
  refine W_block (id := 0) (by kernel_rfl) ?_
  obtain ⟨v103, h104, h⟩ := bind_of h
  refine W_len (t := 9) (u := tI) (xs := a1) (by kernel_rfl) (fun h107 => ?_)
  obtain ⟨h105, h106⟩ := forL_iter h107 h104
  refine W_weaken [0, 9, 10, 11] [] (fr' := ((proof_fold_s11 a1) ((0 : Int), a0)).1) (L' := ((proof_fold_s11 a1) ((0 : Int), a0)).2) (by kernel_rfl) ?_
  refine W_cutK (W_loop (S := (proof_fold_s11 a1)) (J := (exQ (.exit 0) proof_fold_s12)) (by kernel_rfl) ?_ h105 _ v103 h106) ?_
  · rintro ⟨i67, x68⟩ s h
    refine W_seq (by kernel_rfl) ?_
    refine W_run 1 [] [0, 9, 10, 11, 12] [] (fr' := [(0, aD (.slice tI) x68), (9, aD (.slice tI) a1), (10, aI (List.length a1 : Int)), (11, aI i67), (12, aB (decide (i67 < (List.length a1 : Int))))]) (L' := []) (obs := []) (by kernel_rfl) (by kernel_rfl) (by kernel_rfl) allP0 ?_
    refine seqQ_norm ?_
    refine W_seq (by kernel_rfl) ?_
    refine W_cond (o := .tmp 12) (b := decide (i67 < (List.length a1 : Int))) (by kernel_rfl) (by kernel_rfl) (fun h72 => ?_) (fun h72 => ?_)
    · replace h := stepL_true h72 h
      obtain ⟨v70, _, h71, h, rfl⟩ := h
      refine W_skip [0, 9, 10, 11] [] (fr' := [(0, aD (.slice tI) x68), (9, aD (.slice tI) a1), (10, aI (List.length a1 : Int)), (11, aI i67)]) (L' := []) (by kernel_rfl) (by kernel_rfl) ?_
      refine seqQ_norm ?_
      refine W_seq (by kernel_rfl) ?_
      refine W_block (id := 1) (by kernel_rfl) ?_
      refine W_seq (by kernel_rfl) ?_
      refine W_run 3 [(1, .val (.dat tI v70))] [0, 6, 9, 10, 11] [] (fr' := [(0, aD (.slice tI) x68), (6, aI v70), (9, aD (.slice tI) a1), (10, aI (List.length a1 : Int)), (11, aI i67)]) (L' := []) (obs := [Idx a1 i67 v70]) (by kernel_rfl) (by kernel_rfl) (by kernel_rfl) (allP1 (Idx.of h71)) ?_
      refine seqQ_norm ?_
      refine W_seq (by kernel_rfl) ?_
      refine W_run 1 [] [0, 6, 7, 9, 10, 11] [] (fr' := [(0, aD (.slice tI) x68), (6, aI v70), (7, .one (.nilS)), (9, aD (.slice tI) a1), (10, aI (List.length a1 : Int)), (11, aI i67)]) (L' := []) (obs := []) (by kernel_rfl) (by kernel_rfl) (by kernel_rfl) allP0 ?_
      refine seqQ_norm ?_
      refine W_seq (by kernel_rfl) ?_
      refine W_seq (by kernel_rfl) ?_
      refine W_run 1 [] [0, 6, 7, 8, 9, 10, 11] [] (fr' := [(0, aD (.slice tI) x68), (6, aI v70), (7, .one (.nilS)), (8, aI (0 : Int)), (9, aD (.slice tI) a1), (10, aI (List.length a1 : Int)), (11, aI i67)]) (L' := []) (obs := []) (by kernel_rfl) (by kernel_rfl) (by kernel_rfl) allP0 ?_
      refine seqQ_norm ?_
      refine W_block (id := 2) (by kernel_rfl) ?_
      obtain ⟨v98, h99, h⟩ := bind_of h
      refine W_mine 7 35 tI (by kernel_rfl) ?_
      refine W_weaken [0, 6, 7, 8, 9, 10, 11] [35] (fr' := ((proof_fold_s8 a1 i67 x68 v70) ((0 : Int), [])).1) (L' := ((proof_fold_s8 a1 i67 x68 v70) ((0 : Int), [])).2) (by kernel_rfl) ?_
      refine W_cutK (W_loop (S := (proof_fold_s8 a1 i67 x68 v70)) (J := (exQ (.exit 2) (proof_fold_s9 a1 i67))) (by kernel_rfl) ?_ fuel _ v98 h99) ?_
      · rintro x81 s h
        refine W_seq (by kernel_rfl) ?_
        refine W_seq (by kernel_rfl) ?_
        refine W_run 4 [] [0, 6, 7, 8, 9, 10, 11, 18] [35] (fr' := [(0, aD (.slice tI) x68), (6, aI v70), (7, .one (.slc 35)), (8, aI x81.1), (9, aD (.slice tI) a1), (10, aI (List.length a1 : Int)), (11, aI i67), (18, aB (decide (x81.1 < (List.length x68 : Int))))]) (L' := [(35, .seq tI x81.2)]) (obs := []) (by kernel_rfl) (by kernel_rfl) (by kernel_rfl) allP0 ?_
        refine seqQ_norm ?_
        refine W_cond (o := .tmp 18) (b := decide (x81.1 < (List.length x68 : Int))) (by kernel_rfl) (by kernel_rfl) (fun h90 => ?_) (fun h90 => ?_)
        · replace h := ofT h90 h
          refine W_skip [0, 6, 7, 8, 9, 10, 11] [35] (fr' := [(0, aD (.slice tI) x68), (6, aI v70), (7, .one (.slc 35)), (8, aI x81.1), (9, aD (.slice tI) a1), (10, aI (List.length a1 : Int)), (11, aI i67)]) (L' := [(35, .seq tI x81.2)]) (by kernel_rfl) (by kernel_rfl) ?_
          refine seqQ_norm ?_
          refine W_seq (by kernel_rfl) ?_
          refine W_block (id := 3) (by kernel_rfl) ?_
          obtain ⟨v91, h92, h⟩ := bind_of h
          obtain ⟨v93, h94, h⟩ := bind_of h
          obtain ⟨r95, h96, h⟩ := bind_of h
          obtain ⟨_, h97, h⟩ := bind_of h
          replace h97 := ck_some h97
          refine W_draw3 13 [0] [(7, .val (.dat tI v91)), (17, .val (.dat tI v93))] [(12, [none, none], aI r95)] [0, 6, 7, 8, 9, 10, 11] [35] (fr' := [(0, aD (.slice tI) x68), (6, aI v70), (7, .one (.slc 35)), (8, aI x81.1), (9, aD (.slice tI) a1), (10, aI (List.length a1 : Int)), (11, aI i67)]) (L' := [(35, .seq tI (x81.2 ++ [r95]))]) (out := [(21, .one (.slc 35)), (22, aD (.slice tI) x68), (23, aI x81.1), (24, .one (.dptr tI v91)), (25, aI v91), (26, aD (.slice tI) x68), (27, aI x81.1), (28, aI (w64 (x81.1 + (1 : Int)))), (29, .one (.dptr tI v93)), (30, aI v93), (31, aD (.arr 2 tI) [v91, v93]), (32, aI v70), (33, aI r95)]) (obs := [Idx x68 x81.1 v91, Idx x68 (w64 (x81.1 + (1 : Int))) v93, True]) (obs2 := [SmallLen (List.length x81.2 + List.length [r95])]) (calls := [(67, [aD (.arr 2 tI) [v91, v93], aI v70], aI r95)]) (by kernel_rfl) (by kernel_rfl) (by kernel_rfl) (by kernel_rfl) (allP2 (Idx.of h92) (allP2 (Idx.of h94) (allP1 trivial))) (allC1 (by kernel_rfl) (proof_line_ok h96) (by kernel_rfl) allC0) (by kernel_rfl) (allP1 h97) ?_
          refine blockQ_norm ?_
          refine seqQ_norm ?_
          obtain rfl := Option.some.inj h
          refine W_run 3 [] [0, 6, 7, 8, 9, 10, 11] [35] (fr' := [(0, aD (.slice tI) x68), (6, aI v70), (7, .one (.slc 35)), (8, aI (w64 (x81.1 + (2 : Int)))), (9, aD (.slice tI) a1), (10, aI (List.length a1 : Int)), (11, aI i67)]) (L' := [(35, .seq tI (x81.2 ++ [r95]))]) (obs := []) (by kernel_rfl) (by kernel_rfl) (by kernel_rfl) allP0 ?_
          exact round_next' (by kernel_rfl) (by kernel_rfl)
        · replace h := ofF h90 h
          obtain rfl := Option.some.inj h
          refine W_exit (id := 2) [7, 9, 10, 11] [35] (fr' := [(7, .one (.slc 35)), (9, aD (.slice tI) a1), (10, aI (List.length a1 : Int)), (11, aI i67)]) (L' := [(35, .seq tI x81.2)]) (by kernel_rfl) (by kernel_rfl) ?_
          refine seqQ_exit ?_
          refine round_exit ?_
          exact exQ_mk (by kernel_rfl) (by kernel_rfl)
      · intro e fr L hJ
        obtain ⟨rfl, rfl, rfl⟩ := hJ
        refine LT_keep [7, 9, 10, 11] [35] (fr' := [(7, .one (.slc 35)), (9, aD (.slice tI) a1), (10, aI (List.length a1 : Int)), (11, aI i67)]) (L' := [(35, .seq tI v98)]) (by kernel_rfl) ?_
        refine blockQ_hit ?_
        refine seqQ_norm ?_
        refine W_run 2 [] [0, 9, 10, 11] [35] (fr' := [(0, .one (.slc 35)), (9, aD (.slice tI) a1), (10, aI (List.length a1 : Int)), (11, aI i67)]) (L' := [(35, .seq tI v98)]) (obs := []) (by kernel_rfl) (by kernel_rfl) (by kernel_rfl) allP0 ?_
        refine blockQ_norm ?_
        refine seqQ_norm ?_
        refine W_region (by kernel_rfl) ?_
        refine WO_run (j := 2) (k := 2) (orcs := []) (kF := [0, 9, 10, 11]) (kL := [35]) (fr' := [(0, .one (.slc 35)), (9, aD (.slice tI) a1), (10, aI (List.length a1 : Int)), (11, aI (w64 (i67 + (1 : Int))))]) (L' := [(35, .seq tI v98)]) (obs := []) rfl (by kernel_rfl) allP0 ?_
        obtain rfl := Option.some.inj h
        refine WO_frz 35 (by kernel_rfl) ?_
        refine WO_fin [0, 9, 10, 11] [] (fr' := [(0, aD (.slice tI) v98), (9, aD (.slice tI) a1), (10, aI (List.length a1 : Int)), (11, aI (w64 (i67 + (1 : Int))))]) (L' := []) (by kernel_rfl) (by kernel_rfl) ?_
        exact round_next' (by kernel_rfl) (by kernel_rfl)
    · obtain rfl := stepL_false h72 h
      refine W_exit (id := 0) [0] [] (fr' := [(0, aD (.slice tI) x68)]) (L' := []) (by kernel_rfl) (by kernel_rfl) ?_
      refine seqQ_exit ?_
      refine round_exit ?_
      exact exQ_mk (by kernel_rfl) (by kernel_rfl)
  · intro e fr L hJ
    obtain ⟨rfl, rfl, rfl⟩ := hJ
    refine LT_keep [0] [] (fr' := [(0, aD (.slice tI) v103)]) (L' := []) (by kernel_rfl) ?_
    refine blockQ_hit ?_
    refine seqQ_norm ?_
    refine W_seq (by kernel_rfl) ?_
    refine W_run 2 [] [4] [] (fr' := [(4, aD (.slice tI) v103)]) (L' := []) (obs := []) (by kernel_rfl) (by kernel_rfl) (by kernel_rfl) allP0 ?_
    refine seqQ_norm ?_
    obtain rfl := Option.some.inj h
    refine W_ret [4] [] (fr' := [(4, aD (.slice tI) v103)]) (L' := []) (by kernel_rfl) (by kernel_rfl) ?_
    exact retQ_mk (by kernel_rfl) (by kernel_rfl) (by kernel_rfl)

def proof_Say_b1 (i32 : Int) (v35 : Int) (x33 : (List Int)) : Option (Flow (List Int) (List Int)) :=
(ck (0 ≤ bAnd .i64 i32 (1 : Int) ∧ bAnd .i64 i32 (1 : Int) < 2)).bind fun _ =>
(idx x33 (bAnd .i64 i32 (1 : Int))).bind fun v39 =>
some (.next (List.set x33 (Int.toNat (bAnd .i64 i32 (1 : Int))) (Int.tmod (w64 (v39 + v35)) (7 : Int))))
@[reducible] def proof_Say_s2 (r16 : (List Int)) (v : Int × (List Int)) : Fr × LL := ([(6, .one (.ptr 6 0)), (9, .one (.ptr 9 0)), (30, aD (.slice tI) r16), (31, aI (List.length r16 : Int)), (32, aI v.1)], [(6, .one (.arr 2 tI) [(0 : Int), (0 : Int)]), (9, .one (.arr 2 tI) v.2)])
@[reducible] def proof_Say_s3 (v : (List Int)) : Fr × LL := ([(6, .one (.ptr 6 0)), (9, .one (.ptr 9 0))], [(6, .one (.arr 2 tI) [(0 : Int), (0 : Int)]), (9, .one (.arr 2 tI) v)])
@[reducible] def proof_Say_s4 (a1 : (List Int)) (a2 : (List Int)) (v : Bool) : Fr × LL := ([(1, aD (.slice tI) a1), (2, aD (.slice tI) a2), (6, .one (.ptr 6 0)), (26, aB v)], [(6, .one (.arr 2 tI) [(0 : Int), (0 : Int)])])
def proof_Say (fuel : Nat) (a0 : Int) (a1 : (List Int)) (a2 : (List Int)) : Option ((List Int) × Int) :=
(proof_wrong a0 a1).bind fun r1 =>
bif r1 != (0 : Int) then
(some ([(0 : Int), (0 : Int)], r1))
else
((bif decide ((List.length a2 : Int) ≥ a0) then
(some true)
else
((slices_ContainsFunc_Lintint_with_proof_bad a2).bind fun r11 =>
some r11)).bind fun v13 =>
bif v13 then
(some ([(0 : Int), (0 : Int)], (2 : Int)))
else
((proof_fold fuel a1 a2).bind fun r16 =>
(forL proof_Say_b1 (fun x33 => x33) r16 0 [(0 : Int), (0 : Int)]).bind fun v42 =>
some (v42, (0 : Int))))
theorem proof_Say_ok {fuel : Nat} {a0 : Int} {a1 : (List Int)} {a2 : (List Int)} {r : ((List Int) × Int)} (h : proof_Say fuel a0 a1 a2 = some r) : FnC Try.prog 19 [aI a0, aD (.slice tI) a1, aD (.slice tI) a2] [] (.tup [.dat (.arr 2 tI) r.1, .dat tI r.2]) [] := by
  refine fnC_of_W (B := bodyOf Try.f19) (n := 49) Try.func19 (by kernel_rfl) (by kernel_rfl) (by kernel_rfl) (by kernel_rfl) (by kernel_rfl) ?_
  intro K
  refine W_seq (by kernel_rfl) ?_
  refine W_run 2 [(1, .typed)] [0, 1, 2, 6] [6] (fr' := [(0, aI a0), (1, aD (.slice tI) a1), (2, aD (.slice tI) a2), (6, .one (.ptr 6 0))]) (L' := [(6, .one (.arr 2 tI) [(0 : Int), (0 : Int)])]) (obs := []) (by kernel_rfl) (by kernel_rfl) (by kernel_rfl) allP0 ?_
  refine seqQ_norm ?_
  refine W_seq (by kernel_rfl) ?_
  refine W_seq (by kernel_rfl) ?_
  refine W_region (by kernel_rfl) ?_
  refine WO_run (j := 2) (k := 2) (orcs := []) (kF := [0, 1, 2, 6, 12, 13]) (kL := [6]) (fr' := [(0, aI a0), (1, aD (.slice tI) a1), (2, aD (.slice tI) a2), (6, .one (.ptr 6 0)), (12, aI a0), (13, aD (.slice tI) a1)]) (L' := [(6, .one (.arr 2 tI) [(0 : Int), (0 : Int)])]) (obs := []) rfl (by kernel_rfl) allP0 ?_
  obtain ⟨r1, h2, h⟩ := bind_of h
  refine WO_call0 (us := [none, none]) (d := 14) (p := True) (j := 3) rfl ⟨by kernel_rfl, by kernel_rfl, by kernel_rfl⟩ trivial (proof_wrong_ok h2) (by kernel_rfl) ?_
  refine WO_run (j := 4) (k := 1) (orcs := []) (kF := [0, 1, 2, 6, 8]) (kL := [6]) (fr' := [(0, aI a0), (1, aD (.slice tI) a1), (2, aD (.slice tI) a2), (6, .one (.ptr 6 0)), (8, aI r1)]) (L' := [(6, .one (.arr 2 tI) [(0 : Int), (0 : Int)])]) (obs := []) rfl (by kernel_rfl) allP0 ?_
  refine WO_fin [0, 1, 2, 6, 8] [6] (fr' := [(0, aI a0), (1, aD (.slice tI) a1), (2, aD (.slice tI) a2), (6, .one (.ptr 6 0)), (8, aI r1)]) (L' := [(6, .one (.arr 2 tI) [(0 : Int), (0 : Int)])]) (by kernel_rfl) (by kernel_rfl) ?_
  refine seqQ_norm ?_
  refine W_seq (by kernel_rfl) ?_
  refine W_run 2 [] [0, 1, 2, 6, 8, 16] [6] (fr' := [(0, aI a0), (1, aD (.slice tI) a1), (2, aD (.slice tI) a2), (6, .one (.ptr 6 0)), (8, aI r1), (16, aB (r1 != (0 : Int)))]) (L' := [(6, .one (.arr 2 tI) [(0 : Int), (0 : Int)])]) (obs := []) (by kernel_rfl) (by kernel_rfl) (by kernel_rfl) allP0 ?_
  refine seqQ_norm ?_
  refine W_cond (o := .tmp 16) (b := r1 != (0 : Int)) (by kernel_rfl) (by kernel_rfl) (fun h3 => ?_) (fun h3 => ?_)
  · replace h := ofT h3 h
    refine W_seq (by kernel_rfl) ?_
    refine W_run 4 [] [6, 7] [6] (fr' := [(6, .one (.ptr 6 0)), (7, aI r1)]) (L' := [(6, .one (.arr 2 tI) [(0 : Int), (0 : Int)])]) (obs := [True]) (by kernel_rfl) (by kernel_rfl) (by kernel_rfl) (allP1 trivial) ?_
    refine seqQ_norm ?_
    obtain rfl := Option.some.inj h
    refine W_ret [6, 7] [6] (fr' := [(6, .one (.ptr 6 0)), (7, aI r1)]) (L' := [(6, .one (.arr 2 tI) [(0 : Int), (0 : Int)])]) (by kernel_rfl) (by kernel_rfl) ?_
    refine seqQ_ret ?_
    exact retQ_mk (by kernel_rfl) (by kernel_rfl) (by kernel_rfl)
  · replace h := ofF h3 h
    refine W_skip [0, 1, 2, 6] [6] (fr' := [(0, aI a0), (1, aD (.slice tI) a1), (2, aD (.slice tI) a2), (6, .one (.ptr 6 0))]) (L' := [(6, .one (.arr 2 tI) [(0 : Int), (0 : Int)])]) (by kernel_rfl) (by kernel_rfl) ?_
    refine seqQ_norm ?_
    refine W_seq (by kernel_rfl) ?_
    refine W_seq (by kernel_rfl) ?_
    obtain ⟨v13, h14, h⟩ := bind_of h
    refine W_cutK (Q' := (exQ .normal (proof_Say_s4 a1 a2)) v13) ?_ ?_
    · replace h := h14
      refine W_region (by kernel_rfl) ?_
      refine WO_run (j := 5) (k := 5) (orcs := []) (kF := [1, 2, 6, 23]) (kL := [6]) (fr' := [(1, aD (.slice tI) a1), (2, aD (.slice tI) a2), (6, .one (.ptr 6 0)), (23, aB (decide ((List.length a2 : Int) ≥ a0)))]) (L' := [(6, .one (.arr 2 tI) [(0 : Int), (0 : Int)])]) (obs := []) rfl (by kernel_rfl) allP0 ?_
      rcases Bool.eq_false_or_eq_true (decide ((List.length a2 : Int) ≥ a0)) with h10 | h10
      · replace h := ofT h10 h
        refine WO_run (j := 8) (k := 3) (orcs := [(10, .known true), (12, .known true), (15, .val (.dat .bool true))]) (kF := [1, 2, 6, 26]) (kL := [6]) (fr' := [(1, aD (.slice tI) a1), (2, aD (.slice tI) a2), (6, .one (.ptr 6 0)), (26, aB true)]) (L' := [(6, .one (.arr 2 tI) [(0 : Int), (0 : Int)])]) (obs := [((decide ((List.length a2 : Int) ≥ a0)) = true), ((decide ((List.length a2 : Int) ≥ a0)) = true), ((decide ((List.length a2 : Int) ≥ a0)) = true)]) rfl (by kernel_rfl) (allP2 h10 (allP2 h10 (allP1 h10))) ?_
        obtain rfl := Option.some.inj h
        refine WO_fin [1, 2, 6, 26] [6] (fr' := [(1, aD (.slice tI) a1), (2, aD (.slice tI) a2), (6, .one (.ptr 6 0)), (26, aB true)]) (L' := [(6, .one (.arr 2 tI) [(0 : Int), (0 : Int)])]) (by kernel_rfl) (by kernel_rfl) ?_
        exact exQ_mk (by kernel_rfl) (by kernel_rfl)
      · replace h := ofF h10 h
        refine WO_run (j := 6) (k := 1) (orcs := [(10, .known false)]) (kF := [1, 2, 6, 23, 24]) (kL := [6]) (fr' := [(1, aD (.slice tI) a1), (2, aD (.slice tI) a2), (6, .one (.ptr 6 0)), (23, aB (decide ((List.length a2 : Int) ≥ a0))), (24, aD (.slice tI) a2)]) (L' := [(6, .one (.arr 2 tI) [(0 : Int), (0 : Int)])]) (obs := [((decide ((List.length a2 : Int) ≥ a0)) = false)]) rfl (by kernel_rfl) (allP1 h10) ?_
        obtain ⟨r11, h12, h⟩ := bind_of h
        refine WO_call0 (us := [none, none]) (d := 25) (p := ((decide ((List.length a2 : Int) ≥ a0)) = false)) (j := 7) rfl ⟨by kernel_rfl, by kernel_rfl, by kernel_rfl⟩ h10 (slices_ContainsFunc_Lintint_with_proof_bad_ok h12) (by kernel_rfl) ?_
        refine WO_run (j := 8) (k := 1) (orcs := [(15, .val (.dat .bool false))]) (kF := [1, 2, 6, 26]) (kL := [6]) (fr' := [(1, aD (.slice tI) a1), (2, aD (.slice tI) a2), (6, .one (.ptr 6 0)), (26, aB r11)]) (L' := [(6, .one (.arr 2 tI) [(0 : Int), (0 : Int)])]) (obs := [((decide ((List.length a2 : Int) ≥ a0)) = false)]) rfl (by kernel_rfl) (allP1 h10) ?_
        obtain rfl := Option.some.inj h
        refine WO_fin [1, 2, 6, 26] [6] (fr' := [(1, aD (.slice tI) a1), (2, aD (.slice tI) a2), (6, .one (.ptr 6 0)), (26, aB r11)]) (L' := [(6, .one (.arr 2 tI) [(0 : Int), (0 : Int)])]) (by kernel_rfl) (by kernel_rfl) ?_
        exact exQ_mk (by kernel_rfl) (by kernel_rfl)
    · intro e fr L hJ
      obtain ⟨rfl, rfl, rfl⟩ := hJ
      refine LT_keep [1, 2, 6, 26] [6] (fr' := [(1, aD (.slice tI) a1), (2, aD (.slice tI) a2), (6, .one (.ptr 6 0)), (26, aB v13)]) (L' := [(6, .one (.arr 2 tI) [(0 : Int), (0 : Int)])]) (by kernel_rfl) ?_
      refine seqQ_norm ?_
      refine W_cond (o := .tmp 26) (b := v13) (by kernel_rfl) (by kernel_rfl) (fun h15 => ?_) (fun h15 => ?_)
      · replace h := ofT h15 h
        refine W_seq (by kernel_rfl) ?_
        refine W_run 3 [] [6, 7] [6] (fr' := [(6, .one (.ptr 6 0)), (7, aI (2 : Int))]) (L' := [(6, .one (.arr 2 tI) [(0 : Int), (0 : Int)])]) (obs := [True]) (by kernel_rfl) (by kernel_rfl) (by kernel_rfl) (allP1 trivial) ?_
        refine seqQ_norm ?_
        obtain rfl := Option.some.inj h
        refine W_ret [6, 7] [6] (fr' := [(6, .one (.ptr 6 0)), (7, aI (2 : Int))]) (L' := [(6, .one (.arr 2 tI) [(0 : Int), (0 : Int)])]) (by kernel_rfl) (by kernel_rfl) ?_
        refine seqQ_ret ?_
        exact retQ_mk (by kernel_rfl) (by kernel_rfl) (by kernel_rfl)
      · replace h := ofF h15 h
        refine W_skip [1, 2, 6] [6] (fr' := [(1, aD (.slice tI) a1), (2, aD (.slice tI) a2), (6, .one (.ptr 6 0))]) (L' := [(6, .one (.arr 2 tI) [(0 : Int), (0 : Int)])]) (by kernel_rfl) (by kernel_rfl) ?_
        refine seqQ_norm ?_
        refine W_seq (by kernel_rfl) ?_
        refine W_run 1 [(1, .typed)] [1, 2, 6, 9] [6, 9] (fr' := [(1, aD (.slice tI) a1), (2, aD (.slice tI) a2), (6, .one (.ptr 6 0)), (9, .one (.ptr 9 0))]) (L' := [(6, .one (.arr 2 tI) [(0 : Int), (0 : Int)]), (9, .one (.arr 2 tI) [(0 : Int), (0 : Int)])]) (obs := []) (by kernel_rfl) (by kernel_rfl) (by kernel_rfl) allP0 ?_
        refine seqQ_norm ?_
        refine W_seq (by kernel_rfl) ?_
        refine W_seq (by kernel_rfl) ?_
        refine W_region (by kernel_rfl) ?_
        refine WO_run (j := 2) (k := 2) (orcs := []) (kF := [6, 9, 28, 29]) (kL := [6, 9]) (fr' := [(6, .one (.ptr 6 0)), (9, .one (.ptr 9 0)), (28, aD (.slice tI) a1), (29, aD (.slice tI) a2)]) (L' := [(6, .one (.arr 2 tI) [(0 : Int), (0 : Int)]), (9, .one (.arr 2 tI) [(0 : Int), (0 : Int)])]) (obs := []) rfl (by kernel_rfl) allP0 ?_
        obtain ⟨r16, h17, h⟩ := bind_of h
        refine WO_call0 (us := [none, none]) (d := 30) (p := True) (j := 3) rfl ⟨by kernel_rfl, by kernel_rfl, by kernel_rfl⟩ trivial (proof_fold_ok h17) (by kernel_rfl) ?_
        refine WO_run (j := 5) (k := 2) (orcs := []) (kF := [6, 9, 30, 31, 32]) (kL := [6, 9]) (fr' := [(6, .one (.ptr 6 0)), (9, .one (.ptr 9 0)), (30, aD (.slice tI) r16), (31, aI (List.length r16 : Int)), (32, aI (0 : Int))]) (L' := [(6, .one (.arr 2 tI) [(0 : Int), (0 : Int)]), (9, .one (.arr 2 tI) [(0 : Int), (0 : Int)])]) (obs := []) rfl (by kernel_rfl) allP0 ?_
        refine WO_fin [6, 9, 30, 31, 32] [6, 9] (fr' := [(6, .one (.ptr 6 0)), (9, .one (.ptr 9 0)), (30, aD (.slice tI) r16), (31, aI (List.length r16 : Int)), (32, aI (0 : Int))]) (L' := [(6, .one (.arr 2 tI) [(0 : Int), (0 : Int)]), (9, .one (.arr 2 tI) [(0 : Int), (0 : Int)])]) (by kernel_rfl) (by kernel_rfl) ?_
        refine seqQ_norm ?_
        refine W_block (id := 0) (by kernel_rfl) ?_
        obtain ⟨v42, h43, h⟩ := bind_of h
        refine W_len (t := 30) (u := tI) (xs := r16) (by kernel_rfl) (fun h46 => ?_)
        obtain ⟨h44, h45⟩ := forL_iter h46 h43
        refine W_weaken [6, 9, 30, 31, 32] [6, 9] (fr' := ((proof_Say_s2 r16) ((0 : Int), [(0 : Int), (0 : Int)])).1) (L' := ((proof_Say_s2 r16) ((0 : Int), [(0 : Int), (0 : Int)])).2) (by kernel_rfl) ?_
        refine W_cutK (W_loop (S := (proof_Say_s2 r16)) (J := (exQ (.exit 0) proof_Say_s3)) (by kernel_rfl) ?_ h44 _ v42 h45) ?_
        · rintro ⟨i32, x33⟩ s h
          refine W_seq (by kernel_rfl) ?_
          refine W_run 1 [] [6, 9, 30, 31, 32, 33] [6, 9] (fr' := [(6, .one (.ptr 6 0)), (9, .one (.ptr 9 0)), (30, aD (.slice tI) r16), (31, aI (List.length r16 : Int)), (32, aI i32), (33, aB (decide (i32 < (List.length r16 : Int))))]) (L' := [(6, .one (.arr 2 tI) [(0 : Int), (0 : Int)]), (9, .one (.arr 2 tI) x33)]) (obs := []) (by kernel_rfl) (by kernel_rfl) (by kernel_rfl) allP0 ?_
          refine seqQ_norm ?_
          refine W_seq (by kernel_rfl) ?_
          refine W_cond (o := .tmp 33) (b := decide (i32 < (List.length r16 : Int))) (by kernel_rfl) (by kernel_rfl) (fun h37 => ?_) (fun h37 => ?_)
          · replace h := stepL_true h37 h
            obtain ⟨v35, _, h36, h, rfl⟩ := h
            refine W_skip [6, 9, 30, 31, 32] [6, 9] (fr' := [(6, .one (.ptr 6 0)), (9, .one (.ptr 9 0)), (30, aD (.slice tI) r16), (31, aI (List.length r16 : Int)), (32, aI i32)]) (L' := [(6, .one (.arr 2 tI) [(0 : Int), (0 : Int)]), (9, .one (.arr 2 tI) x33)]) (by kernel_rfl) (by kernel_rfl) ?_
            refine seqQ_norm ?_
            refine W_seq (by kernel_rfl) ?_
            refine W_block (id := 1) (by kernel_rfl) ?_
            refine W_seq (by kernel_rfl) ?_
            refine W_run 5 [(3, .val (.dat tI v35))] [6, 9, 10, 11, 30, 31, 32] [6, 9] (fr' := [(6, .one (.ptr 6 0)), (9, .one (.ptr 9 0)), (10, aI i32), (11, aI v35), (30, aD (.slice tI) r16), (31, aI (List.length r16 : Int)), (32, aI i32)]) (L' := [(6, .one (.arr 2 tI) [(0 : Int), (0 : Int)]), (9, .one (.arr 2 tI) x33)]) (obs := [Idx r16 i32 v35]) (by kernel_rfl) (by kernel_rfl) (by kernel_rfl) (allP1 (Idx.of h36)) ?_
            refine seqQ_norm ?_
            obtain ⟨_, h38, h⟩ := bind_of h
            replace h38 := ck_some h38
            obtain ⟨v39, h40, h⟩ := bind_of h
            refine W_run 11 [(11, .val (.dat tI v39))] [6, 9, 30, 31, 32] [6, 9] (fr' := [(6, .one (.ptr 6 0)), (9, .one (.ptr 9 0)), (30, aD (.slice tI) r16), (31, aI (List.length r16 : Int)), (32, aI i32)]) (L' := [(6, .one (.arr 2 tI) [(0 : Int), (0 : Int)]), (9, .one (.arr 2 tI) (List.set x33 (Int.toNat (bAnd .i64 i32 (1 : Int))) (Int.tmod (w64 (v39 + v35)) (7 : Int))))]) (obs := [InR (bAnd .i64 i32 (1 : Int)) 2, Idx x33 (bAnd .i64 i32 (1 : Int)) v39, ((7 : Int) ≠ 0), InR (bAnd .i64 i32 (1 : Int)) 2, InR (bAnd .i64 i32 (1 : Int)) (List.length x33)]) (by kernel_rfl) (by kernel_rfl) (by kernel_rfl) (allP2 h38 (allP2 (Idx.of h40) (allP2 (by decide) (allP2 h38 (allP1 (InR.of h40)))))) ?_
            refine blockQ_norm ?_
            refine seqQ_norm ?_
            obtain rfl := Option.some.inj h
            refine W_run 2 [] [6, 9, 30, 31, 32] [6, 9] (fr' := [(6, .one (.ptr 6 0)), (9, .one (.ptr 9 0)), (30, aD (.slice tI) r16), (31, aI (List.length r16 : Int)), (32, aI (w64 (i32 + (1 : Int))))]) (L' := [(6, .one (.arr 2 tI) [(0 : Int), (0 : Int)]), (9, .one (.arr 2 tI) (List.set x33 (Int.toNat (bAnd .i64 i32 (1 : Int))) (Int.tmod (w64 (v39 + v35)) (7 : Int))))]) (obs := []) (by kernel_rfl) (by kernel_rfl) (by kernel_rfl) allP0 ?_
            exact round_next' (by kernel_rfl) (by kernel_rfl)
          · obtain rfl := stepL_false h37 h
            refine W_exit (id := 0) [6, 9] [6, 9] (fr' := [(6, .one (.ptr 6 0)), (9, .one (.ptr 9 0))]) (L' := [(6, .one (.arr 2 tI) [(0 : Int), (0 : Int)]), (9, .one (.arr 2 tI) x33)]) (by kernel_rfl) (by kernel_rfl) ?_
            refine seqQ_exit ?_
            refine round_exit ?_
            exact exQ_mk (by kernel_rfl) (by kernel_rfl)
        · intro e fr L hJ
          obtain ⟨rfl, rfl, rfl⟩ := hJ
          refine LT_keep [6, 9] [6, 9] (fr' := [(6, .one (.ptr 6 0)), (9, .one (.ptr 9 0))]) (L' := [(6, .one (.arr 2 tI) [(0 : Int), (0 : Int)]), (9, .one (.arr 2 tI) v42)]) (by kernel_rfl) ?_
          refine blockQ_hit ?_
          refine seqQ_norm ?_
          refine W_seq (by kernel_rfl) ?_
          refine W_run 3 [] [6, 7] [6] (fr' := [(6, .one (.ptr 6 0)), (7, aI (0 : Int))]) (L' := [(6, .one (.arr 2 tI) v42)]) (obs := [True]) (by kernel_rfl) (by kernel_rfl) (by kernel_rfl) (allP1 trivial) ?_
          refine seqQ_norm ?_
          obtain rfl := Option.some.inj h
          refine W_ret [6, 7] [6] (fr' := [(6, .one (.ptr 6 0)), (7, aI (0 : Int))]) (L' := [(6, .one (.arr 2 tI) v42)]) (by kernel_rfl) (by kernel_rfl) ?_
          exact retQ_mk (by kernel_rfl) (by kernel_rfl) (by kernel_rfl)

def ref_Within (a0 : Int) (a1 : Int) (a2 : Int) : Option Bool :=
some ((decide (a0 ≤ a1)) && (decide (a1 ≤ a2)))
theorem ref_Within_ok {a0 : Int} {a1 : Int} {a2 : Int} {r : Bool} (h : ref_Within a0 a1 a2 = some r) : FnC Try.prog 32 [aI a0, aI a1, aI a2] [] (aB r) [] := by
  refine fnC_of_W (B := bodyOf Try.f32) (n := 15) Try.func32 (by kernel_rfl) (by kernel_rfl) (by kernel_rfl) (by kernel_rfl) (by kernel_rfl) ?_
  intro K
  refine W_seq (by kernel_rfl) ?_
  refine W_run 1 [] [0, 1, 2] [] (fr' := [(0, aI a0), (1, aI a1), (2, aI a2)]) (L' := []) (obs := []) (by kernel_rfl) (by kernel_rfl) (by kernel_rfl) allP0 ?_
  refine seqQ_norm ?_
  refine W_seq (by kernel_rfl) ?_
  refine W_run 9 [] [6] [] (fr' := [(6, aB ((decide (a0 ≤ a1)) && (decide (a1 ≤ a2))))]) (L' := []) (obs := []) (by kernel_rfl) (by kernel_rfl) (by kernel_rfl) allP0 ?_
  refine seqQ_norm ?_
  obtain rfl := Option.some.inj h
  refine W_ret [6] [] (fr' := [(6, aB ((decide (a0 ≤ a1)) && (decide (a1 ≤ a2))))]) (L' := []) (by kernel_rfl) (by kernel_rfl) ?_
  exact retQ_mk (by kernel_rfl) (by kernel_rfl) (by kernel_rfl)

def ref_Inside_b1 (a0 : Int) (i11 : Int) (v14 : Int) (x12 : Unit) : Option (Flow Unit (Esc Bool Unit)) :=
bif (decide (v14 < (0 : Int))) || (decide (v14 ≥ a0)) then
(some (.done (.ret false)))
else
(some (.next ()))
@[reducible] def ref_Inside_s2 (a0 : Int) (a1 : (List Int)) (v : Int × Unit) : Fr × LL := ([(0, aI a0), (7, aD (.slice tI) a1), (8, aI (List.length a1 : Int)), (9, aI v.1)], [])
@[reducible] def ref_Inside_s3 (v : Bool) : Fr × LL := ([(4, aB v)], [])
@[reducible] def ref_Inside_s4 (v : Unit) : Fr × LL := ([], [])
def ref_Inside (a0 : Int) (a1 : (List Int)) : Option Bool :=
(forL (ref_Inside_b1 a0) (fun x12 => (.brk ())) a1 0 ()).bind fun v19 =>
match v19 with
| .ret v24 =>
(some v24)
| .brk v25 =>
(some true)
theorem ref_Inside_ok {a0 : Int} {a1 : (List Int)} {r : Bool} (h : ref_Inside a0 a1 = some r) : FnC Try.prog 17 [aI a0, aD (.slice tI) a1] [] (aB r) [] := by
  refine fnC_of_W (B := bodyOf Try.f17) (n := 21) Try.func17 (by kernel_rfl) (by kernel_rfl) (by kernel_rfl) (by kernel_rfl) (by kernel_rfl) ?_
  intro K
  refine W_seq (by kernel_rfl) ?_
  refine W_run 1 [] [0, 1] [] (fr' := [(0, aI a0), (1, aD (.slice tI) a1)]) (L' := []) (obs := []) (by kernel_rfl) (by kernel_rfl) (by kernel_rfl) allP0 ?_
  refine seqQ_norm ?_
  refine W_seq (by kernel_rfl) ?_
  refine W_seq (by kernel_rfl) ?_
  refine W_run 3 [] [0, 7, 8, 9] [] (fr' := [(0, aI a0), (7, aD (.slice tI) a1), (8, aI (List.length a1 : Int)), (9, aI (0 : Int))]) (L' := []) (obs := []) (by kernel_rfl) (by kernel_rfl) (by kernel_rfl) allP0 ?_
  refine seqQ_norm ?_
  refine W_block (id := 0) (by kernel_rfl) ?_
  obtain ⟨v19, h20, h⟩ := bind_of h
  refine W_len (t := 7) (u := tI) (xs := a1) (by kernel_rfl) (fun h23 => ?_)
  obtain ⟨h21, h22⟩ := forL_iter h23 h20
  refine W_weaken [0, 7, 8, 9] [] (fr' := ((ref_Inside_s2 a0 a1) ((0 : Int), ())).1) (L' := ((ref_Inside_s2 a0 a1) ((0 : Int), ())).2) (by kernel_rfl) ?_
  refine W_cutK (W_loop (S := (ref_Inside_s2 a0 a1)) (J := (escQ (exQ .ret ref_Inside_s3) (exQ (.exit 0) ref_Inside_s4))) (by kernel_rfl) ?_ h21 _ v19 h22) ?_
  · rintro ⟨i11, x12⟩ s h
    refine W_seq (by kernel_rfl) ?_
    refine W_run 1 [] [0, 7, 8, 9, 10] [] (fr' := [(0, aI a0), (7, aD (.slice tI) a1), (8, aI (List.length a1 : Int)), (9, aI i11), (10, aB (decide (i11 < (List.length a1 : Int))))]) (L' := []) (obs := []) (by kernel_rfl) (by kernel_rfl) (by kernel_rfl) allP0 ?_
    refine seqQ_norm ?_
    refine W_seq (by kernel_rfl) ?_
    refine W_cond (o := .tmp 10) (b := decide (i11 < (List.length a1 : Int))) (by kernel_rfl) (by kernel_rfl) (fun h16 => ?_) (fun h16 => ?_)
    · replace h := stepL_true h16 h
      obtain ⟨v14, _, h15, h, rfl⟩ := h
      refine W_skip [0, 7, 8, 9] [] (fr' := [(0, aI a0), (7, aD (.slice tI) a1), (8, aI (List.length a1 : Int)), (9, aI i11)]) (L' := []) (by kernel_rfl) (by kernel_rfl) ?_
      refine seqQ_norm ?_
      refine W_seq (by kernel_rfl) ?_
      refine W_block (id := 1) (by kernel_rfl) ?_
      refine W_seq (by kernel_rfl) ?_
      refine W_run 3 [(1, .val (.dat tI v14))] [0, 6, 7, 8, 9] [] (fr' := [(0, aI a0), (6, aI v14), (7, aD (.slice tI) a1), (8, aI (List.length a1 : Int)), (9, aI i11)]) (L' := []) (obs := [Idx a1 i11 v14]) (by kernel_rfl) (by kernel_rfl) (by kernel_rfl) (allP1 (Idx.of h15)) ?_
      refine seqQ_norm ?_
      refine W_seq (by kernel_rfl) ?_
      refine W_run 7 [] [0, 7, 8, 9, 19] [] (fr' := [(0, aI a0), (7, aD (.slice tI) a1), (8, aI (List.length a1 : Int)), (9, aI i11), (19, aB ((decide (v14 < (0 : Int))) || (decide (v14 ≥ a0))))]) (L' := []) (obs := []) (by kernel_rfl) (by kernel_rfl) (by kernel_rfl) allP0 ?_
      refine seqQ_norm ?_
      refine W_cond (o := .tmp 19) (b := (decide (v14 < (0 : Int))) || (decide (v14 ≥ a0))) (by kernel_rfl) (by kernel_rfl) (fun h17 => ?_) (fun h17 => ?_)
      · replace h := ofT h17 h
        refine W_seq (by kernel_rfl) ?_
        refine W_run 1 [] [4] [] (fr' := [(4, aB false)]) (L' := []) (obs := []) (by kernel_rfl) (by kernel_rfl) (by kernel_rfl) allP0 ?_
        refine seqQ_norm ?_
        obtain rfl := Option.some.inj h
        refine W_ret [4] [] (fr' := [(4, aB false)]) (L' := []) (by kernel_rfl) (by kernel_rfl) ?_
        refine blockQ_ret ?_
        refine seqQ_ret ?_
        refine round_ret ?_
        refine escQ_ret ?_
        exact exQ_mk (by kernel_rfl) (by kernel_rfl)
      · replace h := ofF h17 h
        refine W_skip [0, 7, 8, 9] [] (fr' := [(0, aI a0), (7, aD (.slice tI) a1), (8, aI (List.length a1 : Int)), (9, aI i11)]) (L' := []) (by kernel_rfl) (by kernel_rfl) ?_
        refine blockQ_norm ?_
        refine seqQ_norm ?_
        obtain rfl := Option.some.inj h
        refine W_run 2 [] [0, 7, 8, 9] [] (fr' := [(0, aI a0), (7, aD (.slice tI) a1), (8, aI (List.length a1 : Int)), (9, aI (w64 (i11 + (1 : Int))))]) (L' := []) (obs := []) (by kernel_rfl) (by kernel_rfl) (by kernel_rfl) allP0 ?_
        exact round_next' (by kernel_rfl) (by kernel_rfl)
    · obtain rfl := stepL_false h16 h
      refine W_exit (id := 0) [] [] (fr' := []) (L' := []) (by kernel_rfl) (by kernel_rfl) ?_
      refine seqQ_exit ?_
      refine round_exit ?_
      refine escQ_brk ?_
      exact exQ_mk (by kernel_rfl) (by kernel_rfl)
  · intro e fr L hJ
    rcases v19 with v24 | v25
    · obtain ⟨rfl, rfl, rfl⟩ := hJ
      obtain rfl := Option.some.inj h
      refine LT_keep [4] [] (fr' := [(4, aB v24)]) (L' := []) (by kernel_rfl) ?_
      refine blockQ_ret ?_
      refine seqQ_ret ?_
      exact retQ_mk (by kernel_rfl) (by kernel_rfl) (by kernel_rfl)
    · obtain ⟨rfl, rfl, rfl⟩ := hJ
      refine LT_keep [] [] (fr' := []) (L' := []) (by kernel_rfl) ?_
      refine blockQ_hit ?_
      refine seqQ_norm ?_
      refine W_seq (by kernel_rfl) ?_
      refine W_run 1 [] [4] [] (fr' := [(4, aB true)]) (L' := []) (obs := []) (by kernel_rfl) (by kernel_rfl) (by kernel_rfl) allP0 ?_
      refine seqQ_norm ?_
      obtain rfl := Option.some.inj h
      refine W_ret [4] [] (fr' := [(4, aB true)]) (L' := []) (by kernel_rfl) (by kernel_rfl) ?_
      exact retQ_mk (by kernel_rfl) (by kernel_rfl) (by kernel_rfl)

def ref_SumCheck (a0 : Int) (a1 : (List Int)) : Option Int :=
(ref_Within (1 : Int) a0 (4 : Int)).bind fun r1 =>
bif !r1 then
(some (1 : Int))
else
((ck (0 ≤ IntKind.wrap .u64 (a0))).bind fun _ =>
bif (List.length a1 : Int) != (bShl .i64 (1 : Int) (IntKind.wrap .u64 (a0))) then
(some (3 : Int))
else
((ref_Inside (7 : Int) a1).bind fun r6 =>
bif !r6 then
(some (4 : Int))
else
(some (0 : Int))))
theorem ref_SumCheck_ok {a0 : Int} {a1 : (List Int)} {r : Int} (h : ref_SumCheck a0 a1 = some r) : FnC Try.prog 15 [aI a0, aD (.slice tI) a1] [] (aI r) [] := by
  refine fnC_of_W (B := bodyOf Try.f15) (n := 17) Try.func15 (by kernel_rfl) (by kernel_rfl) (by kernel_rfl) (by kernel_rfl) (by kernel_rfl) ?_
  intro K
  refine W_seq (by kernel_rfl) ?_
  refine W_run 1 [] [0, 1] [] (fr' := [(0, aI a0), (1, aD (.slice tI) a1)]) (L' := []) (obs := []) (by kernel_rfl) (by kernel_rfl) (by kernel_rfl) allP0 ?_
  refine seqQ_norm ?_
  refine W_seq (by kernel_rfl) ?_
  refine W_seq (by kernel_rfl) ?_
  refine W_region (by kernel_rfl) ?_
  refine WO_run (j := 1) (k := 1) (orcs := []) (kF := [0, 1, 5]) (kL := []) (fr' := [(0, aI a0), (1, aD (.slice tI) a1), (5, aI a0)]) (L' := []) (obs := []) rfl (by kernel_rfl) allP0 ?_
  obtain ⟨r1, h2, h⟩ := bind_of h
  refine WO_call0 (us := [none, none, none]) (d := 6) (p := True) (j := 2) rfl ⟨by kernel_rfl, by kernel_rfl, by kernel_rfl⟩ trivial (ref_Within_ok h2) (by kernel_rfl) ?_
  refine WO_run (j := 3) (k := 1) (orcs := []) (kF := [0, 1, 7]) (kL := []) (fr' := [(0, aI a0), (1, aD (.slice tI) a1), (7, aB (!r1))]) (L' := []) (obs := []) rfl (by kernel_rfl) allP0 ?_
  refine WO_fin [0, 1, 7] [] (fr' := [(0, aI a0), (1, aD (.slice tI) a1), (7, aB (!r1))]) (L' := []) (by kernel_rfl) (by kernel_rfl) ?_
  refine seqQ_norm ?_
  refine W_cond (o := .tmp 7) (b := !r1) (by kernel_rfl) (by kernel_rfl) (fun h3 => ?_) (fun h3 => ?_)
  · replace h := ofT h3 h
    refine W_seq (by kernel_rfl) ?_
    refine W_run 1 [] [4] [] (fr' := [(4, aI (1 : Int))]) (L' := []) (obs := []) (by kernel_rfl) (by kernel_rfl) (by kernel_rfl) allP0 ?_
    refine seqQ_norm ?_
    obtain rfl := Option.some.inj h
    refine W_ret [4] [] (fr' := [(4, aI (1 : Int))]) (L' := []) (by kernel_rfl) (by kernel_rfl) ?_
    refine seqQ_ret ?_
    exact retQ_mk (by kernel_rfl) (by kernel_rfl) (by kernel_rfl)
  · replace h := ofF h3 h
    refine W_skip [0, 1] [] (fr' := [(0, aI a0), (1, aD (.slice tI) a1)]) (L' := []) (by kernel_rfl) (by kernel_rfl) ?_
    refine seqQ_norm ?_
    refine W_seq (by kernel_rfl) ?_
    refine W_seq (by kernel_rfl) ?_
    obtain ⟨_, h4, h⟩ := bind_of h
    replace h4 := ck_some h4
    refine W_run 6 [] [1, 13] [] (fr' := [(1, aD (.slice tI) a1), (13, aB ((List.length a1 : Int) != (bShl .i64 (1 : Int) (IntKind.wrap .u64 (a0)))))]) (L' := []) (obs := [(0 ≤ IntKind.wrap .u64 (a0))]) (by kernel_rfl) (by kernel_rfl) (by kernel_rfl) (allP1 h4) ?_
    refine seqQ_norm ?_
    refine W_cond (o := .tmp 13) (b := (List.length a1 : Int) != (bShl .i64 (1 : Int) (IntKind.wrap .u64 (a0)))) (by kernel_rfl) (by kernel_rfl) (fun h5 => ?_) (fun h5 => ?_)
    · replace h := ofT h5 h
      refine W_seq (by kernel_rfl) ?_
      refine W_run 1 [] [4] [] (fr' := [(4, aI (3 : Int))]) (L' := []) (obs := []) (by kernel_rfl) (by kernel_rfl) (by kernel_rfl) allP0 ?_
      refine seqQ_norm ?_
      obtain rfl := Option.some.inj h
      refine W_ret [4] [] (fr' := [(4, aI (3 : Int))]) (L' := []) (by kernel_rfl) (by kernel_rfl) ?_
      refine seqQ_ret ?_
      exact retQ_mk (by kernel_rfl) (by kernel_rfl) (by kernel_rfl)
    · replace h := ofF h5 h
      refine W_skip [1] [] (fr' := [(1, aD (.slice tI) a1)]) (L' := []) (by kernel_rfl) (by kernel_rfl) ?_
      refine seqQ_norm ?_
      refine W_seq (by kernel_rfl) ?_
      refine W_seq (by kernel_rfl) ?_
      refine W_region (by kernel_rfl) ?_
      refine WO_run (j := 1) (k := 1) (orcs := []) (kF := [14]) (kL := []) (fr' := [(14, aD (.slice tI) a1)]) (L' := []) (obs := []) rfl (by kernel_rfl) allP0 ?_
      obtain ⟨r6, h7, h⟩ := bind_of h
      refine WO_call0 (us := [none, none]) (d := 15) (p := True) (j := 2) rfl ⟨by kernel_rfl, by kernel_rfl, by kernel_rfl⟩ trivial (ref_Inside_ok h7) (by kernel_rfl) ?_
      refine WO_run (j := 3) (k := 1) (orcs := []) (kF := [16]) (kL := []) (fr' := [(16, aB (!r6))]) (L' := []) (obs := []) rfl (by kernel_rfl) allP0 ?_
      refine WO_fin [16] [] (fr' := [(16, aB (!r6))]) (L' := []) (by kernel_rfl) (by kernel_rfl) ?_
      refine seqQ_norm ?_
      refine W_cond (o := .tmp 16) (b := !r6) (by kernel_rfl) (by kernel_rfl) (fun h8 => ?_) (fun h8 => ?_)
      · replace h := ofT h8 h
        refine W_seq (by kernel_rfl) ?_
        refine W_run 1 [] [4] [] (fr' := [(4, aI (4 : Int))]) (L' := []) (obs := []) (by kernel_rfl) (by kernel_rfl) (by kernel_rfl) allP0 ?_
        refine seqQ_norm ?_
        obtain rfl := Option.some.inj h
        refine W_ret [4] [] (fr' := [(4, aI (4 : Int))]) (L' := []) (by kernel_rfl) (by kernel_rfl) ?_
        refine seqQ_ret ?_
        exact retQ_mk (by kernel_rfl) (by kernel_rfl) (by kernel_rfl)
      · replace h := ofF h8 h
        refine W_skip [] [] (fr' := []) (L' := []) (by kernel_rfl) (by kernel_rfl) ?_
        refine seqQ_norm ?_
        refine W_seq (by kernel_rfl) ?_
        refine W_run 1 [] [4] [] (fr' := [(4, aI (0 : Int))]) (L' := []) (obs := []) (by kernel_rfl) (by kernel_rfl) (by kernel_rfl) allP0 ?_
        refine seqQ_norm ?_
        obtain rfl := Option.some.inj h
        refine W_ret [4] [] (fr' := [(4, aI (0 : Int))]) (L' := []) (by kernel_rfl) (by kernel_rfl) ?_
        exact retQ_mk (by kernel_rfl) (by kernel_rfl) (by kernel_rfl)

def ref_Bit (a0 : Int) (a1 : Int) : Option Bool :=
bif (decide (a1 ≥ (0 : Int))) && (decide (a1 < (63 : Int))) then
((ck (0 ≤ IntKind.wrap .u64 (a1))).bind fun _ =>
some ((bAnd .i64 a0 (bShl .i64 (1 : Int) (IntKind.wrap .u64 (a1)))) != (0 : Int)))
else
(some false)
theorem ref_Bit_ok {a0 : Int} {a1 : Int} {r : Bool} (h : ref_Bit a0 a1 = some r) : FnC Try.prog 49 [aI a0, aI a1] [] (aB r) [] := by
  refine fnC_of_W (B := bodyOf Try.f49) (n := 19) Try.func49 (by kernel_rfl) (by kernel_rfl) (by kernel_rfl) (by kernel_rfl) (by kernel_rfl) ?_
  intro K
  refine W_seq (by kernel_rfl) ?_
  refine W_run 1 [] [0, 1] [] (fr' := [(0, aI a0), (1, aI a1)]) (L' := []) (obs := []) (by kernel_rfl) (by kernel_rfl) (by kernel_rfl) allP0 ?_
  refine seqQ_norm ?_
  refine W_seq (by kernel_rfl) ?_
  refine W_region (by kernel_rfl) ?_
  refine WO_run (j := 7) (k := 7) (orcs := []) (kF := [0, 1, 11]) (kL := []) (fr' := [(0, aI a0), (1, aI a1), (11, aB ((decide (a1 ≥ (0 : Int))) && (decide (a1 < (63 : Int)))))]) (L' := []) (obs := []) rfl (by kernel_rfl) allP0 ?_
  rcases Bool.eq_false_or_eq_true ((decide (a1 ≥ (0 : Int))) && (decide (a1 < (63 : Int)))) with h1 | h1
  · replace h := ofT h1 h
    obtain ⟨_, h2, h⟩ := bind_of h
    replace h2 := ck_some h2
    refine WO_run (j := 15) (k := 8) (orcs := [(14, .known true), (16, .known true), (18, .known true), (20, .known true), (22, .known true), (24, .known true), (27, .val (.dat .bool true))]) (kF := [4]) (kL := []) (fr' := [(4, aB ((bAnd .i64 a0 (bShl .i64 (1 : Int) (IntKind.wrap .u64 (a1)))) != (0 : Int)))]) (L' := []) (obs := [(((decide (a1 ≥ (0 : Int))) && (decide (a1 < (63 : Int)))) = true), (((decide (a1 ≥ (0 : Int))) && (decide (a1 < (63 : Int)))) = true), (((decide (a1 ≥ (0 : Int))) && (decide (a1 < (63 : Int)))) = true), (((decide (a1 ≥ (0 : Int))) && (decide (a1 < (63 : Int)))) = true), (0 ≤ IntKind.wrap .u64 (a1)), (((decide (a1 ≥ (0 : Int))) && (decide (a1 < (63 : Int)))) = true), (((decide (a1 ≥ (0 : Int))) && (decide (a1 < (63 : Int)))) = true), (((decide (a1 ≥ (0 : Int))) && (decide (a1 < (63 : Int)))) = true)]) rfl (by kernel_rfl) (allP2 h1 (allP2 h1 (allP2 h1 (allP2 h1 (allP2 h2 (allP2 h1 (allP2 h1 (allP1 h1)))))))) ?_
    refine WO_fin [4] [] (fr' := [(4, aB ((bAnd .i64 a0 (bShl .i64 (1 : Int) (IntKind.wrap .u64 (a1)))) != (0 : Int)))]) (L' := []) (by kernel_rfl) (by kernel_rfl) ?_
    refine seqQ_norm ?_
    obtain rfl := Option.some.inj h
    refine W_ret [4] [] (fr' := [(4, aB ((bAnd .i64 a0 (bShl .i64 (1 : Int) (IntKind.wrap .u64 (a1)))) != (0 : Int)))]) (L' := []) (by kernel_rfl) (by kernel_rfl) ?_
    exact retQ_mk (by kernel_rfl) (by kernel_rfl) (by kernel_rfl)
  · replace h := ofF h1 h
    refine WO_run (j := 15) (k := 8) (orcs := [(14, .known false), (16, .known false), (18, .known false), (20, .known false), (22, .known false), (24, .known false), (27, .val (.dat .bool false))]) (kF := [4]) (kL := []) (fr' := [(4, aB false)]) (L' := []) (obs := [(((decide (a1 ≥ (0 : Int))) && (decide (a1 < (63 : Int)))) = false), (((decide (a1 ≥ (0 : Int))) && (decide (a1 < (63 : Int)))) = false), (((decide (a1 ≥ (0 : Int))) && (decide (a1 < (63 : Int)))) = false), (((decide (a1 ≥ (0 : Int))) && (decide (a1 < (63 : Int)))) = false), (((decide (a1 ≥ (0 : Int))) && (decide (a1 < (63 : Int)))) = false), (((decide (a1 ≥ (0 : Int))) && (decide (a1 < (63 : Int)))) = false), (((decide (a1 ≥ (0 : Int))) && (decide (a1 < (63 : Int)))) = false)]) rfl (by kernel_rfl) (allP2 h1 (allP2 h1 (allP2 h1 (allP2 h1 (allP2 h1 (allP2 h1 (allP1 h1))))))) ?_
    refine WO_fin [4] [] (fr' := [(4, aB false)]) (L' := []) (by kernel_rfl) (by kernel_rfl) ?_
    refine seqQ_norm ?_
    obtain rfl := Option.some.inj h
    refine W_ret [4] [] (fr' := [(4, aB false)]) (L' := []) (by kernel_rfl) (by kernel_rfl) ?_
    exact retQ_mk (by kernel_rfl) (by kernel_rfl) (by kernel_rfl)

def ref_At_g23 (a2 : (List Int)) (i173 : Int) (i229 : Int) (x230 : Int) : Option Int :=
(ref_Bit i173 i229).bind fun r247 =>
bif r247 then
((idx a2 i229).bind fun v250 =>
some (Int.tmod (w64 (x230 * v250)) (7 : Int)))
else
((idx a2 i229).bind fun v252 =>
some (Int.tmod (w64 (x230 * (w64 ((8 : Int) - v252)))) (7 : Int)))
@[reducible] def ref_At_s24 (a0 : Int) (a1 : (List Int)) (a2 : (List Int)) (i173 : Int) (x174 : Int) (i229 : Int) (v : Int) : Fr × LL := ([(0, aI a0), (1, aD (.slice tI) a1), (2, aD (.slice tI) a2), (7, aI x174), (8, aI i173), (9, aI v), (10, aI i229)], [])
def ref_At_b25 (a2 : (List Int)) (i173 : Int) (i229 : Int) (x230 : Int) : Option (Flow Int Int) :=
(ref_At_g23 a2 i173 i229 x230).bind fun v254 =>
some (.next v254)
@[reducible] def ref_At_s26 (a0 : Int) (a1 : (List Int)) (a2 : (List Int)) (i173 : Int) (x174 : Int) (v : Int × Int) : Fr × LL := ([(0, aI a0), (1, aD (.slice tI) a1), (2, aD (.slice tI) a2), (7, aI x174), (8, aI i173), (9, aI v.2), (10, aI v.1)], [])
@[reducible] def ref_At_s27 (a0 : Int) (a1 : (List Int)) (a2 : (List Int)) (i173 : Int) (x174 : Int) (v : Int) : Fr × LL := ([(0, aI a0), (1, aD (.slice tI) a1), (2, aD (.slice tI) a2), (7, aI x174), (8, aI i173), (9, aI v)], [])
def ref_At_b28 (a0 : Int) (a2 : (List Int)) (i173 : Int) (v176 : Int) (x174 : Int) : Option (Flow Int Int) :=
(forI (0 : Int) a0 (ref_At_b25 a2 i173) (fun x230 => x230) v176).bind fun v257 =>
some (.next (w64 (x174 + v257)))
@[reducible] def ref_At_s29 (a0 : Int) (a1 : (List Int)) (a2 : (List Int)) (v : Int × Int) : Fr × LL := ([(0, aI a0), (1, aD (.slice tI) a1), (2, aD (.slice tI) a2), (7, aI v.2), (8, aI v.1)], [])
@[reducible] def ref_At_s30 (v : Int) : Fr × LL := ([(7, aI v)], [])
def ref_At (a0 : Int) (a1 : (List Int)) (a2 : (List Int)) : Option Int :=
(forL (ref_At_b28 a0 a2) (fun x174 => x174) a1 0 (0 : Int)).bind fun v262 =>
some (Int.tmod v262 (7 : Int))
theorem ref_At_ok {a0 : Int} {a1 : (List Int)} {a2 : (List Int)} {r : Int} (h : ref_At a0 a1 a2 = some r) : FnC Try.prog 18 [aI a0, aD (.slice tI) a1, aD (.slice tI) a2] [] (aI r) [] := by
  refine fnC_of_W (B := bodyOf Try.f18) (n := 49) Try.func18 (by kernel_rfl) (by kernel_rfl) (by kernel_rfl) (by kernel_rfl) (by kernel_rfl) ?_
  intro K
  refine W_seq (by kernel_rfl) ?_
  refine W_run 1 [] [0, 1, 2] [] (fr' := [(0, aI a0), (1, aD (.slice tI) a1), (2, aD (.slice tI) a2)]) (L' := []) (obs := []) (by kernel_rfl) (by kernel_rfl) (by kernel_rfl) allP0 ?_
  refine seqQ_norm ?_
  refine W_seq (by kernel_rfl) ?_
  refine W_run 1 [] [0, 1, 2, 7] [] (fr' := [(0, aI a0), (1, aD (.slice tI) a1), (2, aD (.slice tI) a2), (7, aI (0 : Int))]) (L' := []) (obs := []) (by kernel_rfl) (by kernel_rfl) (by kernel_rfl) allP0 ?_
  refine seqQ_norm ?_
  refine W_seq (by kernel_rfl) ?_
  refine W_seq (by kernel_rfl) ?_
  refine W_run 1 [] [0, 1, 2, 7, 8] [] (fr' := [(0, aI a0), (1, aD (.slice tI) a1), (2, aD (.slice tI) a2), (7, aI (0 : Int)), (8, aI (0 : Int))]) (L' := []) (obs := []) (by kernel_rfl) (by kernel_rfl) (by kernel_rfl) allP0 ?_
  refine seqQ_norm ?_
  refine W_block (id := 0) (by kernel_rfl) ?_
  obtain ⟨v262, h263, h⟩ := bind_of h
  refine W_len (t := 1) (u := tI) (xs := a1) (by kernel_rfl) (fun h266 => ?_)
  obtain ⟨h264, h265⟩ := forL_iter h266 h263
  refine W_weaken [0, 1, 2, 7, 8] [] (fr' := ((ref_At_s29 a0 a1 a2) ((0 : Int), (0 : Int))).1) (L' := ((ref_At_s29 a0 a1 a2) ((0 : Int), (0 : Int))).2) (by kernel_rfl) ?_
  refine W_cutK (W_loop (S := (ref_At_s29 a0 a1 a2)) (J := (exQ (.exit 0) ref_At_s30)) (by kernel_rfl) ?_ h264 _ v262 h265) ?_
  · rintro ⟨i173, x174⟩ s h
    refine W_seq (by kernel_rfl) ?_
    refine W_seq (by kernel_rfl) ?_
    refine W_run 4 [] [0, 1, 2, 7, 8, 14] [] (fr' := [(0, aI a0), (1, aD (.slice tI) a1), (2, aD (.slice tI) a2), (7, aI x174), (8, aI i173), (14, aB (decide (i173 < (List.length a1 : Int))))]) (L' := []) (obs := []) (by kernel_rfl) (by kernel_rfl) (by kernel_rfl) allP0 ?_
    refine seqQ_norm ?_
    refine W_cond (o := .tmp 14) (b := decide (i173 < (List.length a1 : Int))) (by kernel_rfl) (by kernel_rfl) (fun h178 => ?_) (fun h178 => ?_)
    · replace h := stepL_true h178 h
      obtain ⟨v176, _, h177, h, rfl⟩ := h
      refine W_skip [0, 1, 2, 7, 8] [] (fr' := [(0, aI a0), (1, aD (.slice tI) a1), (2, aD (.slice tI) a2), (7, aI x174), (8, aI i173)]) (L' := []) (by kernel_rfl) (by kernel_rfl) ?_
      refine seqQ_norm ?_
      refine W_seq (by kernel_rfl) ?_
      refine W_block (id := 1) (by kernel_rfl) ?_
      refine W_seq (by kernel_rfl) ?_
      refine W_run 5 [(5, .val (.dat tI v176))] [0, 1, 2, 7, 8, 9] [] (fr' := [(0, aI a0), (1, aD (.slice tI) a1), (2, aD (.slice tI) a2), (7, aI x174), (8, aI i173), (9, aI v176)]) (L' := []) (obs := [Idx a1 i173 v176]) (by kernel_rfl) (by kernel_rfl) (by kernel_rfl) (allP1 (Idx.of h177)) ?_
      refine seqQ_norm ?_
      refine W_seq (by kernel_rfl) ?_
      refine W_seq (by kernel_rfl) ?_
      refine W_run 1 [] [0, 1, 2, 7, 8, 9, 10] [] (fr' := [(0, aI a0), (1, aD (.slice tI) a1), (2, aD (.slice tI) a2), (7, aI x174), (8, aI i173), (9, aI v176), (10, aI (0 : Int))]) (L' := []) (obs := []) (by kernel_rfl) (by kernel_rfl) (by kernel_rfl) allP0 ?_
      refine seqQ_norm ?_
      refine W_block (id := 2) (by kernel_rfl) ?_
      obtain ⟨v257, h258, h⟩ := bind_of h
      obtain ⟨h259, h260⟩ := forI_iter h258
      refine W_weaken [0, 1, 2, 7, 8, 9, 10] [] (fr' := ((ref_At_s26 a0 a1 a2 i173 x174) ((0 : Int), v176)).1) (L' := ((ref_At_s26 a0 a1 a2 i173 x174) ((0 : Int), v176)).2) (by kernel_rfl) ?_
      refine W_cutK (W_loop (S := (ref_At_s26 a0 a1 a2 i173 x174)) (J := (exQ (.exit 2) (ref_At_s27 a0 a1 a2 i173 x174))) (by kernel_rfl) ?_ h259 _ v257 h260) ?_
      · rintro ⟨i229, x230⟩ s h
        refine W_seq (by kernel_rfl) ?_
        refine W_seq (by kernel_rfl) ?_
        refine W_run 3 [] [0, 1, 2, 7, 8, 9, 10, 23] [] (fr' := [(0, aI a0), (1, aD (.slice tI) a1), (2, aD (.slice tI) a2), (7, aI x174), (8, aI i173), (9, aI x230), (10, aI i229), (23, aB (decide (i229 < a0)))]) (L' := []) (obs := []) (by kernel_rfl) (by kernel_rfl) (by kernel_rfl) allP0 ?_
        refine seqQ_norm ?_
        refine W_cond (o := .tmp 23) (b := decide (i229 < a0)) (by kernel_rfl) (by kernel_rfl) (fun h232 => ?_) (fun h232 => ?_)
        · replace h := stepI_true h232 h
          obtain ⟨_, h, rfl⟩ := h
          refine W_skip [0, 1, 2, 7, 8, 9, 10] [] (fr' := [(0, aI a0), (1, aD (.slice tI) a1), (2, aD (.slice tI) a2), (7, aI x174), (8, aI i173), (9, aI x230), (10, aI i229)]) (L' := []) (by kernel_rfl) (by kernel_rfl) ?_
          refine seqQ_norm ?_
          refine W_seq (by kernel_rfl) ?_
          obtain ⟨v254, h255, h⟩ := bind_of h
          refine W_cutK (Q' := (exQ .normal (ref_At_s24 a0 a1 a2 i173 x174 i229)) v254) ?_ ?_
          · replace h := h255
            refine W_block (id := 3) (by kernel_rfl) ?_
            refine W_seq (by kernel_rfl) ?_
            refine W_region (by kernel_rfl) ?_
            refine WO_run (j := 2) (k := 2) (orcs := []) (kF := [0, 1, 2, 7, 8, 9, 10, 26, 27]) (kL := []) (fr' := [(0, aI a0), (1, aD (.slice tI) a1), (2, aD (.slice tI) a2), (7, aI x174), (8, aI i173), (9, aI x230), (10, aI i229), (26, aI i173), (27, aI i229)]) (L' := []) (obs := []) rfl (by kernel_rfl) allP0 ?_
            obtain ⟨r247, h248, h⟩ := bind_of h
            refine WO_call0 (us := [none, none]) (d := 28) (p := True) (j := 3) rfl ⟨by kernel_rfl, by kernel_rfl, by kernel_rfl⟩ trivial (ref_Bit_ok h248) (by kernel_rfl) ?_
            refine WO_fin [0, 1, 2, 7, 8, 9, 10, 28] [] (fr' := [(0, aI a0), (1, aD (.slice tI) a1), (2, aD (.slice tI) a2), (7, aI x174), (8, aI i173), (9, aI x230), (10, aI i229), (28, aB r247)]) (L' := []) (by kernel_rfl) (by kernel_rfl) ?_
            refine seqQ_norm ?_
            refine W_cond (o := .tmp 28) (b := r247) (by kernel_rfl) (by kernel_rfl) (fun h249 => ?_) (fun h249 => ?_)
            · replace h := ofT h249 h
              obtain ⟨v250, h251, h⟩ := bind_of h
              obtain rfl := Option.some.inj h
              refine W_run 8 [(7, .val (.dat tI v250))] [0, 1, 2, 7, 8, 9, 10] [] (fr' := [(0, aI a0), (1, aD (.slice tI) a1), (2, aD (.slice tI) a2), (7, aI x174), (8, aI i173), (9, aI (Int.tmod (w64 (x230 * v250)) (7 : Int))), (10, aI i229)]) (L' := []) (obs := [Idx a2 i229 v250, ((7 : Int) ≠ 0)]) (by kernel_rfl) (by kernel_rfl) (by kernel_rfl) (allP2 (Idx.of h251) (allP1 (by decide))) ?_
              refine blockQ_norm ?_
              exact exQ_mk (by kernel_rfl) (by kernel_rfl)
            · replace h := ofF h249 h
              obtain ⟨v252, h253, h⟩ := bind_of h
              obtain rfl := Option.some.inj h
              refine W_run 9 [(7, .val (.dat tI v252))] [0, 1, 2, 7, 8, 9, 10] [] (fr' := [(0, aI a0), (1, aD (.slice tI) a1), (2, aD (.slice tI) a2), (7, aI x174), (8, aI i173), (9, aI (Int.tmod (w64 (x230 * (w64 ((8 : Int) - v252)))) (7 : Int))), (10, aI i229)]) (L' := []) (obs := [Idx a2 i229 v252, ((7 : Int) ≠ 0)]) (by kernel_rfl) (by kernel_rfl) (by kernel_rfl) (allP2 (Idx.of h253) (allP1 (by decide))) ?_
              refine blockQ_norm ?_
              exact exQ_mk (by kernel_rfl) (by kernel_rfl)
          · intro e fr L hJ
            obtain ⟨rfl, rfl, rfl⟩ := hJ
            refine LT_keep [0, 1, 2, 7, 8, 9, 10] [] (fr' := [(0, aI a0), (1, aD (.slice tI) a1), (2, aD (.slice tI) a2), (7, aI x174), (8, aI i173), (9, aI v254), (10, aI i229)]) (L' := []) (by kernel_rfl) ?_
            refine seqQ_norm ?_
            obtain rfl := Option.some.inj h
            refine W_run 3 [] [0, 1, 2, 7, 8, 9, 10] [] (fr' := [(0, aI a0), (1, aD (.slice tI) a1), (2, aD (.slice tI) a2), (7, aI x174), (8, aI i173), (9, aI v254), (10, aI (w64 (i229 + (1 : Int))))]) (L' := []) (obs := []) (by kernel_rfl) (by kernel_rfl) (by kernel_rfl) allP0 ?_
            exact round_next' (by kernel_rfl) (by kernel_rfl)
        · obtain rfl := stepI_false h232 h
          refine W_exit (id := 2) [0, 1, 2, 7, 8, 9] [] (fr' := [(0, aI a0), (1, aD (.slice tI) a1), (2, aD (.slice tI) a2), (7, aI x174), (8, aI i173), (9, aI x230)]) (L' := []) (by kernel_rfl) (by kernel_rfl) ?_
          refine seqQ_exit ?_
          refine round_exit ?_
          exact exQ_mk (by kernel_rfl) (by kernel_rfl)
      · intro e fr L hJ
        obtain ⟨rfl, rfl, rfl⟩ := hJ
        refine LT_keep [0, 1, 2, 7, 8, 9] [] (fr' := [(0, aI a0), (1, aD (.slice tI) a1), (2, aD (.slice tI) a2), (7, aI x174), (8, aI i173), (9, aI v257)]) (L' := []) (by kernel_rfl) ?_
        refine blockQ_hit ?_
        refine seqQ_norm ?_
        refine W_run 4 [] [0, 1, 2, 7, 8] [] (fr' := [(0, aI a0), (1, aD (.slice tI) a1), (2, aD (.slice tI) a2), (7, aI (w64 (x174 + v257))), (8, aI i173)]) (L' := []) (obs := []) (by kernel_rfl) (by kernel_rfl) (by kernel_rfl) allP0 ?_
        refine blockQ_norm ?_
        refine seqQ_norm ?_
        obtain rfl := Option.some.inj h
        refine W_run 3 [] [0, 1, 2, 7, 8] [] (fr' := [(0, aI a0), (1, aD (.slice tI) a1), (2, aD (.slice tI) a2), (7, aI (w64 (x174 + v257))), (8, aI (w64 (i173 + (1 : Int))))]) (L' := []) (obs := []) (by kernel_rfl) (by kernel_rfl) (by kernel_rfl) allP0 ?_
        exact round_next' (by kernel_rfl) (by kernel_rfl)
    · obtain rfl := stepL_false h178 h
      refine W_exit (id := 0) [7] [] (fr' := [(7, aI x174)]) (L' := []) (by kernel_rfl) (by kernel_rfl) ?_
      refine seqQ_exit ?_
      refine round_exit ?_
      exact exQ_mk (by kernel_rfl) (by kernel_rfl)
  · intro e fr L hJ
    obtain ⟨rfl, rfl, rfl⟩ := hJ
    refine LT_keep [7] [] (fr' := [(7, aI v262)]) (L' := []) (by kernel_rfl) ?_
    refine blockQ_hit ?_
    refine seqQ_norm ?_
    refine W_seq (by kernel_rfl) ?_
    refine W_run 3 [] [6] [] (fr' := [(6, aI (Int.tmod v262 (7 : Int)))]) (L' := []) (obs := [((7 : Int) ≠ 0)]) (by kernel_rfl) (by kernel_rfl) (by kernel_rfl) (allP1 (by decide)) ?_
    refine seqQ_norm ?_
    obtain rfl := Option.some.inj h
    refine W_ret [6] [] (fr' := [(6, aI (Int.tmod v262 (7 : Int)))]) (L' := []) (by kernel_rfl) (by kernel_rfl) ?_
    exact retQ_mk (by kernel_rfl) (by kernel_rfl) (by kernel_rfl)

@[reducible] def ref_Saying_s84 (a0 : Int) (a1 : (List Int)) (a2 : (List Int)) (i576 : Int) (x675 : (Int × (List Int))) (i826 : Int) (x827 : (List Int)) (v : Int) : Fr × LL := ([(0, aI a0), (1, aD (.slice tI) a1), (2, aD (.slice tI) a2), (6, .one (.ptr 6 0)), (7, .one (.ptr 7 0)), (8, aI (List.length a2 : Int)), (9, aI i576), (10, aI x675.1), (11, .one (.slc 30)), (12, aI i826), (13, aI v)], [(6, .one (.arr 2 tI) [(0 : Int), (0 : Int)]), (7, .one (.arr 2 tI) x675.2), (30, .seq tI x827)])
def ref_Saying_b85 (x675 : (Int × (List Int))) (i826 : Int) (x827 : (List Int)) : Option (Flow (List Int) (List Int)) :=
((ref_Bit x675.1 i826).bind fun r848 =>
bif r848 then
(some (1 : Int))
else
(some (0 : Int))).bind fun v851 =>
(ck ((List.length x827 : Int) + 1 ≤ 4294967296)).bind fun _ =>
some (.next (x827 ++ [v851]))
@[reducible] def ref_Saying_s86 (a0 : Int) (a1 : (List Int)) (a2 : (List Int)) (i576 : Int) (x675 : (Int × (List Int))) (v : Int × (List Int)) : Fr × LL := ([(0, aI a0), (1, aD (.slice tI) a1), (2, aD (.slice tI) a2), (6, .one (.ptr 6 0)), (7, .one (.ptr 7 0)), (8, aI (List.length a2 : Int)), (9, aI i576), (10, aI x675.1), (11, .one (.slc 30)), (12, aI v.1)], [(6, .one (.arr 2 tI) [(0 : Int), (0 : Int)]), (7, .one (.arr 2 tI) x675.2), (30, .seq tI v.2)])
@[reducible] def ref_Saying_s87 (a0 : Int) (a1 : (List Int)) (a2 : (List Int)) (i576 : Int) (x675 : (Int × (List Int))) (v : (List Int)) : Fr × LL := ([(0, aI a0), (1, aD (.slice tI) a1), (2, aD (.slice tI) a2), (6, .one (.ptr 6 0)), (7, .one (.ptr 7 0)), (8, aI (List.length a2 : Int)), (9, aI i576), (10, aI x675.1), (11, .one (.slc 30))], [(6, .one (.arr 2 tI) [(0 : Int), (0 : Int)]), (7, .one (.arr 2 tI) x675.2), (30, .seq tI v)])
def ref_Saying_b88 (a0 : Int) (a1 : (List Int)) (a2 : (List Int)) (i576 : Int) (x675 : (Int × (List Int))) : Option (Flow (Int × (List Int)) (List Int)) :=
(ck (0 ≤ IntKind.wrap .u64 (w64 ((w64 (a0 - (List.length a2 : Int))) - (1 : Int))))).bind fun _ =>
bif decide (x675.1 < (bShl .i64 (1 : Int) (IntKind.wrap .u64 (w64 ((w64 (a0 - (List.length a2 : Int))) - (1 : Int)))))) then
((ck ((0 : Int) + (List.length a2 : Int) ≤ 4294967296)).bind fun _ =>
(ck ((List.length ([] ++ a2) : Int) + 1 ≤ 4294967296)).bind fun _ =>
(forI (0 : Int) (w64 ((w64 (a0 - (List.length a2 : Int))) - (1 : Int))) (ref_Saying_b85 x675) (fun x827 => x827) (([] ++ a2) ++ [i576])).bind fun v855 =>
(ck (0 ≤ i576 ∧ i576 < 2)).bind fun _ =>
(idx x675.2 i576).bind fun v860 =>
(ref_At a0 a1 v855).bind fun r862 =>
some (.next (w64 (x675.1 + (1 : Int)), List.set x675.2 (Int.toNat i576) (Int.tmod (w64 (v860 + r862)) (7 : Int)))))
else
(some (.done x675.2))
@[reducible] def ref_Saying_s89 (a0 : Int) (a1 : (List Int)) (a2 : (List Int)) (i576 : Int) (v : (Int × (List Int))) : Fr × LL := ([(0, aI a0), (1, aD (.slice tI) a1), (2, aD (.slice tI) a2), (6, .one (.ptr 6 0)), (7, .one (.ptr 7 0)), (8, aI (List.length a2 : Int)), (9, aI i576), (10, aI v.1)], [(6, .one (.arr 2 tI) [(0 : Int), (0 : Int)]), (7, .one (.arr 2 tI) v.2)])
@[reducible] def ref_Saying_s90 (a0 : Int) (a1 : (List Int)) (a2 : (List Int)) (i576 : Int) (v : (List Int)) : Fr × LL := ([(0, aI a0), (1, aD (.slice tI) a1), (2, aD (.slice tI) a2), (6, .one (.ptr 6 0)), (7, .one (.ptr 7 0)), (8, aI (List.length a2 : Int)), (9, aI i576)], [(6, .one (.arr 2 tI) [(0 : Int), (0 : Int)]), (7, .one (.arr 2 tI) v)])
def ref_Saying_b91 (a0 : Int) (a1 : (List Int)) (a2 : (List Int)) (fuel : Nat) (i576 : Int) (x577 : (List Int)) : Option (Flow (List Int) (List Int)) :=
(iter (ref_Saying_b88 a0 a1 a2 i576) fuel ((0 : Int), x577)).bind fun v864 =>
some (.next v864)
@[reducible] def ref_Saying_s92 (a0 : Int) (a1 : (List Int)) (a2 : (List Int)) (v : Int × (List Int)) : Fr × LL := ([(0, aI a0), (1, aD (.slice tI) a1), (2, aD (.slice tI) a2), (6, .one (.ptr 6 0)), (7, .one (.ptr 7 0)), (8, aI (List.length a2 : Int)), (9, aI v.1)], [(6, .one (.arr 2 tI) [(0 : Int), (0 : Int)]), (7, .one (.arr 2 tI) v.2)])
@[reducible] def ref_Saying_s93 (v : (List Int)) : Fr × LL := ([(6, .one (.ptr 6 0)), (7, .one (.ptr 7 0))], [(6, .one (.arr 2 tI) [(0 : Int), (0 : Int)]), (7, .one (.arr 2 tI) v)])
def ref_Saying (fuel : Nat) (a0 : Int) (a1 : (List Int)) (a2 : (List Int)) : Option (List Int) :=
(forI (0 : Int) (2 : Int) (ref_Saying_b91 a0 a1 a2 fuel) (fun x577 => x577) [(0 : Int), (0 : Int)]).bind fun v869 =>
some v869
theorem ref_Saying_ok {fuel : Nat} {a0 : Int} {a1 : (List Int)} {a2 : (List Int)} {r : (List Int)} (h : ref_Saying fuel a0 a1 a2 = some r) : FnC Try.prog 20 [aI a0, aD (.slice tI) a1, aD (.slice tI) a2] [] (aD (.arr 2 tI) r) [] := by
  refine fnC_of_W (B := bodyOf Try.f20) (n := 63) Try.func20 (by kernel_rfl) (by kernel_rfl) (by kernel_rfl) (by kernel_rfl) (by kernel_rfl) ?_
  intro K
  refine W_seq (by kernel_rfl) ?_
  refine W_run 1 [(1, .typed)] [0, 1, 2, 6] [6] (fr' := [(0, aI a0), (1, aD (.slice tI) a1), (2, aD (.slice tI) a2), (6, .one (.ptr 6 0))]) (L' := [(6, .one (.arr 2 tI) [(0 : Int), (0 : Int)])]) (obs := []) (by kernel_rfl) (by kernel_rfl) (by kernel_rfl) allP0 ?_
  refine seqQ_norm ?_
  refine W_seq (by kernel_rfl) ?_
  refine W_run 1 [(1, .typed)] [0, 1, 2, 6, 7] [6, 7] (fr' := [(0, aI a0), (1, aD (.slice tI) a1), (2, aD (.slice tI) a2), (6, .one (.ptr 6 0)), (7, .one (.ptr 7 0))]) (L' := [(6, .one (.arr 2 tI) [(0 : Int), (0 : Int)]), (7, .one (.arr 2 tI) [(0 : Int), (0 : Int)])]) (obs := []) (by kernel_rfl) (by kernel_rfl) (by kernel_rfl) allP0 ?_
  refine seqQ_norm ?_
  refine W_seq (by kernel_rfl) ?_
  refine W_run 3 [] [0, 1, 2, 6, 7, 8] [6, 7] (fr' := [(0, aI a0), (1, aD (.slice tI) a1), (2, aD (.slice tI) a2), (6, .one (.ptr 6 0)), (7, .one (.ptr 7 0)), (8, aI (List.length a2 : Int))]) (L' := [(6, .one (.arr 2 tI) [(0 : Int), (0 : Int)]), (7, .one (.arr 2 tI) [(0 : Int), (0 : Int)])]) (obs := []) (by kernel_rfl) (by kernel_rfl) (by kernel_rfl) allP0 ?_
  refine seqQ_norm ?_
  refine W_seq (by kernel_rfl) ?_
  refine W_seq (by kernel_rfl) ?_
  refine W_run 1 [] [0, 1, 2, 6, 7, 8, 9] [6, 7] (fr' := [(0, aI a0), (1, aD (.slice tI) a1), (2, aD (.slice tI) a2), (6, .one (.ptr 6 0)), (7, .one (.ptr 7 0)), (8, aI (List.length a2 : Int)), (9, aI (0 : Int))]) (L' := [(6, .one (.arr 2 tI) [(0 : Int), (0 : Int)]), (7, .one (.arr 2 tI) [(0 : Int), (0 : Int)])]) (obs := []) (by kernel_rfl) (by kernel_rfl) (by kernel_rfl) allP0 ?_
  refine seqQ_norm ?_
  refine W_block (id := 0) (by kernel_rfl) ?_
  obtain ⟨v869, h870, h⟩ := bind_of h
  obtain ⟨h871, h872⟩ := forI_iter h870
  refine W_weaken [0, 1, 2, 6, 7, 8, 9] [6, 7] (fr' := ((ref_Saying_s92 a0 a1 a2) ((0 : Int), [(0 : Int), (0 : Int)])).1) (L' := ((ref_Saying_s92 a0 a1 a2) ((0 : Int), [(0 : Int), (0 : Int)])).2) (by kernel_rfl) ?_
  refine W_cutK (W_loop (S := (ref_Saying_s92 a0 a1 a2)) (J := (exQ (.exit 0) ref_Saying_s93)) (by kernel_rfl) ?_ h871 _ v869 h872) ?_
  · rintro ⟨i576, x577⟩ s h
    refine W_seq (by kernel_rfl) ?_
    refine W_seq (by kernel_rfl) ?_
    refine W_run 2 [] [0, 1, 2, 6, 7, 8, 9, 17] [6, 7] (fr' := [(0, aI a0), (1, aD (.slice tI) a1), (2, aD (.slice tI) a2), (6, .one (.ptr 6 0)), (7, .one (.ptr 7 0)), (8, aI (List.length a2 : Int)), (9, aI i576), (17, aB (decide (i576 < (2 : Int))))]) (L' := [(6, .one (.arr 2 tI) [(0 : Int), (0 : Int)]), (7, .one (.arr 2 tI) x577)]) (obs := []) (by kernel_rfl) (by kernel_rfl) (by kernel_rfl) allP0 ?_
    refine seqQ_norm ?_
    refine W_cond (o := .tmp 17) (b := decide (i576 < (2 : Int))) (by kernel_rfl) (by kernel_rfl) (fun h579 => ?_) (fun h579 => ?_)
    · replace h := stepI_true h579 h
      obtain ⟨_, h, rfl⟩ := h
      refine W_skip [0, 1, 2, 6, 7, 8, 9] [6, 7] (fr' := [(0, aI a0), (1, aD (.slice tI) a1), (2, aD (.slice tI) a2), (6, .one (.ptr 6 0)), (7, .one (.ptr 7 0)), (8, aI (List.length a2 : Int)), (9, aI i576)]) (L' := [(6, .one (.arr 2 tI) [(0 : Int), (0 : Int)]), (7, .one (.arr 2 tI) x577)]) (by kernel_rfl) (by kernel_rfl) ?_
      refine seqQ_norm ?_
      refine W_seq (by kernel_rfl) ?_
      refine W_block (id := 1) (by kernel_rfl) ?_
      refine W_seq (by kernel_rfl) ?_
      refine W_run 1 [] [0, 1, 2, 6, 7, 8, 9, 10] [6, 7] (fr' := [(0, aI a0), (1, aD (.slice tI) a1), (2, aD (.slice tI) a2), (6, .one (.ptr 6 0)), (7, .one (.ptr 7 0)), (8, aI (List.length a2 : Int)), (9, aI i576), (10, aI (0 : Int))]) (L' := [(6, .one (.arr 2 tI) [(0 : Int), (0 : Int)]), (7, .one (.arr 2 tI) x577)]) (obs := []) (by kernel_rfl) (by kernel_rfl) (by kernel_rfl) allP0 ?_
      refine seqQ_norm ?_
      refine W_block (id := 2) (by kernel_rfl) ?_
      obtain ⟨v864, h865, h⟩ := bind_of h
      refine W_weaken [0, 1, 2, 6, 7, 8, 9, 10] [6, 7] (fr' := ((ref_Saying_s89 a0 a1 a2 i576) ((0 : Int), x577)).1) (L' := ((ref_Saying_s89 a0 a1 a2 i576) ((0 : Int), x577)).2) (by kernel_rfl) ?_
      refine W_cutK (W_loop (S := (ref_Saying_s89 a0 a1 a2 i576)) (J := (exQ (.exit 2) (ref_Saying_s90 a0 a1 a2 i576))) (by kernel_rfl) ?_ fuel _ v864 h865) ?_
      · rintro x675 s h
        refine W_seq (by kernel_rfl) ?_
        refine W_seq (by kernel_rfl) ?_
        obtain ⟨_, h770, h⟩ := bind_of h
        replace h770 := ck_some h770
        refine W_run 8 [] [0, 1, 2, 6, 7, 8, 9, 10, 27] [6, 7] (fr' := [(0, aI a0), (1, aD (.slice tI) a1), (2, aD (.slice tI) a2), (6, .one (.ptr 6 0)), (7, .one (.ptr 7 0)), (8, aI (List.length a2 : Int)), (9, aI i576), (10, aI x675.1), (27, aB (decide (x675.1 < (bShl .i64 (1 : Int) (IntKind.wrap .u64 (w64 ((w64 (a0 - (List.length a2 : Int))) - (1 : Int))))))))]) (L' := [(6, .one (.arr 2 tI) [(0 : Int), (0 : Int)]), (7, .one (.arr 2 tI) x675.2)]) (obs := [(0 ≤ IntKind.wrap .u64 (w64 ((w64 (a0 - (List.length a2 : Int))) - (1 : Int))))]) (by kernel_rfl) (by kernel_rfl) (by kernel_rfl) (allP1 h770) ?_
        refine seqQ_norm ?_
        refine W_cond (o := .tmp 27) (b := decide (x675.1 < (bShl .i64 (1 : Int) (IntKind.wrap .u64 (w64 ((w64 (a0 - (List.length a2 : Int))) - (1 : Int))))))) (by kernel_rfl) (by kernel_rfl) (fun h771 => ?_) (fun h771 => ?_)
        · replace h := ofT h771 h
          refine W_skip [0, 1, 2, 6, 7, 8, 9, 10] [6, 7] (fr' := [(0, aI a0), (1, aD (.slice tI) a1), (2, aD (.slice tI) a2), (6, .one (.ptr 6 0)), (7, .one (.ptr 7 0)), (8, aI (List.length a2 : Int)), (9, aI i576), (10, aI x675.1)]) (L' := [(6, .one (.arr 2 tI) [(0 : Int), (0 : Int)]), (7, .one (.arr 2 tI) x675.2)]) (by kernel_rfl) (by kernel_rfl) ?_
          refine seqQ_norm ?_
          refine W_seq (by kernel_rfl) ?_
          refine W_block (id := 3) (by kernel_rfl) ?_
          refine W_seq (by kernel_rfl) ?_
          obtain ⟨_, h772, h⟩ := bind_of h
          replace h772 := ck_some h772
          obtain ⟨_, h773, h⟩ := bind_of h
          replace h773 := ck_some h773
          refine W_run 7 [] [0, 1, 2, 6, 7, 8, 9, 10, 11] [6, 7, 30] (fr' := [(0, aI a0), (1, aD (.slice tI) a1), (2, aD (.slice tI) a2), (6, .one (.ptr 6 0)), (7, .one (.ptr 7 0)), (8, aI (List.length a2 : Int)), (9, aI i576), (10, aI x675.1), (11, .one (.slc 30))]) (L' := [(6, .one (.arr 2 tI) [(0 : Int), (0 : Int)]), (7, .one (.arr 2 tI) x675.2), (30, .seq tI (([] ++ a2) ++ [i576]))]) (obs := [SmallLen (List.length ([] : (List Int)) + List.length a2), SmallLen (List.length ([] ++ a2) + List.length [i576])]) (by kernel_rfl) (by kernel_rfl) (by kernel_rfl) (allP2 h772 (allP1 h773)) ?_
          refine seqQ_norm ?_
          refine W_seq (by kernel_rfl) ?_
          refine W_seq (by kernel_rfl) ?_
          refine W_run 1 [] [0, 1, 2, 6, 7, 8, 9, 10, 11, 12] [6, 7, 30] (fr' := [(0, aI a0), (1, aD (.slice tI) a1), (2, aD (.slice tI) a2), (6, .one (.ptr 6 0)), (7, .one (.ptr 7 0)), (8, aI (List.length a2 : Int)), (9, aI i576), (10, aI x675.1), (11, .one (.slc 30)), (12, aI (0 : Int))]) (L' := [(6, .one (.arr 2 tI) [(0 : Int), (0 : Int)]), (7, .one (.arr 2 tI) x675.2), (30, .seq tI (([] ++ a2) ++ [i576]))]) (obs := []) (by kernel_rfl) (by kernel_rfl) (by kernel_rfl) allP0 ?_
          refine seqQ_norm ?_
          refine W_block (id := 4) (by kernel_rfl) ?_
          obtain ⟨v855, h856, h⟩ := bind_of h
          obtain ⟨h857, h858⟩ := forI_iter h856
          refine W_weaken [0, 1, 2, 6, 7, 8, 9, 10, 11, 12] [6, 7, 30] (fr' := ((ref_Saying_s86 a0 a1 a2 i576 x675) ((0 : Int), ([] ++ a2) ++ [i576])).1) (L' := ((ref_Saying_s86 a0 a1 a2 i576 x675) ((0 : Int), ([] ++ a2) ++ [i576])).2) (by kernel_rfl) ?_
          refine W_cutK (W_loop (S := (ref_Saying_s86 a0 a1 a2 i576 x675)) (J := (exQ (.exit 4) (ref_Saying_s87 a0 a1 a2 i576 x675))) (by kernel_rfl) ?_ h857 _ v855 h858) ?_
          · rintro ⟨i826, x827⟩ s h
            refine W_seq (by kernel_rfl) ?_
            refine W_seq (by kernel_rfl) ?_
            refine W_run 6 [] [0, 1, 2, 6, 7, 8, 9, 10, 11, 12, 41] [6, 7, 30] (fr' := [(0, aI a0), (1, aD (.slice tI) a1), (2, aD (.slice tI) a2), (6, .one (.ptr 6 0)), (7, .one (.ptr 7 0)), (8, aI (List.length a2 : Int)), (9, aI i576), (10, aI x675.1), (11, .one (.slc 30)), (12, aI i826), (41, aB (decide (i826 < (w64 ((w64 (a0 - (List.length a2 : Int))) - (1 : Int))))))]) (L' := [(6, .one (.arr 2 tI) [(0 : Int), (0 : Int)]), (7, .one (.arr 2 tI) x675.2), (30, .seq tI x827)]) (obs := []) (by kernel_rfl) (by kernel_rfl) (by kernel_rfl) allP0 ?_
            refine seqQ_norm ?_
            refine W_cond (o := .tmp 41) (b := decide (i826 < (w64 ((w64 (a0 - (List.length a2 : Int))) - (1 : Int))))) (by kernel_rfl) (by kernel_rfl) (fun h829 => ?_) (fun h829 => ?_)
            · replace h := stepI_true h829 h
              obtain ⟨_, h, rfl⟩ := h
              refine W_skip [0, 1, 2, 6, 7, 8, 9, 10, 11, 12] [6, 7, 30] (fr' := [(0, aI a0), (1, aD (.slice tI) a1), (2, aD (.slice tI) a2), (6, .one (.ptr 6 0)), (7, .one (.ptr 7 0)), (8, aI (List.length a2 : Int)), (9, aI i576), (10, aI x675.1), (11, .one (.slc 30)), (12, aI i826)]) (L' := [(6, .one (.arr 2 tI) [(0 : Int), (0 : Int)]), (7, .one (.arr 2 tI) x675.2), (30, .seq tI x827)]) (by kernel_rfl) (by kernel_rfl) ?_
              refine seqQ_norm ?_
              refine W_seq (by kernel_rfl) ?_
              refine W_block (id := 5) (by kernel_rfl) ?_
              refine W_seq (by kernel_rfl) ?_
              refine W_run 1 [] [0, 1, 2, 6, 7, 8, 9, 10, 11, 12, 13] [6, 7, 30] (fr' := [(0, aI a0), (1, aD (.slice tI) a1), (2, aD (.slice tI) a2), (6, .one (.ptr 6 0)), (7, .one (.ptr 7 0)), (8, aI (List.length a2 : Int)), (9, aI i576), (10, aI x675.1), (11, .one (.slc 30)), (12, aI i826), (13, aI (0 : Int))]) (L' := [(6, .one (.arr 2 tI) [(0 : Int), (0 : Int)]), (7, .one (.arr 2 tI) x675.2), (30, .seq tI x827)]) (obs := []) (by kernel_rfl) (by kernel_rfl) (by kernel_rfl) allP0 ?_
              refine seqQ_norm ?_
              refine W_seq (by kernel_rfl) ?_
              obtain ⟨v851, h852, h⟩ := bind_of h
              refine W_cutK (Q' := (exQ .normal (ref_Saying_s84 a0 a1 a2 i576 x675 i826 x827)) v851) ?_ ?_
              · replace h := h852
                refine W_seq (by kernel_rfl) ?_
                refine W_region (by kernel_rfl) ?_
                refine WO_run (j := 2) (k := 2) (orcs := []) (kF := [0, 1, 2, 6, 7, 8, 9, 10, 11, 12, 13, 44, 45]) (kL := [6, 7, 30]) (fr' := [(0, aI a0), (1, aD (.slice tI) a1), (2, aD (.slice tI) a2), (6, .one (.ptr 6 0)), (7, .one (.ptr 7 0)), (8, aI (List.length a2 : Int)), (9, aI i576), (10, aI x675.1), (11, .one (.slc 30)), (12, aI i826), (13, aI (0 : Int)), (44, aI x675.1), (45, aI i826)]) (L' := [(6, .one (.arr 2 tI) [(0 : Int), (0 : Int)]), (7, .one (.arr 2 tI) x675.2), (30, .seq tI x827)]) (obs := []) rfl (by kernel_rfl) allP0 ?_
                obtain ⟨r848, h849, h⟩ := bind_of h
                refine WO_call0 (us := [none, none]) (d := 46) (p := True) (j := 3) rfl ⟨by kernel_rfl, by kernel_rfl, by kernel_rfl⟩ trivial (ref_Bit_ok h849) (by kernel_rfl) ?_
                refine WO_fin [0, 1, 2, 6, 7, 8, 9, 10, 11, 12, 13, 46] [6, 7, 30] (fr' := [(0, aI a0), (1, aD (.slice tI) a1), (2, aD (.slice tI) a2), (6, .one (.ptr 6 0)), (7, .one (.ptr 7 0)), (8, aI (List.length a2 : Int)), (9, aI i576), (10, aI x675.1), (11, .one (.slc 30)), (12, aI i826), (13, aI (0 : Int)), (46, aB r848)]) (L' := [(6, .one (.arr 2 tI) [(0 : Int), (0 : Int)]), (7, .one (.arr 2 tI) x675.2), (30, .seq tI x827)]) (by kernel_rfl) (by kernel_rfl) ?_
                refine seqQ_norm ?_
                refine W_cond (o := .tmp 46) (b := r848) (by kernel_rfl) (by kernel_rfl) (fun h850 => ?_) (fun h850 => ?_)
                · replace h := ofT h850 h
                  obtain rfl := Option.some.inj h
                  refine W_run 1 [] [0, 1, 2, 6, 7, 8, 9, 10, 11, 12, 13] [6, 7, 30] (fr' := [(0, aI a0), (1, aD (.slice tI) a1), (2, aD (.slice tI) a2), (6, .one (.ptr 6 0)), (7, .one (.ptr 7 0)), (8, aI (List.length a2 : Int)), (9, aI i576), (10, aI x675.1), (11, .one (.slc 30)), (12, aI i826), (13, aI (1 : Int))]) (L' := [(6, .one (.arr 2 tI) [(0 : Int), (0 : Int)]), (7, .one (.arr 2 tI) x675.2), (30, .seq tI x827)]) (obs := []) (by kernel_rfl) (by kernel_rfl) (by kernel_rfl) allP0 ?_
                  exact exQ_mk (by kernel_rfl) (by kernel_rfl)
                · replace h := ofF h850 h
                  obtain rfl := Option.some.inj h
                  refine W_skip [0, 1, 2, 6, 7, 8, 9, 10, 11, 12, 13] [6, 7, 30] (fr' := [(0, aI a0), (1, aD (.slice tI) a1), (2, aD (.slice tI) a2), (6, .one (.ptr 6 0)), (7, .one (.ptr 7 0)), (8, aI (List.length a2 : Int)), (9, aI i576), (10, aI x675.1), (11, .one (.slc 30)), (12, aI i826), (13, aI (0 : Int))]) (L' := [(6, .one (.arr 2 tI) [(0 : Int), (0 : Int)]), (7, .one (.arr 2 tI) x675.2), (30, .seq tI x827)]) (by kernel_rfl) (by kernel_rfl) ?_
                  exact exQ_mk (by kernel_rfl) (by kernel_rfl)
              · intro e fr L hJ
                obtain ⟨rfl, rfl, rfl⟩ := hJ
                refine LT_keep [0, 1, 2, 6, 7, 8, 9, 10, 11, 12, 13] [6, 7, 30] (fr' := [(0, aI a0), (1, aD (.slice tI) a1), (2, aD (.slice tI) a2), (6, .one (.ptr 6 0)), (7, .one (.ptr 7 0)), (8, aI (List.length a2 : Int)), (9, aI i576), (10, aI x675.1), (11, .one (.slc 30)), (12, aI i826), (13, aI v851)]) (L' := [(6, .one (.arr 2 tI) [(0 : Int), (0 : Int)]), (7, .one (.arr 2 tI) x675.2), (30, .seq tI x827)]) (by kernel_rfl) ?_
                refine seqQ_norm ?_
                obtain ⟨_, h853, h⟩ := bind_of h
                replace h853 := ck_some h853
                refine W_run 5 [] [0, 1, 2, 6, 7, 8, 9, 10, 11, 12] [6, 7, 30] (fr' := [(0, aI a0), (1, aD (.slice tI) a1), (2, aD (.slice tI) a2), (6, .one (.ptr 6 0)), (7, .one (.ptr 7 0)), (8, aI (List.length a2 : Int)), (9, aI i576), (10, aI x675.1), (11, .one (.slc 30)), (12, aI i826)]) (L' := [(6, .one (.arr 2 tI) [(0 : Int), (0 : Int)]), (7, .one (.arr 2 tI) x675.2), (30, .seq tI (x827 ++ [v851]))]) (obs := [SmallLen (List.length x827 + List.length [v851])]) (by kernel_rfl) (by kernel_rfl) (by kernel_rfl) (allP1 h853) ?_
                refine blockQ_norm ?_
                refine seqQ_norm ?_
                obtain rfl := Option.some.inj h
                refine W_run 3 [] [0, 1, 2, 6, 7, 8, 9, 10, 11, 12] [6, 7, 30] (fr' := [(0, aI a0), (1, aD (.slice tI) a1), (2, aD (.slice tI) a2), (6, .one (.ptr 6 0)), (7, .one (.ptr 7 0)), (8, aI (List.length a2 : Int)), (9, aI i576), (10, aI x675.1), (11, .one (.slc 30)), (12, aI (w64 (i826 + (1 : Int))))]) (L' := [(6, .one (.arr 2 tI) [(0 : Int), (0 : Int)]), (7, .one (.arr 2 tI) x675.2), (30, .seq tI (x827 ++ [v851]))]) (obs := []) (by kernel_rfl) (by kernel_rfl) (by kernel_rfl) allP0 ?_
                exact round_next' (by kernel_rfl) (by kernel_rfl)
            · obtain rfl := stepI_false h829 h
              refine W_exit (id := 4) [0, 1, 2, 6, 7, 8, 9, 10, 11] [6, 7, 30] (fr' := [(0, aI a0), (1, aD (.slice tI) a1), (2, aD (.slice tI) a2), (6, .one (.ptr 6 0)), (7, .one (.ptr 7 0)), (8, aI (List.length a2 : Int)), (9, aI i576), (10, aI x675.1), (11, .one (.slc 30))]) (L' := [(6, .one (.arr 2 tI) [(0 : Int), (0 : Int)]), (7, .one (.arr 2 tI) x675.2), (30, .seq tI x827)]) (by kernel_rfl) (by kernel_rfl) ?_
              refine seqQ_exit ?_
              refine round_exit ?_
              exact exQ_mk (by kernel_rfl) (by kernel_rfl)
          · intro e fr L hJ
            obtain ⟨rfl, rfl, rfl⟩ := hJ
            refine LT_keep [0, 1, 2, 6, 7, 8, 9, 10, 11] [6, 7, 30] (fr' := [(0, aI a0), (1, aD (.slice tI) a1), (2, aD (.slice tI) a2), (6, .one (.ptr 6 0)), (7, .one (.ptr 7 0)), (8, aI (List.length a2 : Int)), (9, aI i576), (10, aI x675.1), (11, .one (.slc 30))]) (L' := [(6, .one (.arr 2 tI) [(0 : Int), (0 : Int)]), (7, .one (.arr 2 tI) x675.2), (30, .seq tI v855)]) (by kernel_rfl) ?_
            refine blockQ_hit ?_
            refine seqQ_norm ?_
            refine W_frz 30 (by kernel_rfl) ?_
            obtain ⟨_, h859, h⟩ := bind_of h
            replace h859 := ck_some h859
            obtain ⟨v860, h861, h⟩ := bind_of h
            obtain ⟨r862, h863, h⟩ := bind_of h
            refine W_draw2 10 [(7, .val (.dat tI v860))] [(7, [none, none, none], aI r862)] [0, 1, 2, 6, 7, 8, 9, 10] [6, 7] (fr' := [(0, aI a0), (1, aD (.slice tI) a1), (2, aD (.slice tI) a2), (6, .one (.ptr 6 0)), (7, .one (.ptr 7 0)), (8, aI (List.length a2 : Int)), (9, aI i576), (10, aI x675.1)]) (L' := [(6, .one (.arr 2 tI) [(0 : Int), (0 : Int)]), (7, .one (.arr 2 tI) (List.set x675.2 (Int.toNat i576) (Int.tmod (w64 (v860 + r862)) (7 : Int))))]) (out := [(51, aI i576), (52, aI i576), (53, .one (.eptr 7 1 i576 0)), (54, aI v860), (55, aI a0), (56, aD (.slice tI) a1), (57, aD (.slice tI) v855), (58, aI r862), (59, aI (w64 (v860 + r862))), (60, aI (Int.tmod (w64 (v860 + r862)) (7 : Int)))]) (obs := [InR i576 2, Idx x675.2 i576 v860, True, ((7 : Int) ≠ 0)]) (obs2 := [InR i576 2, InR i576 (List.length x675.2)]) (calls := [(18, [aI a0, aD (.slice tI) a1, aD (.slice tI) v855], aI r862)]) (by kernel_rfl) (by kernel_rfl) (by kernel_rfl) (by kernel_rfl) (allP2 h859 (allP2 (Idx.of h861) (allP2 trivial (allP1 (by decide))))) (allC1 (by kernel_rfl) (ref_At_ok h863) (by kernel_rfl) allC0) (by kernel_rfl) (allP2 h859 (allP1 (InR.of h861))) ?_
            refine blockQ_norm ?_
            refine seqQ_norm ?_
            obtain rfl := Option.some.inj h
            refine W_run 3 [] [0, 1, 2, 6, 7, 8, 9, 10] [6, 7] (fr' := [(0, aI a0), (1, aD (.slice tI) a1), (2, aD (.slice tI) a2), (6, .one (.ptr 6 0)), (7, .one (.ptr 7 0)), (8, aI (List.length a2 : Int)), (9, aI i576), (10, aI (w64 (x675.1 + (1 : Int))))]) (L' := [(6, .one (.arr 2 tI) [(0 : Int), (0 : Int)]), (7, .one (.arr 2 tI) (List.set x675.2 (Int.toNat i576) (Int.tmod (w64 (v860 + r862)) (7 : Int))))]) (obs := []) (by kernel_rfl) (by kernel_rfl) (by kernel_rfl) allP0 ?_
            exact round_next' (by kernel_rfl) (by kernel_rfl)
        · replace h := ofF h771 h
          obtain rfl := Option.some.inj h
          refine W_exit (id := 2) [0, 1, 2, 6, 7, 8, 9] [6, 7] (fr' := [(0, aI a0), (1, aD (.slice tI) a1), (2, aD (.slice tI) a2), (6, .one (.ptr 6 0)), (7, .one (.ptr 7 0)), (8, aI (List.length a2 : Int)), (9, aI i576)]) (L' := [(6, .one (.arr 2 tI) [(0 : Int), (0 : Int)]), (7, .one (.arr 2 tI) x675.2)]) (by kernel_rfl) (by kernel_rfl) ?_
          refine seqQ_exit ?_
          refine round_exit ?_
          exact exQ_mk (by kernel_rfl) (by kernel_rfl)
      · intro e fr L hJ
        obtain ⟨rfl, rfl, rfl⟩ := hJ
        refine LT_keep [0, 1, 2, 6, 7, 8, 9] [6, 7] (fr' := [(0, aI a0), (1, aD (.slice tI) a1), (2, aD (.slice tI) a2), (6, .one (.ptr 6 0)), (7, .one (.ptr 7 0)), (8, aI (List.length a2 : Int)), (9, aI i576)]) (L' := [(6, .one (.arr 2 tI) [(0 : Int), (0 : Int)]), (7, .one (.arr 2 tI) v864)]) (by kernel_rfl) ?_
        refine blockQ_hit ?_
        refine blockQ_norm ?_
        refine seqQ_norm ?_
        obtain rfl := Option.some.inj h
        refine W_run 3 [] [0, 1, 2, 6, 7, 8, 9] [6, 7] (fr' := [(0, aI a0), (1, aD (.slice tI) a1), (2, aD (.slice tI) a2), (6, .one (.ptr 6 0)), (7, .one (.ptr 7 0)), (8, aI (List.length a2 : Int)), (9, aI (w64 (i576 + (1 : Int))))]) (L' := [(6, .one (.arr 2 tI) [(0 : Int), (0 : Int)]), (7, .one (.arr 2 tI) v864)]) (obs := []) (by kernel_rfl) (by kernel_rfl) (by kernel_rfl) allP0 ?_
        exact round_next' (by kernel_rfl) (by kernel_rfl)
    · obtain rfl := stepI_false h579 h
      refine W_exit (id := 0) [6, 7] [6, 7] (fr' := [(6, .one (.ptr 6 0)), (7, .one (.ptr 7 0))]) (L' := [(6, .one (.arr 2 tI) [(0 : Int), (0 : Int)]), (7, .one (.arr 2 tI) x577)]) (by kernel_rfl) (by kernel_rfl) ?_
      refine seqQ_exit ?_
      refine round_exit ?_
      exact exQ_mk (by kernel_rfl) (by kernel_rfl)
  · intro e fr L hJ
    obtain ⟨rfl, rfl, rfl⟩ := hJ
    refine LT_keep [6, 7] [6, 7] (fr' := [(6, .one (.ptr 6 0)), (7, .one (.ptr 7 0))]) (L' := [(6, .one (.arr 2 tI) [(0 : Int), (0 : Int)]), (7, .one (.arr 2 tI) v869)]) (by kernel_rfl) ?_
    refine blockQ_hit ?_
    refine seqQ_norm ?_
    refine W_seq (by kernel_rfl) ?_
    refine W_run 2 [] [6] [6] (fr' := [(6, .one (.ptr 6 0))]) (L' := [(6, .one (.arr 2 tI) v869)]) (obs := [True]) (by kernel_rfl) (by kernel_rfl) (by kernel_rfl) (allP1 trivial) ?_
    refine seqQ_norm ?_
    obtain rfl := Option.some.inj h
    refine W_ret [6] [6] (fr' := [(6, .one (.ptr 6 0))]) (L' := [(6, .one (.arr 2 tI) v869)]) (by kernel_rfl) (by kernel_rfl) ?_
    exact retQ_mk (by kernel_rfl) (by kernel_rfl) (by kernel_rfl)

def law_ProofSays_g5 (a0 : Int) (a2 : (List Int)) (r3 : Int) : Option Bool :=
bif r3 == (0 : Int) then
(bif decide ((List.length a2 : Int) ≥ a0) then
(some true)
else
((ref_Inside (7 : Int) a2).bind fun r45 =>
some (!r45)))
else
(some false)
@[reducible] def law_ProofSays_s6 (a0 : Int) (a1 : (List Int)) (a2 : (List Int)) (r1 : ((List Int) × Int)) (r3 : Int) (v : Bool) : Fr × LL := ([(0, aI a0), (1, aD (.slice tI) a1), (2, aD (.slice tI) a2), (7, .one (.ptr 7 0)), (8, aI r1.2), (9, aI r3), (32, aB v)], [(7, .one (.arr 2 tI) r1.1)])
@[reducible] def law_ProofSays_s7 (v : Bool) : Fr × LL := ([(6, aB v)], [])
@[reducible] def law_ProofSays_s8 (a0 : Int) (a1 : (List Int)) (a2 : (List Int)) (r1 : ((List Int) × Int)) (v : Int) : Fr × LL := ([(0, aI a0), (1, aD (.slice tI) a1), (2, aD (.slice tI) a2), (7, .one (.ptr 7 0)), (8, aI r1.2), (9, aI v)], [(7, .one (.arr 2 tI) r1.1)])
def law_ProofSays (fuel : Nat) (a0 : Int) (a1 : (List Int)) (a2 : (List Int)) : Option Bool :=
(proof_Say fuel a0 a1 a2).bind fun r1 =>
(ref_SumCheck a0 a1).bind fun r3 =>
((law_ProofSays_g5 a0 a2 r3).bind fun v47 =>
bif v47 then
(some (2 : Int))
else
(some r3)).bind fun v50 =>
bif v50 != (0 : Int) then
(some ((r1.2 == v50) && (deqT (.arr 2 tI) r1.1 [(0 : Int), (0 : Int)])))
else
((bif r1.2 == (0 : Int) then
((ref_Saying fuel a0 a1 a2).bind fun r60 =>
some (deqT (.arr 2 tI) r1.1 r60))
else
(some false)).bind fun v62 =>
some v62)
theorem law_ProofSays_ok {fuel : Nat} {a0 : Int} {a1 : (List Int)} {a2 : (List Int)} {r : Bool} (h : law_ProofSays fuel a0 a1 a2 = some r) : FnC Try.prog 5 [aI a0, aD (.slice tI) a1, aD (.slice tI) a2] [] (aB r) [] := by
  refine fnC_of_W (B := bodyOf Try.f5) (n := 53) Try.func5 (by kernel_rfl) (by kernel_rfl) (by kernel_rfl) (by kernel_rfl) (by kernel_rfl) ?_
  intro K
  refine W_seq (by kernel_rfl) ?_
  refine W_run 1 [] [0, 1, 2] [] (fr' := [(0, aI a0), (1, aD (.slice tI) a1), (2, aD (.slice tI) a2)]) (L' := []) (obs := []) (by kernel_rfl) (by kernel_rfl) (by kernel_rfl) allP0 ?_
  refine seqQ_norm ?_
  refine W_seq (by kernel_rfl) ?_
  refine W_region (by kernel_rfl) ?_
  refine WO_run (j := 3) (k := 3) (orcs := []) (kF := [0, 1, 2, 11, 12, 13]) (kL := []) (fr' := [(0, aI a0), (1, aD (.slice tI) a1), (2, aD (.slice tI) a2), (11, aI a0), (12, aD (.slice tI) a1), (13, aD (.slice tI) a2)]) (L' := []) (obs := []) rfl (by kernel_rfl) allP0 ?_
  obtain ⟨r1, h2, h⟩ := bind_of h
  refine WO_call0 (us := [none, none, none]) (d := 14) (p := True) (j := 4) rfl ⟨by kernel_rfl, by kernel_rfl, by kernel_rfl⟩ trivial (proof_Say_ok h2) (by kernel_rfl) ?_
  refine WO_run (j := 10) (k := 6) (orcs := [(15, .typed)]) (kF := [0, 1, 2, 7, 8]) (kL := [7]) (fr' := [(0, aI a0), (1, aD (.slice tI) a1), (2, aD (.slice tI) a2), (7, .one (.ptr 7 0)), (8, aI r1.2)]) (L' := [(7, .one (.arr 2 tI) r1.1)]) (obs := [True]) rfl (by kernel_rfl) (allP1 trivial) ?_
  refine WO_fin [0, 1, 2, 7, 8] [7] (fr' := [(0, aI a0), (1, aD (.slice tI) a1), (2, aD (.slice tI) a2), (7, .one (.ptr 7 0)), (8, aI r1.2)]) (L' := [(7, .one (.arr 2 tI) r1.1)]) (by kernel_rfl) (by kernel_rfl) ?_
  refine seqQ_norm ?_
  refine W_seq (by kernel_rfl) ?_
  refine W_region (by kernel_rfl) ?_
  refine WO_run (j := 2) (k := 2) (orcs := []) (kF := [0, 1, 2, 7, 8, 17, 18]) (kL := [7]) (fr' := [(0, aI a0), (1, aD (.slice tI) a1), (2, aD (.slice tI) a2), (7, .one (.ptr 7 0)), (8, aI r1.2), (17, aI a0), (18, aD (.slice tI) a1)]) (L' := [(7, .one (.arr 2 tI) r1.1)]) (obs := []) rfl (by kernel_rfl) allP0 ?_
  obtain ⟨r3, h4, h⟩ := bind_of h
  refine WO_call0 (us := [none, none]) (d := 19) (p := True) (j := 3) rfl ⟨by kernel_rfl, by kernel_rfl, by kernel_rfl⟩ trivial (ref_SumCheck_ok h4) (by kernel_rfl) ?_
  refine WO_run (j := 4) (k := 1) (orcs := []) (kF := [0, 1, 2, 7, 8, 9]) (kL := [7]) (fr' := [(0, aI a0), (1, aD (.slice tI) a1), (2, aD (.slice tI) a2), (7, .one (.ptr 7 0)), (8, aI r1.2), (9, aI r3)]) (L' := [(7, .one (.arr 2 tI) r1.1)]) (obs := []) rfl (by kernel_rfl) allP0 ?_
  refine WO_fin [0, 1, 2, 7, 8, 9] [7] (fr' := [(0, aI a0), (1, aD (.slice tI) a1), (2, aD (.slice tI) a2), (7, .one (.ptr 7 0)), (8, aI r1.2), (9, aI r3)]) (L' := [(7, .one (.arr 2 tI) r1.1)]) (by kernel_rfl) (by kernel_rfl) ?_
  refine seqQ_norm ?_
  refine W_seq (by kernel_rfl) ?_
  obtain ⟨v50, h51, h⟩ := bind_of h
  refine W_cutK (Q' := (exQ .normal (law_ProofSays_s8 a0 a1 a2 r1)) v50) ?_ ?_
  · replace h := h51
    refine W_seq (by kernel_rfl) ?_
    obtain ⟨v47, h48, h⟩ := bind_of h
    refine W_cutK (Q' := (exQ .normal (law_ProofSays_s6 a0 a1 a2 r1 r3)) v47) ?_ ?_
    · replace h := h48
      refine W_region (by kernel_rfl) ?_
      refine WO_run (j := 3) (k := 3) (orcs := []) (kF := [0, 1, 2, 7, 8, 9, 22]) (kL := [7]) (fr' := [(0, aI a0), (1, aD (.slice tI) a1), (2, aD (.slice tI) a2), (7, .one (.ptr 7 0)), (8, aI r1.2), (9, aI r3), (22, aB (r3 == (0 : Int)))]) (L' := [(7, .one (.arr 2 tI) r1.1)]) (obs := []) rfl (by kernel_rfl) allP0 ?_
      rcases Bool.eq_false_or_eq_true (r3 == (0 : Int)) with h43 | h43
      · replace h := ofT h43 h
        refine WO_run (j := 8) (k := 5) (orcs := [(6, .known true), (8, .known true), (10, .known true), (12, .known true), (14, .known true)]) (kF := [0, 1, 2, 7, 8, 9, 22, 27]) (kL := [7]) (fr' := [(0, aI a0), (1, aD (.slice tI) a1), (2, aD (.slice tI) a2), (7, .one (.ptr 7 0)), (8, aI r1.2), (9, aI r3), (22, aB (r3 == (0 : Int))), (27, aB (decide ((List.length a2 : Int) ≥ a0)))]) (L' := [(7, .one (.arr 2 tI) r1.1)]) (obs := [((r3 == (0 : Int)) = true), ((r3 == (0 : Int)) = true), ((r3 == (0 : Int)) = true), ((r3 == (0 : Int)) = true), ((r3 == (0 : Int)) = true)]) rfl (by kernel_rfl) (allP2 h43 (allP2 h43 (allP2 h43 (allP2 h43 (allP1 h43))))) ?_
        rcases Bool.eq_false_or_eq_true (decide ((List.length a2 : Int) ≥ a0)) with h44 | h44
        · replace h := ofT h44 h
          refine WO_run (j := 13) (k := 5) (orcs := [(16, .known true), (18, .known true), (20, .known true), (22, .known true), (23, .val (.dat .bool true)), (25, .val (.dat .bool true))]) (kF := [0, 1, 2, 7, 8, 9, 32]) (kL := [7]) (fr' := [(0, aI a0), (1, aD (.slice tI) a1), (2, aD (.slice tI) a2), (7, .one (.ptr 7 0)), (8, aI r1.2), (9, aI r3), (32, aB true)]) (L' := [(7, .one (.arr 2 tI) r1.1)]) (obs := [((decide ((List.length a2 : Int) ≥ a0)) = true), ((decide ((List.length a2 : Int) ≥ a0)) = true), ((decide ((List.length a2 : Int) ≥ a0)) = true), ((r3 == (0 : Int)) = true), ((decide ((List.length a2 : Int) ≥ a0)) = true), ((r3 == (0 : Int)) = true)]) rfl (by kernel_rfl) (allP2 h44 (allP2 h44 (allP2 h44 (allP2 h43 (allP2 h44 (allP1 h43)))))) ?_
          obtain rfl := Option.some.inj h
          refine WO_fin [0, 1, 2, 7, 8, 9, 32] [7] (fr' := [(0, aI a0), (1, aD (.slice tI) a1), (2, aD (.slice tI) a2), (7, .one (.ptr 7 0)), (8, aI r1.2), (9, aI r3), (32, aB true)]) (L' := [(7, .one (.arr 2 tI) r1.1)]) (by kernel_rfl) (by kernel_rfl) ?_
          exact exQ_mk (by kernel_rfl) (by kernel_rfl)
        · replace h := ofF h44 h
          refine WO_run (j := 9) (k := 1) (orcs := [(16, .known false)]) (kF := [0, 1, 2, 7, 8, 9, 22, 27, 28]) (kL := [7]) (fr' := [(0, aI a0), (1, aD (.slice tI) a1), (2, aD (.slice tI) a2), (7, .one (.ptr 7 0)), (8, aI r1.2), (9, aI r3), (22, aB (r3 == (0 : Int))), (27, aB (decide ((List.length a2 : Int) ≥ a0))), (28, aD (.slice tI) a2)]) (L' := [(7, .one (.arr 2 tI) r1.1)]) (obs := [((decide ((List.length a2 : Int) ≥ a0)) = false)]) rfl (by kernel_rfl) (allP1 h44) ?_
          obtain ⟨r45, h46, h⟩ := bind_of h
          refine WO_call0 (us := [none, none]) (d := 29) (p := ((decide ((List.length a2 : Int) ≥ a0)) = false)) (j := 10) rfl ⟨by kernel_rfl, by kernel_rfl, by kernel_rfl⟩ h44 (ref_Inside_ok h46) (by kernel_rfl) ?_
          refine WO_run (j := 13) (k := 3) (orcs := [(20, .known false), (22, .known true), (23, .val (.dat .bool false)), (25, .val (.dat .bool true))]) (kF := [0, 1, 2, 7, 8, 9, 32]) (kL := [7]) (fr' := [(0, aI a0), (1, aD (.slice tI) a1), (2, aD (.slice tI) a2), (7, .one (.ptr 7 0)), (8, aI r1.2), (9, aI r3), (32, aB (!r45))]) (L' := [(7, .one (.arr 2 tI) r1.1)]) (obs := [((decide ((List.length a2 : Int) ≥ a0)) = false), ((r3 == (0 : Int)) = true), ((decide ((List.length a2 : Int) ≥ a0)) = false), ((r3 == (0 : Int)) = true)]) rfl (by kernel_rfl) (allP2 h44 (allP2 h43 (allP2 h44 (allP1 h43)))) ?_
          obtain rfl := Option.some.inj h
          refine WO_fin [0, 1, 2, 7, 8, 9, 32] [7] (fr' := [(0, aI a0), (1, aD (.slice tI) a1), (2, aD (.slice tI) a2), (7, .one (.ptr 7 0)), (8, aI r1.2), (9, aI r3), (32, aB (!r45))]) (L' := [(7, .one (.arr 2 tI) r1.1)]) (by kernel_rfl) (by kernel_rfl) ?_
          exact exQ_mk (by kernel_rfl) (by kernel_rfl)
      · replace h := ofF h43 h
        refine WO_run (j := 13) (k := 10) (orcs := [(6, .known false), (8, .known false), (10, .known false), (12, .known false), (14, .known false), (16, .known true), (18, .known true), (20, .known true), (22, .known false), (25, .val (.dat .bool false))]) (kF := [0, 1, 2, 7, 8, 9, 32]) (kL := [7]) (fr' := [(0, aI a0), (1, aD (.slice tI) a1), (2, aD (.slice tI) a2), (7, .one (.ptr 7 0)), (8, aI r1.2), (9, aI r3), (32, aB false)]) (L' := [(7, .one (.arr 2 tI) r1.1)]) (obs := [((r3 == (0 : Int)) = false), ((r3 == (0 : Int)) = false), ((r3 == (0 : Int)) = false), ((r3 == (0 : Int)) = false), ((r3 == (0 : Int)) = false), ((r3 == (0 : Int)) = false), ((r3 == (0 : Int)) = false)]) rfl (by kernel_rfl) (allP2 h43 (allP2 h43 (allP2 h43 (allP2 h43 (allP2 h43 (allP2 h43 (allP1 h43))))))) ?_
        obtain rfl := Option.some.inj h
        refine WO_fin [0, 1, 2, 7, 8, 9, 32] [7] (fr' := [(0, aI a0), (1, aD (.slice tI) a1), (2, aD (.slice tI) a2), (7, .one (.ptr 7 0)), (8, aI r1.2), (9, aI r3), (32, aB false)]) (L' := [(7, .one (.arr 2 tI) r1.1)]) (by kernel_rfl) (by kernel_rfl) ?_
        exact exQ_mk (by kernel_rfl) (by kernel_rfl)
    · intro e fr L hJ
      obtain ⟨rfl, rfl, rfl⟩ := hJ
      refine LT_keep [0, 1, 2, 7, 8, 9, 32] [7] (fr' := [(0, aI a0), (1, aD (.slice tI) a1), (2, aD (.slice tI) a2), (7, .one (.ptr 7 0)), (8, aI r1.2), (9, aI r3), (32, aB v47)]) (L' := [(7, .one (.arr 2 tI) r1.1)]) (by kernel_rfl) ?_
      refine seqQ_norm ?_
      refine W_cond (o := .tmp 32) (b := v47) (by kernel_rfl) (by kernel_rfl) (fun h49 => ?_) (fun h49 => ?_)
      · replace h := ofT h49 h
        obtain rfl := Option.some.inj h
        refine W_run 1 [] [0, 1, 2, 7, 8, 9] [7] (fr' := [(0, aI a0), (1, aD (.slice tI) a1), (2, aD (.slice tI) a2), (7, .one (.ptr 7 0)), (8, aI r1.2), (9, aI (2 : Int))]) (L' := [(7, .one (.arr 2 tI) r1.1)]) (obs := []) (by kernel_rfl) (by kernel_rfl) (by kernel_rfl) allP0 ?_
        exact exQ_mk (by kernel_rfl) (by kernel_rfl)
      · replace h := ofF h49 h
        obtain rfl := Option.some.inj h
        refine W_skip [0, 1, 2, 7, 8, 9] [7] (fr' := [(0, aI a0), (1, aD (.slice tI) a1), (2, aD (.slice tI) a2), (7, .one (.ptr 7 0)), (8, aI r1.2), (9, aI r3)]) (L' := [(7, .one (.arr 2 tI) r1.1)]) (by kernel_rfl) (by kernel_rfl) ?_
        exact exQ_mk (by kernel_rfl) (by kernel_rfl)
  · intro e fr L hJ
    obtain ⟨rfl, rfl, rfl⟩ := hJ
    refine LT_keep [0, 1, 2, 7, 8, 9] [7] (fr' := [(0, aI a0), (1, aD (.slice tI) a1), (2, aD (.slice tI) a2), (7, .one (.ptr 7 0)), (8, aI r1.2), (9, aI v50)]) (L' := [(7, .one (.arr 2 tI) r1.1)]) (by kernel_rfl) ?_
    refine seqQ_norm ?_
    refine W_seq (by kernel_rfl) ?_
    refine W_seq (by kernel_rfl) ?_
    refine W_run 2 [] [0, 1, 2, 7, 8, 9, 34] [7] (fr' := [(0, aI a0), (1, aD (.slice tI) a1), (2, aD (.slice tI) a2), (7, .one (.ptr 7 0)), (8, aI r1.2), (9, aI v50), (34, aB (v50 != (0 : Int)))]) (L' := [(7, .one (.arr 2 tI) r1.1)]) (obs := []) (by kernel_rfl) (by kernel_rfl) (by kernel_rfl) allP0 ?_
    refine seqQ_norm ?_
    refine W_cond (o := .tmp 34) (b := v50 != (0 : Int)) (by kernel_rfl) (by kernel_rfl) (fun h52 => ?_) (fun h52 => ?_)
    · replace h := ofT h52 h
      refine W_seq (by kernel_rfl) ?_
      refine W_run 9 [] [6] [] (fr' := [(6, aB ((r1.2 == v50) && (deqT (.arr 2 tI) r1.1 [(0 : Int), (0 : Int)])))]) (L' := []) (obs := []) (by kernel_rfl) (by kernel_rfl) (by kernel_rfl) allP0 ?_
      refine seqQ_norm ?_
      obtain rfl := Option.some.inj h
      refine W_ret [6] [] (fr' := [(6, aB ((r1.2 == v50) && (deqT (.arr 2 tI) r1.1 [(0 : Int), (0 : Int)])))]) (L' := []) (by kernel_rfl) (by kernel_rfl) ?_
      refine seqQ_ret ?_
      exact retQ_mk (by kernel_rfl) (by kernel_rfl) (by kernel_rfl)
    · replace h := ofF h52 h
      refine W_skip [0, 1, 2, 7, 8] [7] (fr' := [(0, aI a0), (1, aD (.slice tI) a1), (2, aD (.slice tI) a2), (7, .one (.ptr 7 0)), (8, aI r1.2)]) (L' := [(7, .one (.arr 2 tI) r1.1)]) (by kernel_rfl) (by kernel_rfl) ?_
      refine seqQ_norm ?_
      refine W_seq (by kernel_rfl) ?_
      obtain ⟨v62, h63, h⟩ := bind_of h
      refine W_cutK (Q' := (exQ .normal law_ProofSays_s7) v62) ?_ ?_
      · replace h := h63
        rcases Bool.eq_false_or_eq_true (r1.2 == (0 : Int)) with h59 | h59
        · replace h := ofT h59 h
          obtain ⟨r60, h61, h⟩ := bind_of h
          obtain rfl := Option.some.inj h
          refine W_draw2 10 [(6, .known true), (8, .known true), (10, .known true), (12, .known true), (16, .known true), (19, .val (.dat .bool true))] [(7, [none, none, none], aD (.arr 2 tI) r60)] [6] [] (fr' := [(6, aB (deqT (.arr 2 tI) r1.1 r60))]) (L' := []) (out := [(43, aI r1.2), (44, aB (r1.2 == (0 : Int))), (45, aB (r1.2 == (0 : Int))), (46, aD (.arr 2 tI) r1.1), (47, aI a0), (48, aD (.slice tI) a1), (49, aD (.slice tI) a2), (50, aD (.arr 2 tI) r60), (51, aB (deqT (.arr 2 tI) r1.1 r60)), (52, aB (deqT (.arr 2 tI) r1.1 r60))]) (obs := [((r1.2 == (0 : Int)) = true), ((r1.2 == (0 : Int)) = true), ((r1.2 == (0 : Int)) = true), ((r1.2 == (0 : Int)) = true), ((r1.2 == (0 : Int)) = true), ((r1.2 == (0 : Int)) = true), ((r1.2 == (0 : Int)) = true)]) (obs2 := []) (calls := [(20, [aI a0, aD (.slice tI) a1, aD (.slice tI) a2], aD (.arr 2 tI) r60)]) (by kernel_rfl) (by kernel_rfl) (by kernel_rfl) (by kernel_rfl) (allP2 h59 (allP2 h59 (allP2 h59 (allP2 h59 (allP2 h59 (allP2 h59 (allP1 h59))))))) (allC1 (by kernel_rfl) (ref_Saying_ok h61) (by kernel_rfl) allC0) (by kernel_rfl) allP0 ?_
          exact exQ_mk (by kernel_rfl) (by kernel_rfl)
        · replace h := ofF h59 h
          obtain rfl := Option.some.inj h
          refine W_draw2 10 [(6, .known false), (8, .known false), (10, .known false), (12, .known false), (14, .known false), (16, .known false), (19, .val (.dat .bool false))] [] [6] [] (fr' := [(6, aB false)]) (L' := []) (out := [(43, aI r1.2), (44, aB (r1.2 == (0 : Int))), (45, aB (r1.2 == (0 : Int))), (46, .tup []), (47, .tup []), (48, .tup []), (49, .tup []), (50, .tup []), (51, .tup []), (52, aB false)]) (obs := [((r1.2 == (0 : Int)) = false), ((r1.2 == (0 : Int)) = false), ((r1.2 == (0 : Int)) = false), ((r1.2 == (0 : Int)) = false), ((r1.2 == (0 : Int)) = false), ((r1.2 == (0 : Int)) = false), ((r1.2 == (0 : Int)) = false)]) (obs2 := []) (calls := []) (by kernel_rfl) (by kernel_rfl) (by kernel_rfl) (by kernel_rfl) (allP2 h59 (allP2 h59 (allP2 h59 (allP2 h59 (allP2 h59 (allP2 h59 (allP1 h59))))))) allC0 (by kernel_rfl) allP0 ?_
          exact exQ_mk (by kernel_rfl) (by kernel_rfl)
      · intro e fr L hJ
        obtain ⟨rfl, rfl, rfl⟩ := hJ
        refine LT_keep [6] [] (fr' := [(6, aB v62)]) (L' := []) (by kernel_rfl) ?_
        refine seqQ_norm ?_
        obtain rfl := Option.some.inj h
        refine W_ret [6] [] (fr' := [(6, aB v62)]) (L' := []) (by kernel_rfl) (by kernel_rfl) ?_
        exact retQ_mk (by kernel_rfl) (by kernel_rfl) (by kernel_rfl)
end Go.Proofs.Ytjgpfbdenfoffaa.proofSays
