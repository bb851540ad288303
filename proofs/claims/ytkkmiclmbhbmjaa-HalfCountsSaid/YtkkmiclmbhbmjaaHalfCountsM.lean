/- What the functions that HalfCounts calls compute, as models, and that they compute it: written by a program of mine. -/
import Derived.Test.YtkkmiclmbhbmjaaProg
import Derived.Test.YtkkmiclmbhbmjaaSl4
set_option linter.all false
set_option maxRecDepth 100000
namespace Go.Proofs.Ytkkmiclmbhbmjaa.halfCounts
open Go Go.Sl
def half_wrong_1 (a0 : (List Int)) : Option Bool :=
some (decide ((List.length a0 : Int) > (4 : Int)))
theorem half_wrong_1_ok {a0 : (List Int)} {r : Bool} (h : half_wrong_1 a0 = some r) : FnC Try.prog 88 [aD (.slice tI) a0] [] (aB r) [] := by
  refine fnC_of_W (B := bodyOf Try.f88) (n := 6) Try.func88 (by kernel_rfl) (by kernel_rfl) (by kernel_rfl) (by kernel_rfl) (by kernel_rfl) ?_
  intro K
  refine W_seq (by kernel_rfl) ?_
  refine W_run 1 [] [0] [] (fr' := [(0, aD (.slice tI) a0)]) (L' := []) (obs := []) (by kernel_rfl) (by kernel_rfl) (by kernel_rfl) allP0 ?_
  refine seqQ_norm ?_
  refine W_seq (by kernel_rfl) ?_
  refine W_run 4 [] [2] [] (fr' := [(2, aB (decide ((List.length a0 : Int) > (4 : Int))))]) (L' := []) (obs := []) (by kernel_rfl) (by kernel_rfl) (by kernel_rfl) allP0 ?_
  refine seqQ_norm ?_
  obtain rfl := Option.some.inj h
  refine W_ret [2] [] (fr' := [(2, aB (decide ((List.length a0 : Int) > (4 : Int))))]) (L' := []) (by kernel_rfl) (by kernel_rfl) ?_
  exact retQ_mk (by kernel_rfl) (by kernel_rfl) (by kernel_rfl)

def slices_IndexFunc_LLintLint_with_half_wrong_1_b1 (i15 : Int) (v18 : (List Int)) (x16 : Unit) : Option (Flow Unit (Esc Int Unit)) :=
(half_wrong_1 v18).bind fun r21 =>
bif r21 then
(some (.done (.ret i15)))
else
(some (.next ()))
@[reducible] def slices_IndexFunc_LLintLint_with_half_wrong_1_s2 (a0 : (List (List Int))) (v : Int × Unit) : Fr × LL := ([(0, aD (.slice (.slice tI)) a0), (1, .one (.fn 88 [])), (7, aI (List.length a0 : Int)), (8, aI v.1)], [])
@[reducible] def slices_IndexFunc_LLintLint_with_half_wrong_1_s3 (v : Int) : Fr × LL := ([(4, aI v)], [])
@[reducible] def slices_IndexFunc_LLintLint_with_half_wrong_1_s4 (v : Unit) : Fr × LL := ([], [])
def slices_IndexFunc_LLintLint_with_half_wrong_1 (a0 : (List (List Int))) : Option Int :=
(forL slices_IndexFunc_LLintLint_with_half_wrong_1_b1 (fun x16 => (.brk ())) a0 0 ()).bind fun v25 =>
match v25 with
| .ret v30 =>
(some v30)
| .brk v31 =>
(some (-1 : Int))
theorem slices_IndexFunc_LLintLint_with_half_wrong_1_ok {a0 : (List (List Int))} {r : Int} (h : slices_IndexFunc_LLintLint_with_half_wrong_1 a0 = some r) : FnC Try.prog 95 [aD (.slice (.slice tI)) a0, .one (.fn 88 [])] [] (aI r) [] := by
  refine fnC_of_W (B := bodyOf Try.f95) (n := 19) Try.func95 (by kernel_rfl) (by kernel_rfl) (by kernel_rfl) (by kernel_rfl) (by kernel_rfl) ?_
  intro K
  refine W_seq (by kernel_rfl) ?_
  refine W_run 1 [] [0, 1] [] (fr' := [(0, aD (.slice (.slice tI)) a0), (1, .one (.fn 88 []))]) (L' := []) (obs := []) (by kernel_rfl) (by kernel_rfl) (by kernel_rfl) allP0 ?_
  refine seqQ_norm ?_
  refine W_seq (by kernel_rfl) ?_
  refine W_seq (by kernel_rfl) ?_
  refine W_run 3 [] [0, 1, 7, 8] [] (fr' := [(0, aD (.slice (.slice tI)) a0), (1, .one (.fn 88 [])), (7, aI (List.length a0 : Int)), (8, aI (0 : Int))]) (L' := []) (obs := []) (by kernel_rfl) (by kernel_rfl) (by kernel_rfl) allP0 ?_
  refine seqQ_norm ?_
  refine W_block (id := 0) (by kernel_rfl) ?_
  obtain ⟨v25, h26, h⟩ := bind_of h
  refine W_len (t := 0) (u := (.slice tI)) (xs := a0) (by kernel_rfl) (fun h29 => ?_)
  obtain ⟨h27, h28⟩ := forL_iter h29 h26
  refine W_weaken [0, 1, 7, 8] [] (fr' := ((slices_IndexFunc_LLintLint_with_half_wrong_1_s2 a0) ((0 : Int), ())).1) (L' := ((slices_IndexFunc_LLintLint_with_half_wrong_1_s2 a0) ((0 : Int), ())).2) (by kernel_rfl) ?_
  refine W_cutK (W_loop (S := (slices_IndexFunc_LLintLint_with_half_wrong_1_s2 a0)) (J := (escQ (exQ .ret slices_IndexFunc_LLintLint_with_half_wrong_1_s3) (exQ (.exit 0) slices_IndexFunc_LLintLint_with_half_wrong_1_s4))) (by kernel_rfl) ?_ h27 _ v25 h28) ?_
  · rintro ⟨i15, x16⟩ s h
    refine W_seq (by kernel_rfl) ?_
    refine W_run 1 [] [0, 1, 7, 8, 9] [] (fr' := [(0, aD (.slice (.slice tI)) a0), (1, .one (.fn 88 [])), (7, aI (List.length a0 : Int)), (8, aI i15), (9, aB (decide (i15 < (List.length a0 : Int))))]) (L' := []) (obs := []) (by kernel_rfl) (by kernel_rfl) (by kernel_rfl) allP0 ?_
    refine seqQ_norm ?_
    refine W_seq (by kernel_rfl) ?_
    refine W_cond (o := .tmp 9) (b := decide (i15 < (List.length a0 : Int))) (by kernel_rfl) (by kernel_rfl) (fun h20 => ?_) (fun h20 => ?_)
    · replace h := stepL_true h20 h
      obtain ⟨v18, _, h19, h, rfl⟩ := h
      refine W_skip [0, 1, 7, 8] [] (fr' := [(0, aD (.slice (.slice tI)) a0), (1, .one (.fn 88 [])), (7, aI (List.length a0 : Int)), (8, aI i15)]) (L' := []) (by kernel_rfl) (by kernel_rfl) ?_
      refine seqQ_norm ?_
      refine W_seq (by kernel_rfl) ?_
      refine W_block (id := 1) (by kernel_rfl) ?_
      refine W_seq (by kernel_rfl) ?_
      refine W_run 2 [] [0, 1, 5, 7, 8] [] (fr' := [(0, aD (.slice (.slice tI)) a0), (1, .one (.fn 88 [])), (5, aI i15), (7, aI (List.length a0 : Int)), (8, aI i15)]) (L' := []) (obs := []) (by kernel_rfl) (by kernel_rfl) (by kernel_rfl) allP0 ?_
      refine seqQ_norm ?_
      refine W_seq (by kernel_rfl) ?_
      refine W_region (by kernel_rfl) ?_
      refine WO_run (j := 5) (k := 5) (orcs := [(7, .val (.dat (.slice tI) v18))]) (kF := [0, 1, 5, 7, 8, 11, 15]) (kL := []) (fr' := [(0, aD (.slice (.slice tI)) a0), (1, .one (.fn 88 [])), (5, aI i15), (7, aI (List.length a0 : Int)), (8, aI i15), (11, .one (.fn 88 [])), (15, aD (.slice tI) v18)]) (L' := []) (obs := [Idx a0 i15 v18]) rfl (by kernel_rfl) (allP1 (Idx.of h19)) ?_
      obtain ⟨r21, h22, h⟩ := bind_of h
      refine WO_call0 (us := [none]) (d := 16) (p := True) (j := 6) rfl ⟨by kernel_rfl, by kernel_rfl, by kernel_rfl⟩ trivial (half_wrong_1_ok h22) (by kernel_rfl) ?_
      refine WO_fin [0, 1, 5, 7, 8, 16] [] (fr' := [(0, aD (.slice (.slice tI)) a0), (1, .one (.fn 88 [])), (5, aI i15), (7, aI (List.length a0 : Int)), (8, aI i15), (16, aB r21)]) (L' := []) (by kernel_rfl) (by kernel_rfl) ?_
      refine seqQ_norm ?_
      refine W_cond (o := .tmp 16) (b := r21) (by kernel_rfl) (by kernel_rfl) (fun h23 => ?_) (fun h23 => ?_)
      · replace h := ofT h23 h
        refine W_seq (by kernel_rfl) ?_
        refine W_run 2 [] [4] [] (fr' := [(4, aI i15)]) (L' := []) (obs := []) (by kernel_rfl) (by kernel_rfl) (by kernel_rfl) allP0 ?_
        refine seqQ_norm ?_
        obtain rfl := Option.some.inj h
        refine W_ret [4] [] (fr' := [(4, aI i15)]) (L' := []) (by kernel_rfl) (by kernel_rfl) ?_
        refine blockQ_ret ?_
        refine seqQ_ret ?_
        refine round_ret ?_
        refine escQ_ret ?_
        exact exQ_mk (by kernel_rfl) (by kernel_rfl)
      · replace h := ofF h23 h
        refine W_skip [0, 1, 7, 8] [] (fr' := [(0, aD (.slice (.slice tI)) a0), (1, .one (.fn 88 [])), (7, aI (List.length a0 : Int)), (8, aI i15)]) (L' := []) (by kernel_rfl) (by kernel_rfl) ?_
        refine blockQ_norm ?_
        refine seqQ_norm ?_
        obtain rfl := Option.some.inj h
        refine W_run 2 [] [0, 1, 7, 8] [] (fr' := [(0, aD (.slice (.slice tI)) a0), (1, .one (.fn 88 [])), (7, aI (List.length a0 : Int)), (8, aI (w64 (i15 + (1 : Int))))]) (L' := []) (obs := []) (by kernel_rfl) (by kernel_rfl) (by kernel_rfl) allP0 ?_
        exact round_next' (by kernel_rfl) (by kernel_rfl)
    · obtain rfl := stepL_false h20 h
      refine W_exit (id := 0) [] [] (fr' := []) (L' := []) (by kernel_rfl) (by kernel_rfl) ?_
      refine seqQ_exit ?_
      refine round_exit ?_
      refine escQ_brk ?_
      exact exQ_mk (by kernel_rfl) (by kernel_rfl)
  · intro e fr L hJ
    rcases v25 with v30 | v31
    · obtain ⟨rfl, rfl, rfl⟩ := hJ
      obtain rfl := Option.some.inj h
      refine LT_keep [4] [] (fr' := [(4, aI v30)]) (L' := []) (by kernel_rfl) ?_
      refine blockQ_ret ?_
      refine seqQ_ret ?_
      exact retQ_mk (by kernel_rfl) (by kernel_rfl) (by kernel_rfl)
    · obtain ⟨rfl, rfl, rfl⟩ := hJ
      refine LT_keep [] [] (fr' := []) (L' := []) (by kernel_rfl) ?_
      refine blockQ_hit ?_
      refine seqQ_norm ?_
      refine W_seq (by kernel_rfl) ?_
      refine W_run 1 [] [4] [] (fr' := [(4, aI (-1 : Int))]) (L' := []) (obs := []) (by kernel_rfl) (by kernel_rfl) (by kernel_rfl) allP0 ?_
      refine seqQ_norm ?_
      obtain rfl := Option.some.inj h
      refine W_ret [4] [] (fr' := [(4, aI (-1 : Int))]) (L' := []) (by kernel_rfl) (by kernel_rfl) ?_
      exact retQ_mk (by kernel_rfl) (by kernel_rfl) (by kernel_rfl)

def slices_ContainsFunc_LLintLint_with_half_wrong_1 (a0 : (List (List Int))) : Option Bool :=
(slices_IndexFunc_LLintLint_with_half_wrong_1 a0).bind fun r1 =>
some (decide (r1 ≥ (0 : Int)))
theorem slices_ContainsFunc_LLintLint_with_half_wrong_1_ok {a0 : (List (List Int))} {r : Bool} (h : slices_ContainsFunc_LLintLint_with_half_wrong_1 a0 = some r) : FnC Try.prog 87 [aD (.slice (.slice tI)) a0, .one (.fn 88 [])] [] (aB r) [] := by
  refine fnC_of_W (B := bodyOf Try.f87) (n := 9) Try.func87 (by kernel_rfl) (by kernel_rfl) (by kernel_rfl) (by kernel_rfl) (by kernel_rfl) ?_
  intro K
  refine W_seq (by kernel_rfl) ?_
  refine W_run 1 [] [0, 1] [] (fr' := [(0, aD (.slice (.slice tI)) a0), (1, .one (.fn 88 []))]) (L' := []) (obs := []) (by kernel_rfl) (by kernel_rfl) (by kernel_rfl) allP0 ?_
  refine seqQ_norm ?_
  refine W_seq (by kernel_rfl) ?_
  refine W_region (by kernel_rfl) ?_
  refine WO_run (j := 2) (k := 2) (orcs := []) (kF := [5, 6]) (kL := []) (fr' := [(5, aD (.slice (.slice tI)) a0), (6, .one (.fn 88 []))]) (L' := []) (obs := []) rfl (by kernel_rfl) allP0 ?_
  obtain ⟨r1, h2, h⟩ := bind_of h
  refine WO_call0 (us := [none, none]) (d := 7) (p := True) (j := 3) rfl ⟨by kernel_rfl, by kernel_rfl, by kernel_rfl⟩ trivial (slices_IndexFunc_LLintLint_with_half_wrong_1_ok h2) (by kernel_rfl) ?_
  refine WO_run (j := 5) (k := 2) (orcs := []) (kF := [4]) (kL := []) (fr' := [(4, aB (decide (r1 ≥ (0 : Int))))]) (L' := []) (obs := []) rfl (by kernel_rfl) allP0 ?_
  refine WO_fin [4] [] (fr' := [(4, aB (decide (r1 ≥ (0 : Int))))]) (L' := []) (by kernel_rfl) (by kernel_rfl) ?_
  refine seqQ_norm ?_
  obtain rfl := Option.some.inj h
  refine W_ret [4] [] (fr' := [(4, aB (decide (r1 ≥ (0 : Int))))]) (L' := []) (by kernel_rfl) (by kernel_rfl) ?_
  exact retQ_mk (by kernel_rfl) (by kernel_rfl) (by kernel_rfl)

@[reducible] def slices_Grow_Lintint_s2 (v : (List Int)) : Fr × LL := ([(0, .one (.slc 22))], [(22, .seq tI v)])
def slices_Grow_Lintint (a1 : Int) : Option (List Int) :=
bif decide (a1 < (0 : Int)) then
(none)
else
((bif decide ((w64 (a1 - (0 : Int))) > (0 : Int)) then
((ck (0 ≤ w64 (a1 - (0 : Int)) ∧ w64 (a1 - (0 : Int)) ≤ 4294967296)).bind fun _ =>
some [])
else
(some [])).bind fun v19 =>
some v19)
theorem slices_Grow_Lintint_ok {a1 : Int} {r : (List Int)} (h : slices_Grow_Lintint a1 = some r) : FnC Try.prog 96 [.one (.nilS), aI a1] [] (.one (.slc 22)) [(22, .seq tI r)] := by
  refine fnC_of_W (B := bodyOf Try.f96) (n := 27) Try.func96 (by kernel_rfl) (by kernel_rfl) (by kernel_rfl) (by kernel_rfl) (by kernel_rfl) ?_
  intro K
  refine W_seq (by kernel_rfl) ?_
  refine W_run 1 [] [0, 1] [] (fr' := [(0, .one (.nilS)), (1, aI a1)]) (L' := []) (obs := []) (by kernel_rfl) (by kernel_rfl) (by kernel_rfl) allP0 ?_
  refine seqQ_norm ?_
  refine W_seq (by kernel_rfl) ?_
  refine W_seq (by kernel_rfl) ?_
  refine W_run 2 [] [0, 1, 6] [] (fr' := [(0, .one (.nilS)), (1, aI a1), (6, aB (decide (a1 < (0 : Int))))]) (L' := []) (obs := []) (by kernel_rfl) (by kernel_rfl) (by kernel_rfl) allP0 ?_
  refine seqQ_norm ?_
  refine W_cond (o := .tmp 6) (b := decide (a1 < (0 : Int))) (by kernel_rfl) (by kernel_rfl) (fun h12 => ?_) (fun h12 => ?_)
  · replace h := ofT h12 h
    cases h
  · replace h := ofF h12 h
    refine W_skip [0, 1] [] (fr' := [(0, .one (.nilS)), (1, aI a1)]) (L' := []) (by kernel_rfl) (by kernel_rfl) ?_
    refine seqQ_norm ?_
    refine W_seq (by kernel_rfl) ?_
    obtain ⟨v19, h20, h⟩ := bind_of h
    refine W_cutK (Q' := (exQ .normal slices_Grow_Lintint_s2) v19) ?_ ?_
    · replace h := h20
      refine W_seq (by kernel_rfl) ?_
      refine W_region (by kernel_rfl) ?_
      refine WO_run (j := 2) (k := 2) (orcs := []) (kF := [0, 1, 8, 9]) (kL := []) (fr' := [(0, .one (.nilS)), (1, aI a1), (8, aI a1), (9, .one (.nilS))]) (L' := []) (obs := []) rfl (by kernel_rfl) allP0 ?_
      refine WO_g [0, 1, 8, 9, 10] [] (fr' := [(0, .one (.nilS)), (1, aI a1), (8, aI a1), (9, .one (.nilS)), (10, aI (0 : Int))]) (L' := []) (p := True) (j := 3) rfl (by kernel_rfl) trivial ?_
      refine WO_run (j := 8) (k := 5) (orcs := []) (kF := [0, 1]) (kL := []) (fr' := [(0, .one (.nilS)), (1, aI (w64 (a1 - (0 : Int))))]) (L' := []) (obs := []) rfl (by kernel_rfl) allP0 ?_
      refine WO_fin [0, 1] [] (fr' := [(0, .one (.nilS)), (1, aI (w64 (a1 - (0 : Int))))]) (L' := []) (by kernel_rfl) (by kernel_rfl) ?_
      refine seqQ_norm ?_
      refine W_seq (by kernel_rfl) ?_
      refine W_run 2 [] [0, 1, 16] [] (fr' := [(0, .one (.nilS)), (1, aI (w64 (a1 - (0 : Int)))), (16, aB (decide ((w64 (a1 - (0 : Int))) > (0 : Int))))]) (L' := []) (obs := []) (by kernel_rfl) (by kernel_rfl) (by kernel_rfl) allP0 ?_
      refine seqQ_norm ?_
      refine W_cond (o := .tmp 16) (b := decide ((w64 (a1 - (0 : Int))) > (0 : Int))) (by kernel_rfl) (by kernel_rfl) (fun h17 => ?_) (fun h17 => ?_)
      · replace h := ofT h17 h
        refine W_region (by kernel_rfl) ?_
        refine WO_run (j := 2) (k := 2) (orcs := []) (kF := [0, 1, 17, 18]) (kL := []) (fr' := [(0, .one (.nilS)), (1, aI (w64 (a1 - (0 : Int)))), (17, .one (.nilS)), (18, .one (.nilS))]) (L' := []) (obs := []) rfl (by kernel_rfl) allP0 ?_
        refine WO_g [0, 1, 17, 18, 19] [] (fr' := [(0, .one (.nilS)), (1, aI (w64 (a1 - (0 : Int)))), (17, .one (.nilS)), (18, .one (.nilS)), (19, aI (0 : Int))]) (L' := []) (p := True) (j := 3) rfl (by kernel_rfl) trivial ?_
        refine WO_g [0, 1, 17, 18, 19, 20] [] (fr' := [(0, .one (.nilS)), (1, aI (w64 (a1 - (0 : Int)))), (17, .one (.nilS)), (18, .one (.nilS)), (19, aI (0 : Int)), (20, .one (.nilS))]) (L' := []) (p := True) (j := 4) rfl (by kernel_rfl) trivial ?_
        obtain ⟨_, h18, h⟩ := bind_of h
        replace h18 := ck_some h18
        refine WO_run (j := 5) (k := 1) (orcs := []) (kF := [0, 20, 21]) (kL := []) (fr' := [(0, .one (.nilS)), (20, .one (.nilS)), (21, aI (w64 (a1 - (0 : Int))))]) (L' := []) (obs := []) rfl (by kernel_rfl) allP0 ?_
        refine WO_g [0, 20, 21, 22] [22] (fr' := [(0, .one (.nilS)), (20, .one (.nilS)), (21, aI (w64 (a1 - (0 : Int)))), (22, .one (.slc 22))]) (L' := [(22, .seq tI (List.replicate (Int.toNat (w64 (a1 - (0 : Int)))) (0 : Int)))]) (p := 0 ≤ w64 (a1 - (0 : Int)) ∧ SmallLen (w64 (a1 - (0 : Int)))) (j := 6) rfl (by kernel_rfl) h18 ?_
        refine WO_run (j := 8) (k := 2) (orcs := []) (kF := [0, 22, 24]) (kL := [22]) (fr' := [(0, .one (.nilS)), (22, .one (.slc 22)), (24, aI (0 : Int))]) (L' := [(22, .seq tI (List.replicate (Int.toNat (w64 (a1 - (0 : Int)))) (0 : Int)))]) (obs := []) rfl (by kernel_rfl) allP0 ?_
        refine WO_g [0, 24, 25] [22] (fr' := [(0, .one (.nilS)), (24, aI (0 : Int)), (25, .one (.slc 22))]) (L' := [(22, .seq tI [])]) (p := 0 ≤ (0 : Int) ∧ (0 : Int) ≤ (List.length (List.replicate (Int.toNat (w64 (a1 - (0 : Int)))) (0 : Int) : (List Int)) : Int)) (j := 9) rfl (by kernel_rfl) ⟨(by decide), (by omega)⟩ ?_
        refine WO_run (j := 10) (k := 1) (orcs := []) (kF := [0]) (kL := [22]) (fr' := [(0, .one (.slc 22))]) (L' := [(22, .seq tI [])]) (obs := []) rfl (by kernel_rfl) allP0 ?_
        obtain rfl := Option.some.inj h
        refine WO_fin [0] [22] (fr' := [(0, .one (.slc 22))]) (L' := [(22, .seq tI [])]) (by kernel_rfl) (by kernel_rfl) ?_
        exact exQ_mk (by kernel_rfl) (by kernel_rfl)
      · replace h := ofF h17 h
        obtain rfl := Option.some.inj h
        refine W_mine 0 22 tI (by kernel_rfl) ?_
        refine W_skip [0] [22] (fr' := [(0, .one (.slc 22))]) (L' := [(22, .seq tI [])]) (by kernel_rfl) (by kernel_rfl) ?_
        exact exQ_mk (by kernel_rfl) (by kernel_rfl)
    · intro e fr L hJ
      obtain ⟨rfl, rfl, rfl⟩ := hJ
      refine LT_keep [0] [22] (fr' := [(0, .one (.slc 22))]) (L' := [(22, .seq tI v19)]) (by kernel_rfl) ?_
      refine seqQ_norm ?_
      refine W_seq (by kernel_rfl) ?_
      refine W_run 2 [] [4] [22] (fr' := [(4, .one (.slc 22))]) (L' := [(22, .seq tI v19)]) (obs := []) (by kernel_rfl) (by kernel_rfl) (by kernel_rfl) allP0 ?_
      refine seqQ_norm ?_
      obtain rfl := Option.some.inj h
      refine W_ret [4] [22] (fr' := [(4, .one (.slc 22))]) (L' := [(22, .seq tI v19)]) (by kernel_rfl) (by kernel_rfl) ?_
      exact retQ_mk (by kernel_rfl) (by kernel_rfl) (by kernel_rfl)

def slices_Concat_Lintint_b7 (i72 : Int) (v75 : (List Int)) (x73 : Int) : Option (Flow Int Int) :=
bif decide ((w64 (x73 + (List.length v75 : Int))) < (0 : Int)) then
(none)
else
(some (.next (w64 (x73 + (List.length v75 : Int)))))
@[reducible] def slices_Concat_Lintint_s8 (a0 : (List (List Int))) (v : Int × Int) : Fr × LL := ([(0, aD (.slice (.slice tI)) a0), (3, aI v.2), (9, aD (.slice (.slice tI)) a0), (10, aI (List.length a0 : Int)), (11, aI v.1)], [])
@[reducible] def slices_Concat_Lintint_s9 (a0 : (List (List Int))) (v : Int) : Fr × LL := ([(0, aD (.slice (.slice tI)) a0), (3, aI v)], [])
def slices_Concat_Lintint_b10 (i98 : Int) (v101 : (List Int)) (x99 : (List Int)) : Option (Flow (List Int) (List Int)) :=
(ck ((List.length x99 : Int) + (List.length v101 : Int) ≤ 4294967296)).bind fun _ =>
some (.next (x99 ++ v101))
@[reducible] def slices_Concat_Lintint_s11 (a0 : (List (List Int))) (v : Int × (List Int)) : Fr × LL := ([(6, .one (.slc 24)), (25, aD (.slice (.slice tI)) a0), (26, aI (List.length a0 : Int)), (27, aI v.1)], [(24, .seq tI v.2)])
@[reducible] def slices_Concat_Lintint_s12 (v : (List Int)) : Fr × LL := ([(6, .one (.slc 24))], [(24, .seq tI v)])
def slices_Concat_Lintint (a0 : (List (List Int))) : Option (List Int) :=
(forL slices_Concat_Lintint_b7 (fun x73 => x73) a0 0 (0 : Int)).bind fun v81 =>
(slices_Grow_Lintint v81).bind fun r86 =>
(forL slices_Concat_Lintint_b10 (fun x99 => x99) a0 0 r86).bind fun v106 =>
some v106
theorem slices_Concat_Lintint_ok {a0 : (List (List Int))} {r : (List Int)} (h : slices_Concat_Lintint a0 = some r) : FnC Try.prog 89 [aD (.slice (.slice tI)) a0] [] (.one (.slc 24)) [(24, .seq tI r)] := by
  refine fnC_of_W (B := bodyOf Try.f89) (n := 36) Try.func89 (by kernel_rfl) (by kernel_rfl) (by kernel_rfl) (by kernel_rfl) (by kernel_rfl) ?_
  intro K
  refine W_seq (by kernel_rfl) ?_
  refine W_run 1 [] [0] [] (fr' := [(0, aD (.slice (.slice tI)) a0)]) (L' := []) (obs := []) (by kernel_rfl) (by kernel_rfl) (by kernel_rfl) allP0 ?_
  refine seqQ_norm ?_
  refine W_seq (by kernel_rfl) ?_
  refine W_run 1 [] [0, 3] [] (fr' := [(0, aD (.slice (.slice tI)) a0), (3, aI (0 : Int))]) (L' := []) (obs := []) (by kernel_rfl) (by kernel_rfl) (by kernel_rfl) allP0 ?_
  refine seqQ_norm ?_
  refine W_seq (by kernel_rfl) ?_
  refine W_seq (by kernel_rfl) ?_
  refine W_run 3 [] [0, 3, 9, 10, 11] [] (fr' := [(0, aD (.slice (.slice tI)) a0), (3, aI (0 : Int)), (9, aD (.slice (.slice tI)) a0), (10, aI (List.length a0 : Int)), (11, aI (0 : Int))]) (L' := []) (obs := []) (by kernel_rfl) (by kernel_rfl) (by kernel_rfl) allP0 ?_
  refine seqQ_norm ?_
  refine W_block (id := 0) (by kernel_rfl) ?_
  obtain ⟨v81, h82, h⟩ := bind_of h
  refine W_len (t := 9) (u := (.slice tI)) (xs := a0) (by kernel_rfl) (fun h85 => ?_)
  obtain ⟨h83, h84⟩ := forL_iter h85 h82
  refine W_weaken [0, 3, 9, 10, 11] [] (fr' := ((slices_Concat_Lintint_s8 a0) ((0 : Int), (0 : Int))).1) (L' := ((slices_Concat_Lintint_s8 a0) ((0 : Int), (0 : Int))).2) (by kernel_rfl) ?_
  refine W_cutK (W_loop (S := (slices_Concat_Lintint_s8 a0)) (J := (exQ (.exit 0) (slices_Concat_Lintint_s9 a0))) (by kernel_rfl) ?_ h83 _ v81 h84) ?_
  · rintro ⟨i72, x73⟩ s h
    refine W_seq (by kernel_rfl) ?_
    refine W_run 1 [] [0, 3, 9, 10, 11, 12] [] (fr' := [(0, aD (.slice (.slice tI)) a0), (3, aI x73), (9, aD (.slice (.slice tI)) a0), (10, aI (List.length a0 : Int)), (11, aI i72), (12, aB (decide (i72 < (List.length a0 : Int))))]) (L' := []) (obs := []) (by kernel_rfl) (by kernel_rfl) (by kernel_rfl) allP0 ?_
    refine seqQ_norm ?_
    refine W_seq (by kernel_rfl) ?_
    refine W_cond (o := .tmp 12) (b := decide (i72 < (List.length a0 : Int))) (by kernel_rfl) (by kernel_rfl) (fun h77 => ?_) (fun h77 => ?_)
    · replace h := stepL_true h77 h
      obtain ⟨v75, _, h76, h, rfl⟩ := h
      refine W_skip [0, 3, 9, 10, 11] [] (fr' := [(0, aD (.slice (.slice tI)) a0), (3, aI x73), (9, aD (.slice (.slice tI)) a0), (10, aI (List.length a0 : Int)), (11, aI i72)]) (L' := []) (by kernel_rfl) (by kernel_rfl) ?_
      refine seqQ_norm ?_
      refine W_seq (by kernel_rfl) ?_
      refine W_block (id := 1) (by kernel_rfl) ?_
      refine W_seq (by kernel_rfl) ?_
      refine W_run 3 [(1, .val (.dat (.slice tI) v75))] [0, 3, 5, 9, 10, 11] [] (fr' := [(0, aD (.slice (.slice tI)) a0), (3, aI x73), (5, aD (.slice tI) v75), (9, aD (.slice (.slice tI)) a0), (10, aI (List.length a0 : Int)), (11, aI i72)]) (L' := []) (obs := [Idx a0 i72 v75]) (by kernel_rfl) (by kernel_rfl) (by kernel_rfl) (allP1 (Idx.of h76)) ?_
      refine seqQ_norm ?_
      refine W_seq (by kernel_rfl) ?_
      refine W_run 5 [] [0, 3, 9, 10, 11] [] (fr' := [(0, aD (.slice (.slice tI)) a0), (3, aI (w64 (x73 + (List.length v75 : Int)))), (9, aD (.slice (.slice tI)) a0), (10, aI (List.length a0 : Int)), (11, aI i72)]) (L' := []) (obs := []) (by kernel_rfl) (by kernel_rfl) (by kernel_rfl) allP0 ?_
      refine seqQ_norm ?_
      refine W_seq (by kernel_rfl) ?_
      refine W_run 2 [] [0, 3, 9, 10, 11, 20] [] (fr' := [(0, aD (.slice (.slice tI)) a0), (3, aI (w64 (x73 + (List.length v75 : Int)))), (9, aD (.slice (.slice tI)) a0), (10, aI (List.length a0 : Int)), (11, aI i72), (20, aB (decide ((w64 (x73 + (List.length v75 : Int))) < (0 : Int))))]) (L' := []) (obs := []) (by kernel_rfl) (by kernel_rfl) (by kernel_rfl) allP0 ?_
      refine seqQ_norm ?_
      refine W_cond (o := .tmp 20) (b := decide ((w64 (x73 + (List.length v75 : Int))) < (0 : Int))) (by kernel_rfl) (by kernel_rfl) (fun h79 => ?_) (fun h79 => ?_)
      · replace h := ofT h79 h
        cases h
      · replace h := ofF h79 h
        refine W_skip [0, 3, 9, 10, 11] [] (fr' := [(0, aD (.slice (.slice tI)) a0), (3, aI (w64 (x73 + (List.length v75 : Int)))), (9, aD (.slice (.slice tI)) a0), (10, aI (List.length a0 : Int)), (11, aI i72)]) (L' := []) (by kernel_rfl) (by kernel_rfl) ?_
        refine blockQ_norm ?_
        refine seqQ_norm ?_
        obtain rfl := Option.some.inj h
        refine W_run 2 [] [0, 3, 9, 10, 11] [] (fr' := [(0, aD (.slice (.slice tI)) a0), (3, aI (w64 (x73 + (List.length v75 : Int)))), (9, aD (.slice (.slice tI)) a0), (10, aI (List.length a0 : Int)), (11, aI (w64 (i72 + (1 : Int))))]) (L' := []) (obs := []) (by kernel_rfl) (by kernel_rfl) (by kernel_rfl) allP0 ?_
        exact round_next' (by kernel_rfl) (by kernel_rfl)
    · obtain rfl := stepL_false h77 h
      refine W_exit (id := 0) [0, 3] [] (fr' := [(0, aD (.slice (.slice tI)) a0), (3, aI x73)]) (L' := []) (by kernel_rfl) (by kernel_rfl) ?_
      refine seqQ_exit ?_
      refine round_exit ?_
      exact exQ_mk (by kernel_rfl) (by kernel_rfl)
  · intro e fr L hJ
    obtain ⟨rfl, rfl, rfl⟩ := hJ
    refine LT_keep [0, 3] [] (fr' := [(0, aD (.slice (.slice tI)) a0), (3, aI v81)]) (L' := []) (by kernel_rfl) ?_
    refine blockQ_hit ?_
    refine seqQ_norm ?_
    refine W_seq (by kernel_rfl) ?_
    refine W_region (by kernel_rfl) ?_
    refine WO_run (j := 1) (k := 1) (orcs := []) (kF := [0, 23]) (kL := []) (fr' := [(0, aD (.slice (.slice tI)) a0), (23, aI v81)]) (L' := []) (obs := []) rfl (by kernel_rfl) allP0 ?_
    obtain ⟨r86, h87, h⟩ := bind_of h
    refine WO_call1 (us := [none, none]) (d := 24) (t := 24) (p := True) (j := 2) rfl ⟨by kernel_rfl, by kernel_rfl, by kernel_rfl⟩ trivial (slices_Grow_Lintint_ok h87) (by kernel_rfl) ?_
    refine WO_run (j := 3) (k := 1) (orcs := []) (kF := [0, 6]) (kL := [24]) (fr' := [(0, aD (.slice (.slice tI)) a0), (6, .one (.slc 24))]) (L' := [(24, .seq tI r86)]) (obs := []) rfl (by kernel_rfl) allP0 ?_
    refine WO_fin [0, 6] [24] (fr' := [(0, aD (.slice (.slice tI)) a0), (6, .one (.slc 24))]) (L' := [(24, .seq tI r86)]) (by kernel_rfl) (by kernel_rfl) ?_
    refine seqQ_norm ?_
    refine W_seq (by kernel_rfl) ?_
    refine W_seq (by kernel_rfl) ?_
    refine W_run 3 [] [6, 25, 26, 27] [24] (fr' := [(6, .one (.slc 24)), (25, aD (.slice (.slice tI)) a0), (26, aI (List.length a0 : Int)), (27, aI (0 : Int))]) (L' := [(24, .seq tI r86)]) (obs := []) (by kernel_rfl) (by kernel_rfl) (by kernel_rfl) allP0 ?_
    refine seqQ_norm ?_
    refine W_block (id := 2) (by kernel_rfl) ?_
    obtain ⟨v106, h107, h⟩ := bind_of h
    refine W_len (t := 25) (u := (.slice tI)) (xs := a0) (by kernel_rfl) (fun h110 => ?_)
    obtain ⟨h108, h109⟩ := forL_iter h110 h107
    refine W_weaken [6, 25, 26, 27] [24] (fr' := ((slices_Concat_Lintint_s11 a0) ((0 : Int), r86)).1) (L' := ((slices_Concat_Lintint_s11 a0) ((0 : Int), r86)).2) (by kernel_rfl) ?_
    refine W_cutK (W_loop (S := (slices_Concat_Lintint_s11 a0)) (J := (exQ (.exit 2) slices_Concat_Lintint_s12)) (by kernel_rfl) ?_ h108 _ v106 h109) ?_
    · rintro ⟨i98, x99⟩ s h
      refine W_seq (by kernel_rfl) ?_
      refine W_run 1 [] [6, 25, 26, 27, 28] [24] (fr' := [(6, .one (.slc 24)), (25, aD (.slice (.slice tI)) a0), (26, aI (List.length a0 : Int)), (27, aI i98), (28, aB (decide (i98 < (List.length a0 : Int))))]) (L' := [(24, .seq tI x99)]) (obs := []) (by kernel_rfl) (by kernel_rfl) (by kernel_rfl) allP0 ?_
      refine seqQ_norm ?_
      refine W_seq (by kernel_rfl) ?_
      refine W_cond (o := .tmp 28) (b := decide (i98 < (List.length a0 : Int))) (by kernel_rfl) (by kernel_rfl) (fun h103 => ?_) (fun h103 => ?_)
      · replace h := stepL_true h103 h
        obtain ⟨v101, _, h102, h, rfl⟩ := h
        refine W_skip [6, 25, 26, 27] [24] (fr' := [(6, .one (.slc 24)), (25, aD (.slice (.slice tI)) a0), (26, aI (List.length a0 : Int)), (27, aI i98)]) (L' := [(24, .seq tI x99)]) (by kernel_rfl) (by kernel_rfl) ?_
        refine seqQ_norm ?_
        refine W_seq (by kernel_rfl) ?_
        refine W_block (id := 3) (by kernel_rfl) ?_
        refine W_seq (by kernel_rfl) ?_
        refine W_run 3 [(1, .val (.dat (.slice tI) v101))] [6, 8, 25, 26, 27] [24] (fr' := [(6, .one (.slc 24)), (8, aD (.slice tI) v101), (25, aD (.slice (.slice tI)) a0), (26, aI (List.length a0 : Int)), (27, aI i98)]) (L' := [(24, .seq tI x99)]) (obs := [Idx a0 i98 v101]) (by kernel_rfl) (by kernel_rfl) (by kernel_rfl) (allP1 (Idx.of h102)) ?_
        refine seqQ_norm ?_
        obtain ⟨_, h104, h⟩ := bind_of h
        replace h104 := ck_some h104
        refine W_run 4 [] [6, 25, 26, 27] [24] (fr' := [(6, .one (.slc 24)), (25, aD (.slice (.slice tI)) a0), (26, aI (List.length a0 : Int)), (27, aI i98)]) (L' := [(24, .seq tI (x99 ++ v101))]) (obs := [SmallLen (List.length x99 + List.length v101)]) (by kernel_rfl) (by kernel_rfl) (by kernel_rfl) (allP1 h104) ?_
        refine blockQ_norm ?_
        refine seqQ_norm ?_
        obtain rfl := Option.some.inj h
        refine W_run 2 [] [6, 25, 26, 27] [24] (fr' := [(6, .one (.slc 24)), (25, aD (.slice (.slice tI)) a0), (26, aI (List.length a0 : Int)), (27, aI (w64 (i98 + (1 : Int))))]) (L' := [(24, .seq tI (x99 ++ v101))]) (obs := []) (by kernel_rfl) (by kernel_rfl) (by kernel_rfl) allP0 ?_
        exact round_next' (by kernel_rfl) (by kernel_rfl)
      · obtain rfl := stepL_false h103 h
        refine W_exit (id := 2) [6] [24] (fr' := [(6, .one (.slc 24))]) (L' := [(24, .seq tI x99)]) (by kernel_rfl) (by kernel_rfl) ?_
        refine seqQ_exit ?_
        refine round_exit ?_
        exact exQ_mk (by kernel_rfl) (by kernel_rfl)
    · intro e fr L hJ
      obtain ⟨rfl, rfl, rfl⟩ := hJ
      refine LT_keep [6] [24] (fr' := [(6, .one (.slc 24))]) (L' := [(24, .seq tI v106)]) (by kernel_rfl) ?_
      refine blockQ_hit ?_
      refine seqQ_norm ?_
      refine W_seq (by kernel_rfl) ?_
      refine W_run 2 [] [2] [24] (fr' := [(2, .one (.slc 24))]) (L' := [(24, .seq tI v106)]) (obs := []) (by kernel_rfl) (by kernel_rfl) (by kernel_rfl) allP0 ?_
      refine seqQ_norm ?_
      obtain rfl := Option.some.inj h
      refine W_ret [2] [24] (fr' := [(2, .one (.slc 24))]) (L' := [(24, .seq tI v106)]) (by kernel_rfl) (by kernel_rfl) ?_
      exact retQ_mk (by kernel_rfl) (by kernel_rfl) (by kernel_rfl)

def half_wrong_2 (a0 : Int) (c0 : Int) : Option Bool :=
some ((decide (a0 < (0 : Int))) || (decide (a0 ≥ c0)))
theorem half_wrong_2_ok {a0 : Int} {c0 : Int} {r : Bool} (h : half_wrong_2 a0 c0 = some r) : FnC Try.prog 90 [aI a0, .one (.ptr 1000 0)] [(1000, .cells [.dat tI c0])] (aB r) [(1000, .cells [.dat tI c0])] := by
  refine fnC_of_W (B := bodyOf Try.f90) (n := 11) Try.func90 (by kernel_rfl) (by kernel_rfl) (by kernel_rfl) (by kernel_rfl) (by kernel_rfl) ?_
  intro K
  refine W_seq (by kernel_rfl) ?_
  refine W_run 1 [] [0, 1] [1000] (fr' := [(0, aI a0), (1, .one (.ptr 1000 0))]) (L' := [(1000, .cells [.dat tI c0])]) (obs := []) (by kernel_rfl) (by kernel_rfl) (by kernel_rfl) allP0 ?_
  refine seqQ_norm ?_
  refine W_seq (by kernel_rfl) ?_
  refine W_run 8 [] [3] [1000] (fr' := [(3, aB ((decide (a0 < (0 : Int))) || (decide (a0 ≥ c0))))]) (L' := [(1000, .cells [.dat tI c0])]) (obs := []) (by kernel_rfl) (by kernel_rfl) (by kernel_rfl) allP0 ?_
  refine seqQ_norm ?_
  obtain rfl := Option.some.inj h
  refine W_ret [3] [1000] (fr' := [(3, aB ((decide (a0 < (0 : Int))) || (decide (a0 ≥ c0))))]) (L' := [(1000, .cells [.dat tI c0])]) (by kernel_rfl) (by kernel_rfl) ?_
  exact retQ_mk (by kernel_rfl) (by kernel_rfl) (by kernel_rfl)

def slices_IndexFunc_Lintint_with_half_wrong_2_b1 (c0 : Int) (i15 : Int) (v18 : Int) (x16 : Unit) : Option (Flow Unit (Esc Int Unit)) :=
(half_wrong_2 v18 c0).bind fun r21 =>
bif r21 then
(some (.done (.ret i15)))
else
(some (.next ()))
@[reducible] def slices_IndexFunc_Lintint_with_half_wrong_2_s2 (a0 : (List Int)) (c0 : Int) (v : Int × Unit) : Fr × LL := ([(0, aD (.slice tI) a0), (1, .one (.fn 90 [(1000, 0)])), (7, aI (List.length a0 : Int)), (8, aI v.1)], [(1000, .cells [.dat tI c0])])
@[reducible] def slices_IndexFunc_Lintint_with_half_wrong_2_s3 (c0 : Int) (v : Int) : Fr × LL := ([(4, aI v)], [(1000, .cells [.dat tI c0])])
@[reducible] def slices_IndexFunc_Lintint_with_half_wrong_2_s4 (c0 : Int) (v : Unit) : Fr × LL := ([], [(1000, .cells [.dat tI c0])])
def slices_IndexFunc_Lintint_with_half_wrong_2 (a0 : (List Int)) (c0 : Int) : Option Int :=
(forL (slices_IndexFunc_Lintint_with_half_wrong_2_b1 c0) (fun x16 => (.brk ())) a0 0 ()).bind fun v25 =>
match v25 with
| .ret v30 =>
(some v30)
| .brk v31 =>
(some (-1 : Int))
theorem slices_IndexFunc_Lintint_with_half_wrong_2_ok {a0 : (List Int)} {c0 : Int} {r : Int} (h : slices_IndexFunc_Lintint_with_half_wrong_2 a0 c0 = some r) : FnC Try.prog 81 [aD (.slice tI) a0, .one (.fn 90 [(1000, 0)])] [(1000, .cells [.dat tI c0])] (aI r) [(1000, .cells [.dat tI c0])] := by
  refine fnC_of_W (B := bodyOf Try.f81) (n := 19) Try.func81 (by kernel_rfl) (by kernel_rfl) (by kernel_rfl) (by kernel_rfl) (by kernel_rfl) ?_
  intro K
  refine W_seq (by kernel_rfl) ?_
  refine W_run 1 [] [0, 1] [1000] (fr' := [(0, aD (.slice tI) a0), (1, .one (.fn 90 [(1000, 0)]))]) (L' := [(1000, .cells [.dat tI c0])]) (obs := []) (by kernel_rfl) (by kernel_rfl) (by kernel_rfl) allP0 ?_
  refine seqQ_norm ?_
  refine W_seq (by kernel_rfl) ?_
  refine W_seq (by kernel_rfl) ?_
  refine W_run 3 [] [0, 1, 7, 8] [1000] (fr' := [(0, aD (.slice tI) a0), (1, .one (.fn 90 [(1000, 0)])), (7, aI (List.length a0 : Int)), (8, aI (0 : Int))]) (L' := [(1000, .cells [.dat tI c0])]) (obs := []) (by kernel_rfl) (by kernel_rfl) (by kernel_rfl) allP0 ?_
  refine seqQ_norm ?_
  refine W_block (id := 0) (by kernel_rfl) ?_
  obtain ⟨v25, h26, h⟩ := bind_of h
  refine W_len (t := 0) (u := tI) (xs := a0) (by kernel_rfl) (fun h29 => ?_)
  obtain ⟨h27, h28⟩ := forL_iter h29 h26
  refine W_weaken [0, 1, 7, 8] [1000] (fr' := ((slices_IndexFunc_Lintint_with_half_wrong_2_s2 a0 c0) ((0 : Int), ())).1) (L' := ((slices_IndexFunc_Lintint_with_half_wrong_2_s2 a0 c0) ((0 : Int), ())).2) (by kernel_rfl) ?_
  refine W_cutK (W_loop (S := (slices_IndexFunc_Lintint_with_half_wrong_2_s2 a0 c0)) (J := (escQ (exQ .ret (slices_IndexFunc_Lintint_with_half_wrong_2_s3 c0)) (exQ (.exit 0) (slices_IndexFunc_Lintint_with_half_wrong_2_s4 c0)))) (by kernel_rfl) ?_ h27 _ v25 h28) ?_
  · rintro ⟨i15, x16⟩ s h
    refine W_seq (by kernel_rfl) ?_
    refine W_run 1 [] [0, 1, 7, 8, 9] [1000] (fr' := [(0, aD (.slice tI) a0), (1, .one (.fn 90 [(1000, 0)])), (7, aI (List.length a0 : Int)), (8, aI i15), (9, aB (decide (i15 < (List.length a0 : Int))))]) (L' := [(1000, .cells [.dat tI c0])]) (obs := []) (by kernel_rfl) (by kernel_rfl) (by kernel_rfl) allP0 ?_
    refine seqQ_norm ?_
    refine W_seq (by kernel_rfl) ?_
    refine W_cond (o := .tmp 9) (b := decide (i15 < (List.length a0 : Int))) (by kernel_rfl) (by kernel_rfl) (fun h20 => ?_) (fun h20 => ?_)
    · replace h := stepL_true h20 h
      obtain ⟨v18, _, h19, h, rfl⟩ := h
      refine W_skip [0, 1, 7, 8] [1000] (fr' := [(0, aD (.slice tI) a0), (1, .one (.fn 90 [(1000, 0)])), (7, aI (List.length a0 : Int)), (8, aI i15)]) (L' := [(1000, .cells [.dat tI c0])]) (by kernel_rfl) (by kernel_rfl) ?_
      refine seqQ_norm ?_
      refine W_seq (by kernel_rfl) ?_
      refine W_block (id := 1) (by kernel_rfl) ?_
      refine W_seq (by kernel_rfl) ?_
      refine W_run 2 [] [0, 1, 5, 7, 8] [1000] (fr' := [(0, aD (.slice tI) a0), (1, .one (.fn 90 [(1000, 0)])), (5, aI i15), (7, aI (List.length a0 : Int)), (8, aI i15)]) (L' := [(1000, .cells [.dat tI c0])]) (obs := []) (by kernel_rfl) (by kernel_rfl) (by kernel_rfl) allP0 ?_
      refine seqQ_norm ?_
      refine W_seq (by kernel_rfl) ?_
      refine W_region (by kernel_rfl) ?_
      refine WO_run (j := 5) (k := 5) (orcs := [(7, .val (.dat tI v18))]) (kF := [0, 1, 5, 7, 8, 11, 15]) (kL := [1000]) (fr' := [(0, aD (.slice tI) a0), (1, .one (.fn 90 [(1000, 0)])), (5, aI i15), (7, aI (List.length a0 : Int)), (8, aI i15), (11, .one (.fn 90 [(1000, 0)])), (15, aI v18)]) (L' := [(1000, .cells [.dat tI c0])]) (obs := [Idx a0 i15 v18]) rfl (by kernel_rfl) (allP1 (Idx.of h19)) ?_
      obtain ⟨r21, h22, h⟩ := bind_of h
      refine WO_lend [(1000, 1000)] (us := [none, none]) (d := 16) (p := True) (j := 6) rfl ⟨by kernel_rfl, by kernel_rfl, by kernel_rfl⟩ trivial (half_wrong_2_ok h22) (by kernel_rfl) (by kernel_rfl) ?_
      refine WO_fin [0, 1, 5, 7, 8, 16] [1000] (fr' := [(0, aD (.slice tI) a0), (1, .one (.fn 90 [(1000, 0)])), (5, aI i15), (7, aI (List.length a0 : Int)), (8, aI i15), (16, aB r21)]) (L' := [(1000, .cells [.dat tI c0])]) (by kernel_rfl) (by kernel_rfl) ?_
      refine seqQ_norm ?_
      refine W_cond (o := .tmp 16) (b := r21) (by kernel_rfl) (by kernel_rfl) (fun h23 => ?_) (fun h23 => ?_)
      · replace h := ofT h23 h
        refine W_seq (by kernel_rfl) ?_
        refine W_run 2 [] [4] [1000] (fr' := [(4, aI i15)]) (L' := [(1000, .cells [.dat tI c0])]) (obs := []) (by kernel_rfl) (by kernel_rfl) (by kernel_rfl) allP0 ?_
        refine seqQ_norm ?_
        obtain rfl := Option.some.inj h
        refine W_ret [4] [1000] (fr' := [(4, aI i15)]) (L' := [(1000, .cells [.dat tI c0])]) (by kernel_rfl) (by kernel_rfl) ?_
        refine blockQ_ret ?_
        refine seqQ_ret ?_
        refine round_ret ?_
        refine escQ_ret ?_
        exact exQ_mk (by kernel_rfl) (by kernel_rfl)
      · replace h := ofF h23 h
        refine W_skip [0, 1, 7, 8] [1000] (fr' := [(0, aD (.slice tI) a0), (1, .one (.fn 90 [(1000, 0)])), (7, aI (List.length a0 : Int)), (8, aI i15)]) (L' := [(1000, .cells [.dat tI c0])]) (by kernel_rfl) (by kernel_rfl) ?_
        refine blockQ_norm ?_
        refine seqQ_norm ?_
        obtain rfl := Option.some.inj h
        refine W_run 2 [] [0, 1, 7, 8] [1000] (fr' := [(0, aD (.slice tI) a0), (1, .one (.fn 90 [(1000, 0)])), (7, aI (List.length a0 : Int)), (8, aI (w64 (i15 + (1 : Int))))]) (L' := [(1000, .cells [.dat tI c0])]) (obs := []) (by kernel_rfl) (by kernel_rfl) (by kernel_rfl) allP0 ?_
        exact round_next' (by kernel_rfl) (by kernel_rfl)
    · obtain rfl := stepL_false h20 h
      refine W_exit (id := 0) [] [1000] (fr' := []) (L' := [(1000, .cells [.dat tI c0])]) (by kernel_rfl) (by kernel_rfl) ?_
      refine seqQ_exit ?_
      refine round_exit ?_
      refine escQ_brk ?_
      exact exQ_mk (by kernel_rfl) (by kernel_rfl)
  · intro e fr L hJ
    rcases v25 with v30 | v31
    · obtain ⟨rfl, rfl, rfl⟩ := hJ
      obtain rfl := Option.some.inj h
      refine LT_keep [4] [1000] (fr' := [(4, aI v30)]) (L' := [(1000, .cells [.dat tI c0])]) (by kernel_rfl) ?_
      refine blockQ_ret ?_
      refine seqQ_ret ?_
      exact retQ_mk (by kernel_rfl) (by kernel_rfl) (by kernel_rfl)
    · obtain ⟨rfl, rfl, rfl⟩ := hJ
      refine LT_keep [] [1000] (fr' := []) (L' := [(1000, .cells [.dat tI c0])]) (by kernel_rfl) ?_
      refine blockQ_hit ?_
      refine seqQ_norm ?_
      refine W_seq (by kernel_rfl) ?_
      refine W_run 1 [] [4] [1000] (fr' := [(4, aI (-1 : Int))]) (L' := [(1000, .cells [.dat tI c0])]) (obs := []) (by kernel_rfl) (by kernel_rfl) (by kernel_rfl) allP0 ?_
      refine seqQ_norm ?_
      obtain rfl := Option.some.inj h
      refine W_ret [4] [1000] (fr' := [(4, aI (-1 : Int))]) (L' := [(1000, .cells [.dat tI c0])]) (by kernel_rfl) (by kernel_rfl) ?_
      exact retQ_mk (by kernel_rfl) (by kernel_rfl) (by kernel_rfl)

def slices_ContainsFunc_Lintint_with_half_wrong_2 (a0 : (List Int)) (c0 : Int) : Option Bool :=
(slices_IndexFunc_Lintint_with_half_wrong_2 a0 c0).bind fun r1 =>
some (decide (r1 ≥ (0 : Int)))
theorem slices_ContainsFunc_Lintint_with_half_wrong_2_ok {a0 : (List Int)} {c0 : Int} {r : Bool} (h : slices_ContainsFunc_Lintint_with_half_wrong_2 a0 c0 = some r) : FnC Try.prog 53 [aD (.slice tI) a0, .one (.fn 90 [(1000, 0)])] [(1000, .cells [.dat tI c0])] (aB r) [(1000, .cells [.dat tI c0])] := by
  refine fnC_of_W (B := bodyOf Try.f53) (n := 9) Try.func53 (by kernel_rfl) (by kernel_rfl) (by kernel_rfl) (by kernel_rfl) (by kernel_rfl) ?_
  intro K
  refine W_seq (by kernel_rfl) ?_
  refine W_run 1 [] [0, 1] [1000] (fr' := [(0, aD (.slice tI) a0), (1, .one (.fn 90 [(1000, 0)]))]) (L' := [(1000, .cells [.dat tI c0])]) (obs := []) (by kernel_rfl) (by kernel_rfl) (by kernel_rfl) allP0 ?_
  refine seqQ_norm ?_
  refine W_seq (by kernel_rfl) ?_
  refine W_region (by kernel_rfl) ?_
  refine WO_run (j := 2) (k := 2) (orcs := []) (kF := [5, 6]) (kL := [1000]) (fr' := [(5, aD (.slice tI) a0), (6, .one (.fn 90 [(1000, 0)]))]) (L' := [(1000, .cells [.dat tI c0])]) (obs := []) rfl (by kernel_rfl) allP0 ?_
  obtain ⟨r1, h2, h⟩ := bind_of h
  refine WO_lend [(1000, 1000)] (us := [none, none]) (d := 7) (p := True) (j := 3) rfl ⟨by kernel_rfl, by kernel_rfl, by kernel_rfl⟩ trivial (slices_IndexFunc_Lintint_with_half_wrong_2_ok h2) (by kernel_rfl) (by kernel_rfl) ?_
  refine WO_run (j := 5) (k := 2) (orcs := []) (kF := [4]) (kL := [1000]) (fr' := [(4, aB (decide (r1 ≥ (0 : Int))))]) (L' := [(1000, .cells [.dat tI c0])]) (obs := []) rfl (by kernel_rfl) allP0 ?_
  refine WO_fin [4] [1000] (fr' := [(4, aB (decide (r1 ≥ (0 : Int))))]) (L' := [(1000, .cells [.dat tI c0])]) (by kernel_rfl) (by kernel_rfl) ?_
  refine seqQ_norm ?_
  obtain rfl := Option.some.inj h
  refine W_ret [4] [1000] (fr' := [(4, aB (decide (r1 ≥ (0 : Int))))]) (L' := [(1000, .cells [.dat tI c0])]) (by kernel_rfl) (by kernel_rfl) ?_
  exact retQ_mk (by kernel_rfl) (by kernel_rfl) (by kernel_rfl)

def half_wrong_g1 (a0 : (List (List Int))) : Option Bool :=
bif (decide ((List.length a0 : Int) < (1 : Int))) || (decide ((List.length a0 : Int) > (8 : Int))) then
(some true)
else
((slices_ContainsFunc_LLintLint_with_half_wrong_1 a0).bind fun r8 =>
some r8)
@[reducible] def half_wrong_s2 (a0 : (List (List Int))) (a1 : (List Int)) (v : Bool) : Fr × LL := ([(0, aD (.slice (.slice tI)) a0), (1, aD (.slice tI) a1), (5, .one (.ptr 5 0)), (17, aB v)], [(5, .cells [.dat tI (List.length a0 : Int)])])
def half_wrong (a0 : (List (List Int))) (a1 : (List Int)) : Option Int :=
(half_wrong_g1 a0).bind fun v10 =>
bif v10 then
(some (1 : Int))
else
((slices_Concat_Lintint a0).bind fun r13 =>
(slices_Concat_Lintint [r13, a1]).bind fun r15 =>
(slices_ContainsFunc_Lintint_with_half_wrong_2 r15 (List.length a0 : Int)).bind fun r17 =>
bif r17 then
(some (2 : Int))
else
(some (0 : Int)))
theorem half_wrong_ok {a0 : (List (List Int))} {a1 : (List Int)} {r : Int} (h : half_wrong a0 a1 = some r) : FnC Try.prog 70 [aD (.slice (.slice tI)) a0, aD (.slice tI) a1] [] (aI r) [] := by
  refine fnC_of_W (B := bodyOf Try.f70) (n := 25) Try.func70 (by kernel_rfl) (by kernel_rfl) (by kernel_rfl) (by kernel_rfl) (by kernel_rfl) ?_
  intro K
  refine W_seq (by kernel_rfl) ?_
  refine W_run 1 [] [0, 1] [] (fr' := [(0, aD (.slice (.slice tI)) a0), (1, aD (.slice tI) a1)]) (L' := []) (obs := []) (by kernel_rfl) (by kernel_rfl) (by kernel_rfl) allP0 ?_
  refine seqQ_norm ?_
  refine W_seq (by kernel_rfl) ?_
  refine W_run 4 [] [0, 1, 5] [5] (fr' := [(0, aD (.slice (.slice tI)) a0), (1, aD (.slice tI) a1), (5, .one (.ptr 5 0))]) (L' := [(5, .cells [.dat tI (List.length a0 : Int)])]) (obs := [True]) (by kernel_rfl) (by kernel_rfl) (by kernel_rfl) (allP1 trivial) ?_
  refine seqQ_norm ?_
  refine W_seq (by kernel_rfl) ?_
  refine W_seq (by kernel_rfl) ?_
  obtain ⟨v10, h11, h⟩ := bind_of h
  refine W_cutK (Q' := (exQ .normal (half_wrong_s2 a0 a1)) v10) ?_ ?_
  · replace h := h11
    refine W_region (by kernel_rfl) ?_
    refine WO_run (j := 7) (k := 7) (orcs := []) (kF := [0, 1, 5, 14]) (kL := [5]) (fr' := [(0, aD (.slice (.slice tI)) a0), (1, aD (.slice tI) a1), (5, .one (.ptr 5 0)), (14, aB ((decide ((List.length a0 : Int) < (1 : Int))) || (decide ((List.length a0 : Int) > (8 : Int)))))]) (L' := [(5, .cells [.dat tI (List.length a0 : Int)])]) (obs := []) rfl (by kernel_rfl) allP0 ?_
    rcases Bool.eq_false_or_eq_true ((decide ((List.length a0 : Int) < (1 : Int))) || (decide ((List.length a0 : Int) > (8 : Int)))) with h7 | h7
    · replace h := ofT h7 h
      refine WO_run (j := 10) (k := 3) (orcs := [(14, .known true), (16, .known true), (19, .val (.dat .bool true))]) (kF := [0, 1, 5, 17]) (kL := [5]) (fr' := [(0, aD (.slice (.slice tI)) a0), (1, aD (.slice tI) a1), (5, .one (.ptr 5 0)), (17, aB true)]) (L' := [(5, .cells [.dat tI (List.length a0 : Int)])]) (obs := [(((decide ((List.length a0 : Int) < (1 : Int))) || (decide ((List.length a0 : Int) > (8 : Int)))) = true), (((decide ((List.length a0 : Int) < (1 : Int))) || (decide ((List.length a0 : Int) > (8 : Int)))) = true), (((decide ((List.length a0 : Int) < (1 : Int))) || (decide ((List.length a0 : Int) > (8 : Int)))) = true)]) rfl (by kernel_rfl) (allP2 h7 (allP2 h7 (allP1 h7))) ?_
      obtain rfl := Option.some.inj h
      refine WO_fin [0, 1, 5, 17] [5] (fr' := [(0, aD (.slice (.slice tI)) a0), (1, aD (.slice tI) a1), (5, .one (.ptr 5 0)), (17, aB true)]) (L' := [(5, .cells [.dat tI (List.length a0 : Int)])]) (by kernel_rfl) (by kernel_rfl) ?_
      exact exQ_mk (by kernel_rfl) (by kernel_rfl)
    · replace h := ofF h7 h
      refine WO_run (j := 8) (k := 1) (orcs := [(14, .known false)]) (kF := [0, 1, 5, 14, 15]) (kL := [5]) (fr' := [(0, aD (.slice (.slice tI)) a0), (1, aD (.slice tI) a1), (5, .one (.ptr 5 0)), (14, aB ((decide ((List.length a0 : Int) < (1 : Int))) || (decide ((List.length a0 : Int) > (8 : Int))))), (15, aD (.slice (.slice tI)) a0)]) (L' := [(5, .cells [.dat tI (List.length a0 : Int)])]) (obs := [(((decide ((List.length a0 : Int) < (1 : Int))) || (decide ((List.length a0 : Int) > (8 : Int)))) = false)]) rfl (by kernel_rfl) (allP1 h7) ?_
      obtain ⟨r8, h9, h⟩ := bind_of h
      refine WO_call0 (us := [none, none]) (d := 16) (p := (((decide ((List.length a0 : Int) < (1 : Int))) || (decide ((List.length a0 : Int) > (8 : Int)))) = false)) (j := 9) rfl ⟨by kernel_rfl, by kernel_rfl, by kernel_rfl⟩ h7 (slices_ContainsFunc_LLintLint_with_half_wrong_1_ok h9) (by kernel_rfl) ?_
      refine WO_run (j := 10) (k := 1) (orcs := [(19, .val (.dat .bool false))]) (kF := [0, 1, 5, 17]) (kL := [5]) (fr' := [(0, aD (.slice (.slice tI)) a0), (1, aD (.slice tI) a1), (5, .one (.ptr 5 0)), (17, aB r8)]) (L' := [(5, .cells [.dat tI (List.length a0 : Int)])]) (obs := [(((decide ((List.length a0 : Int) < (1 : Int))) || (decide ((List.length a0 : Int) > (8 : Int)))) = false)]) rfl (by kernel_rfl) (allP1 h7) ?_
      obtain rfl := Option.some.inj h
      refine WO_fin [0, 1, 5, 17] [5] (fr' := [(0, aD (.slice (.slice tI)) a0), (1, aD (.slice tI) a1), (5, .one (.ptr 5 0)), (17, aB r8)]) (L' := [(5, .cells [.dat tI (List.length a0 : Int)])]) (by kernel_rfl) (by kernel_rfl) ?_
      exact exQ_mk (by kernel_rfl) (by kernel_rfl)
  · intro e fr L hJ
    obtain ⟨rfl, rfl, rfl⟩ := hJ
    refine LT_keep [0, 1, 5, 17] [5] (fr' := [(0, aD (.slice (.slice tI)) a0), (1, aD (.slice tI) a1), (5, .one (.ptr 5 0)), (17, aB v10)]) (L' := [(5, .cells [.dat tI (List.length a0 : Int)])]) (by kernel_rfl) ?_
    refine seqQ_norm ?_
    refine W_cond (o := .tmp 17) (b := v10) (by kernel_rfl) (by kernel_rfl) (fun h12 => ?_) (fun h12 => ?_)
    · replace h := ofT h12 h
      refine W_seq (by kernel_rfl) ?_
      refine W_run 1 [] [4] [] (fr' := [(4, aI (1 : Int))]) (L' := []) (obs := []) (by kernel_rfl) (by kernel_rfl) (by kernel_rfl) allP0 ?_
      refine seqQ_norm ?_
      obtain rfl := Option.some.inj h
      refine W_ret [4] [] (fr' := [(4, aI (1 : Int))]) (L' := []) (by kernel_rfl) (by kernel_rfl) ?_
      refine seqQ_ret ?_
      exact retQ_mk (by kernel_rfl) (by kernel_rfl) (by kernel_rfl)
    · replace h := ofF h12 h
      refine W_skip [0, 1, 5] [5] (fr' := [(0, aD (.slice (.slice tI)) a0), (1, aD (.slice tI) a1), (5, .one (.ptr 5 0))]) (L' := [(5, .cells [.dat tI (List.length a0 : Int)])]) (by kernel_rfl) (by kernel_rfl) ?_
      refine seqQ_norm ?_
      refine W_seq (by kernel_rfl) ?_
      refine W_seq (by kernel_rfl) ?_
      refine W_region (by kernel_rfl) ?_
      refine WO_run (j := 1) (k := 1) (orcs := []) (kF := [1, 5, 18]) (kL := [5]) (fr' := [(1, aD (.slice tI) a1), (5, .one (.ptr 5 0)), (18, aD (.slice (.slice tI)) a0)]) (L' := [(5, .cells [.dat tI (List.length a0 : Int)])]) (obs := []) rfl (by kernel_rfl) allP0 ?_
      obtain ⟨r13, h14, h⟩ := bind_of h
      refine WO_call1 (us := [none]) (d := 19) (t := 19) (p := True) (j := 2) rfl ⟨by kernel_rfl, by kernel_rfl, by kernel_rfl⟩ trivial (slices_Concat_Lintint_ok h14) (by kernel_rfl) ?_
      refine WO_run (j := 3) (k := 1) (orcs := []) (kF := [5, 19, 20]) (kL := [5, 19]) (fr' := [(5, .one (.ptr 5 0)), (19, .one (.slc 19)), (20, aD (.slice tI) a1)]) (L' := [(5, .cells [.dat tI (List.length a0 : Int)]), (19, .seq tI r13)]) (obs := []) rfl (by kernel_rfl) allP0 ?_
      refine WO_frz 19 (by kernel_rfl) ?_
      refine WO_run (j := 4) (k := 1) (orcs := []) (kF := [5, 21]) (kL := [5, 21]) (fr' := [(5, .one (.ptr 5 0)), (21, .one (.slc 21))]) (L' := [(5, .cells [.dat tI (List.length a0 : Int)]), (21, .seq (.slice tI) [r13, a1])]) (obs := []) rfl (by kernel_rfl) allP0 ?_
      obtain ⟨r15, h16, h⟩ := bind_of h
      refine WO_frz 21 (by kernel_rfl) ?_
      refine WO_call1 (us := [none]) (d := 22) (t := 22) (p := True) (j := 5) rfl ⟨by kernel_rfl, by kernel_rfl, by kernel_rfl⟩ trivial (slices_Concat_Lintint_ok h16) (by kernel_rfl) ?_
      refine WO_run (j := 6) (k := 1) (orcs := []) (kF := [22, 23]) (kL := [5, 22]) (fr' := [(22, .one (.slc 22)), (23, .one (.fn 90 [(5, 0)]))]) (L' := [(5, .cells [.dat tI (List.length a0 : Int)]), (22, .seq tI r15)]) (obs := []) rfl (by kernel_rfl) allP0 ?_
      obtain ⟨r17, h18, h⟩ := bind_of h
      refine WO_frz 22 (by kernel_rfl) ?_
      refine WO_lend [(1000, 5)] (us := [none, none]) (d := 24) (p := True) (j := 7) rfl ⟨by kernel_rfl, by kernel_rfl, by kernel_rfl⟩ trivial (slices_ContainsFunc_Lintint_with_half_wrong_2_ok h18) (by kernel_rfl) (by kernel_rfl) ?_
      refine WO_fin [24] [] (fr' := [(24, aB r17)]) (L' := []) (by kernel_rfl) (by kernel_rfl) ?_
      refine seqQ_norm ?_
      refine W_cond (o := .tmp 24) (b := r17) (by kernel_rfl) (by kernel_rfl) (fun h19 => ?_) (fun h19 => ?_)
      · replace h := ofT h19 h
        refine W_seq (by kernel_rfl) ?_
        refine W_run 1 [] [4] [] (fr' := [(4, aI (2 : Int))]) (L' := []) (obs := []) (by kernel_rfl) (by kernel_rfl) (by kernel_rfl) allP0 ?_
        refine seqQ_norm ?_
        obtain rfl := Option.some.inj h
        refine W_ret [4] [] (fr' := [(4, aI (2 : Int))]) (L' := []) (by kernel_rfl) (by kernel_rfl) ?_
        refine seqQ_ret ?_
        exact retQ_mk (by kernel_rfl) (by kernel_rfl) (by kernel_rfl)
      · replace h := ofF h19 h
        refine W_skip [] [] (fr' := []) (L' := []) (by kernel_rfl) (by kernel_rfl) ?_
        refine seqQ_norm ?_
        refine W_seq (by kernel_rfl) ?_
        refine W_run 1 [] [4] [] (fr' := [(4, aI (0 : Int))]) (L' := []) (obs := []) (by kernel_rfl) (by kernel_rfl) (by kernel_rfl) allP0 ?_
        refine seqQ_norm ?_
        obtain rfl := Option.some.inj h
        refine W_ret [4] [] (fr' := [(4, aI (0 : Int))]) (L' := []) (by kernel_rfl) (by kernel_rfl) ?_
        exact retQ_mk (by kernel_rfl) (by kernel_rfl) (by kernel_rfl)

def slices_Clone_Lboolbool_i2 (a0 : (List Bool)) : Option (List Bool) :=
(ck ((0 : Int) + (List.length a0 : Int) ≤ 4294967296)).bind fun _ =>
some ([] ++ a0)
theorem slices_Clone_Lboolbool_i2_ok {a0 : (List Bool)} {r : (List Bool)} (h : slices_Clone_Lboolbool_i2 a0 = some r) : FnC Try.prog 71 [aD (.slice .bool) a0] [] (.one (.slc 5)) [(5, .seq .bool r)] := by
  refine fnC_of_W (B := bodyOf Try.f71) (n := 8) Try.func71 (by kernel_rfl) (by kernel_rfl) (by kernel_rfl) (by kernel_rfl) (by kernel_rfl) ?_
  intro K
  refine W_seq (by kernel_rfl) ?_
  refine W_run 1 [] [0] [] (fr' := [(0, aD (.slice .bool) a0)]) (L' := []) (obs := []) (by kernel_rfl) (by kernel_rfl) (by kernel_rfl) allP0 ?_
  refine seqQ_norm ?_
  refine W_seq (by kernel_rfl) ?_
  refine W_seq (by kernel_rfl) ?_
  refine W_region (by kernel_rfl) ?_
  refine WO_run (j := 1) (k := 1) (orcs := []) (kF := [0, 3]) (kL := []) (fr' := [(0, aD (.slice .bool) a0), (3, aD (.slice .bool) a0)]) (L' := []) (obs := []) rfl (by kernel_rfl) allP0 ?_
  refine WO_nilcmp (u := .bool) (xs := a0) (d := 4) (j := 2) rfl (by kernel_rfl) (by kernel_rfl) (fun h12 h10 => ?_)
  cases h12
  · refine WO_fin [0, 4] [] (fr' := [(0, aD (.slice .bool) a0), (4, aB false)]) (L' := []) (by kernel_rfl) (by kernel_rfl) ?_
    refine seqQ_norm ?_
    refine W_cond (o := .tmp 4) (b := false) (by kernel_rfl) (by kernel_rfl) (fun h7 => by have := (rfl : false = false).symm.trans h7; cases this) (fun h7 => ?_)
    refine W_skip [0] [] (fr' := [(0, aD (.slice .bool) a0)]) (L' := []) (by kernel_rfl) (by kernel_rfl) ?_
    refine seqQ_norm ?_
    refine W_seq (by kernel_rfl) ?_
    obtain ⟨_, h8, h⟩ := bind_of h
    replace h8 := ck_some h8
    refine W_run 4 [] [2] [5] (fr' := [(2, .one (.slc 5))]) (L' := [(5, .seq .bool ([] ++ a0))]) (obs := [SmallLen (List.length ([] : (List Bool)) + List.length a0)]) (by kernel_rfl) (by kernel_rfl) (by kernel_rfl) (allP1 h8) ?_
    refine seqQ_norm ?_
    obtain rfl := Option.some.inj h
    refine W_ret [2] [5] (fr' := [(2, .one (.slc 5))]) (L' := [(5, .seq .bool ([] ++ a0))]) (by kernel_rfl) (by kernel_rfl) ?_
    exact retQ_mk (by kernel_rfl) (by kernel_rfl) (by kernel_rfl)
  · replace h10 := h10 rfl
    have h11 : (some [] : Option (List Bool)) = ((ck ((0 : Int) + (List.length a0 : Int) ≤ 4294967296)).bind fun _ => some ([] ++ a0)) := by rw [h10]; simp [ck]
    replace h := h11.trans h
    refine WO_fin [0, 4] [] (fr' := [(0, aD (.slice .bool) a0), (4, aB true)]) (L' := []) (by kernel_rfl) (by kernel_rfl) ?_
    refine seqQ_norm ?_
    refine W_cond (o := .tmp 4) (b := true) (by kernel_rfl) (by kernel_rfl) (fun h9 => ?_) (fun h9 => by have := (rfl : true = true).symm.trans h9; cases this)
    refine W_seq (by kernel_rfl) ?_
    refine W_run 1 [] [2] [] (fr' := [(2, .one (.nilS))]) (L' := []) (obs := []) (by kernel_rfl) (by kernel_rfl) (by kernel_rfl) allP0 ?_
    refine seqQ_norm ?_
    obtain rfl := Option.some.inj h
    refine W_mine 2 5 .bool (by kernel_rfl) ?_
    refine W_ret [2] [5] (fr' := [(2, .one (.slc 5))]) (L' := [(5, .seq .bool [])]) (by kernel_rfl) (by kernel_rfl) ?_
    refine seqQ_ret ?_
    exact retQ_mk (by kernel_rfl) (by kernel_rfl) (by kernel_rfl)

def half_Counts_b101 (i887 : Int) (v890 : Int) (x888 : (List Bool)) : Option (Flow (List Bool) (List Bool)) :=
(idx x888 v890).bind fun v893 =>
some (.next (List.set x888 (Int.toNat v890) true))
@[reducible] def half_Counts_s102 (a0 : (List (List Int))) (i606 : Int) (x607 : ((List Bool) × (List Int))) (i808 : Int) (x809 : (Int × (List Bool))) (v873 : (List Int)) (v : Int × (List Bool)) : Fr × LL := ([(0, aD (.slice (.slice tI)) a0), (8, .one (.slc 62)), (9, aI (w64 (x809.1 + (1 : Int)))), (10, .one (.slc 33)), (29, aI (List.length a0 : Int)), (30, aI i606), (34, aD (.slice .bool) x607.1), (35, aI (List.length x607.1 : Int)), (36, aI i808), (48, aD (.slice tI) v873), (49, aI (List.length v873 : Int)), (50, aI v.1)], [(62, .seq tI x607.2), (33, .seq .bool v.2)])
@[reducible] def half_Counts_s103 (a0 : (List (List Int))) (i606 : Int) (x607 : ((List Bool) × (List Int))) (i808 : Int) (x809 : (Int × (List Bool))) (v : (List Bool)) : Fr × LL := ([(0, aD (.slice (.slice tI)) a0), (8, .one (.slc 62)), (9, aI (w64 (x809.1 + (1 : Int)))), (10, .one (.slc 33)), (29, aI (List.length a0 : Int)), (30, aI i606), (34, aD (.slice .bool) x607.1), (35, aI (List.length x607.1 : Int)), (36, aI i808)], [(62, .seq tI x607.2), (33, .seq .bool v)])
def half_Counts_g104 (a0 : (List (List Int))) (i808 : Int) (x809 : (Int × (List Bool))) (v811 : Bool) : Option (Int × (List Bool)) :=
bif !v811 then
(some (x809.1, x809.2))
else
((idx a0 i808).bind fun v873 =>
(forL half_Counts_b101 (fun x888 => x888) v873 0 x809.2).bind fun v896 =>
some (w64 (x809.1 + (1 : Int)), v896))
@[reducible] def half_Counts_s105 (a0 : (List (List Int))) (i606 : Int) (x607 : ((List Bool) × (List Int))) (i808 : Int) (v : (Int × (List Bool))) : Fr × LL := ([(0, aD (.slice (.slice tI)) a0), (8, .one (.slc 62)), (9, aI v.1), (10, .one (.slc 33)), (29, aI (List.length a0 : Int)), (30, aI i606), (34, aD (.slice .bool) x607.1), (35, aI (List.length x607.1 : Int)), (36, aI i808)], [(62, .seq tI x607.2), (33, .seq .bool v.2)])
def half_Counts_b106 (a0 : (List (List Int))) (i808 : Int) (v811 : Bool) (x809 : (Int × (List Bool))) : Option (Flow (Int × (List Bool)) (Int × (List Bool))) :=
(half_Counts_g104 a0 i808 x809 v811).bind fun v901 =>
some (.next (v901.1, v901.2))
@[reducible] def half_Counts_s107 (a0 : (List (List Int))) (i606 : Int) (x607 : ((List Bool) × (List Int))) (v : Int × (Int × (List Bool))) : Fr × LL := ([(0, aD (.slice (.slice tI)) a0), (8, .one (.slc 62)), (9, aI v.2.1), (10, .one (.slc 33)), (29, aI (List.length a0 : Int)), (30, aI i606), (34, aD (.slice .bool) x607.1), (35, aI (List.length x607.1 : Int)), (36, aI v.1)], [(62, .seq tI x607.2), (33, .seq .bool v.2.2)])
@[reducible] def half_Counts_s108 (a0 : (List (List Int))) (i606 : Int) (x607 : ((List Bool) × (List Int))) (v : (Int × (List Bool))) : Fr × LL := ([(0, aD (.slice (.slice tI)) a0), (8, .one (.slc 62)), (9, aI v.1), (10, .one (.slc 33)), (29, aI (List.length a0 : Int)), (30, aI i606)], [(62, .seq tI x607.2), (33, .seq .bool v.2)])
def half_Counts_b109 (a0 : (List (List Int))) (i606 : Int) (v609 : (List Int)) (x607 : ((List Bool) × (List Int))) : Option (Flow ((List Bool) × (List Int)) (List Int)) :=
(slices_Clone_Lboolbool_i2 x607.1).bind fun r612 =>
(forL (half_Counts_b106 a0) (fun x809 => (x809.1, x809.2)) x607.1 0 ((0 : Int), r612)).bind fun v904 =>
(ck ((List.length x607.2 : Int) + 1 ≤ 4294967296)).bind fun _ =>
some (.next (v904.2, x607.2 ++ [v904.1]))
@[reducible] def half_Counts_s110 (a0 : (List (List Int))) (v : Int × ((List Bool) × (List Int))) : Fr × LL := ([(0, aD (.slice (.slice tI)) a0), (7, .one (.slc 24)), (8, .one (.slc 62)), (29, aI (List.length a0 : Int)), (30, aI v.1)], [(24, .seq .bool v.2.1), (62, .seq tI v.2.2)])
@[reducible] def half_Counts_s111 (v : (List Int)) : Fr × LL := ([(8, .one (.slc 62))], [(62, .seq tI v)])
def half_Counts (a0 : (List (List Int))) (a1 : Int) : Option ((List Int) × Int) :=
(half_wrong a0 [a1]).bind fun r1 =>
bif r1 != (0 : Int) then
(some ([], r1))
else
((ck (0 ≤ (List.length a0 : Int) ∧ (List.length a0 : Int) = (List.length a0 : Int) ∧ (List.length a0 : Int) ≤ 4294967296)).bind fun _ =>
(idx (List.replicate (Int.toNat (List.length a0 : Int)) false) a1).bind fun v5 =>
(forL (half_Counts_b109 a0) (fun x607 => x607.2) a0 0 (List.set (List.replicate (Int.toNat (List.length a0 : Int)) false) (Int.toNat a1) true, [])).bind fun v911 =>
some (v911, (0 : Int)))
theorem half_Counts_ok {a0 : (List (List Int))} {a1 : Int} {r : ((List Int) × Int)} (h : half_Counts a0 a1 = some r) : FnC Try.prog 37 [aD (.slice (.slice tI)) a0, aI a1] [] (.tup [.dat (.slice tI) r.1, .dat tI r.2]) [] := by
  refine fnC_of_W (B := bodyOf Try.f37) (n := 66) Try.func37 (by kernel_rfl) (by kernel_rfl) (by kernel_rfl) (by kernel_rfl) (by kernel_rfl) ?_
  intro K
  refine W_seq (by kernel_rfl) ?_
  refine W_run 2 [] [0, 1] [] (fr' := [(0, aD (.slice (.slice tI)) a0), (1, aI a1)]) (L' := []) (obs := []) (by kernel_rfl) (by kernel_rfl) (by kernel_rfl) allP0 ?_
  refine seqQ_norm ?_
  refine W_seq (by kernel_rfl) ?_
  refine W_seq (by kernel_rfl) ?_
  refine W_region (by kernel_rfl) ?_
  refine WO_run (j := 3) (k := 3) (orcs := []) (kF := [0, 1, 15, 17]) (kL := [17]) (fr' := [(0, aD (.slice (.slice tI)) a0), (1, aI a1), (15, aD (.slice (.slice tI)) a0), (17, .one (.slc 17))]) (L' := [(17, .seq tI [a1])]) (obs := []) rfl (by kernel_rfl) allP0 ?_
  obtain ⟨r1, h2, h⟩ := bind_of h
  refine WO_frz 17 (by kernel_rfl) ?_
  refine WO_call0 (us := [none, none]) (d := 18) (p := True) (j := 4) rfl ⟨by kernel_rfl, by kernel_rfl, by kernel_rfl⟩ trivial (half_wrong_ok h2) (by kernel_rfl) ?_
  refine WO_run (j := 5) (k := 1) (orcs := []) (kF := [0, 1, 6]) (kL := []) (fr' := [(0, aD (.slice (.slice tI)) a0), (1, aI a1), (6, aI r1)]) (L' := []) (obs := []) rfl (by kernel_rfl) allP0 ?_
  refine WO_fin [0, 1, 6] [] (fr' := [(0, aD (.slice (.slice tI)) a0), (1, aI a1), (6, aI r1)]) (L' := []) (by kernel_rfl) (by kernel_rfl) ?_
  refine seqQ_norm ?_
  refine W_seq (by kernel_rfl) ?_
  refine W_run 2 [] [0, 1, 6, 20] [] (fr' := [(0, aD (.slice (.slice tI)) a0), (1, aI a1), (6, aI r1), (20, aB (r1 != (0 : Int)))]) (L' := []) (obs := []) (by kernel_rfl) (by kernel_rfl) (by kernel_rfl) allP0 ?_
  refine seqQ_norm ?_
  refine W_cond (o := .tmp 20) (b := r1 != (0 : Int)) (by kernel_rfl) (by kernel_rfl) (fun h3 => ?_) (fun h3 => ?_)
  · replace h := ofT h3 h
    refine W_seq (by kernel_rfl) ?_
    refine W_run 3 [] [4, 5] [] (fr' := [(4, .one (.nilS)), (5, aI r1)]) (L' := []) (obs := []) (by kernel_rfl) (by kernel_rfl) (by kernel_rfl) allP0 ?_
    refine seqQ_norm ?_
    obtain rfl := Option.some.inj h
    refine W_cnv 4 (.slice tI) (by kernel_rfl) ?_
    refine W_ret [4, 5] [] (fr' := [(4, aD (.slice tI) []), (5, aI r1)]) (L' := []) (by kernel_rfl) (by kernel_rfl) ?_
    refine seqQ_ret ?_
    exact retQ_mk (by kernel_rfl) (by kernel_rfl) (by kernel_rfl)
  · replace h := ofF h3 h
    refine W_skip [0, 1] [] (fr' := [(0, aD (.slice (.slice tI)) a0), (1, aI a1)]) (L' := []) (by kernel_rfl) (by kernel_rfl) ?_
    refine seqQ_norm ?_
    refine W_seq (by kernel_rfl) ?_
    obtain ⟨_, h4, h⟩ := bind_of h
    replace h4 := ck_some h4
    refine W_run 4 [] [0, 1, 7] [24] (fr' := [(0, aD (.slice (.slice tI)) a0), (1, aI a1), (7, .one (.slc 24))]) (L' := [(24, .seq .bool (List.replicate (Int.toNat (List.length a0 : Int)) false))]) (obs := [0 ≤ (List.length a0 : Int) ∧ (List.length a0 : Int) = (List.length a0 : Int) ∧ SmallLen (List.length a0 : Int)]) (by kernel_rfl) (by kernel_rfl) (by kernel_rfl) (allP1 h4) ?_
    refine seqQ_norm ?_
    refine W_seq (by kernel_rfl) ?_
    obtain ⟨v5, h6, h⟩ := bind_of h
    refine W_run 4 [] [0, 7] [24] (fr' := [(0, aD (.slice (.slice tI)) a0), (7, .one (.slc 24))]) (L' := [(24, .seq .bool (List.set (List.replicate (Int.toNat (List.length a0 : Int)) false) (Int.toNat a1) true))]) (obs := [InR a1 (List.length (List.replicate (Int.toNat (List.length a0 : Int)) false)), InR a1 (List.length (List.replicate (Int.toNat (List.length a0 : Int)) false))]) (by kernel_rfl) (by kernel_rfl) (by kernel_rfl) (allP2 (InR.of h6) (allP1 (InR.of h6))) ?_
    refine seqQ_norm ?_
    refine W_seq (by kernel_rfl) ?_
    refine W_run 1 [] [0, 7, 8] [24] (fr' := [(0, aD (.slice (.slice tI)) a0), (7, .one (.slc 24)), (8, .one (.nilS))]) (L' := [(24, .seq .bool (List.set (List.replicate (Int.toNat (List.length a0 : Int)) false) (Int.toNat a1) true))]) (obs := []) (by kernel_rfl) (by kernel_rfl) (by kernel_rfl) allP0 ?_
    refine seqQ_norm ?_
    refine W_seq (by kernel_rfl) ?_
    refine W_seq (by kernel_rfl) ?_
    refine W_run 3 [] [0, 7, 8, 29, 30] [24] (fr' := [(0, aD (.slice (.slice tI)) a0), (7, .one (.slc 24)), (8, .one (.nilS)), (29, aI (List.length a0 : Int)), (30, aI (0 : Int))]) (L' := [(24, .seq .bool (List.set (List.replicate (Int.toNat (List.length a0 : Int)) false) (Int.toNat a1) true))]) (obs := []) (by kernel_rfl) (by kernel_rfl) (by kernel_rfl) allP0 ?_
    refine seqQ_norm ?_
    refine W_block (id := 0) (by kernel_rfl) ?_
    obtain ⟨v911, h912, h⟩ := bind_of h
    refine W_len (t := 0) (u := (.slice tI)) (xs := a0) (by kernel_rfl) (fun h915 => ?_)
    obtain ⟨h913, h914⟩ := forL_iter h915 h912
    refine W_mine 8 62 tI (by kernel_rfl) ?_
    refine W_weaken [0, 7, 8, 29, 30] [24, 62] (fr' := ((half_Counts_s110 a0) ((0 : Int), (List.set (List.replicate (Int.toNat (List.length a0 : Int)) false) (Int.toNat a1) true, []))).1) (L' := ((half_Counts_s110 a0) ((0 : Int), (List.set (List.replicate (Int.toNat (List.length a0 : Int)) false) (Int.toNat a1) true, []))).2) (by kernel_rfl) ?_
    refine W_cutK (W_loop (S := (half_Counts_s110 a0)) (J := (exQ (.exit 0) half_Counts_s111)) (by kernel_rfl) ?_ h913 _ v911 h914) ?_
    · rintro ⟨i606, x607⟩ s h
      refine W_seq (by kernel_rfl) ?_
      refine W_run 1 [] [0, 7, 8, 29, 30, 31] [24, 62] (fr' := [(0, aD (.slice (.slice tI)) a0), (7, .one (.slc 24)), (8, .one (.slc 62)), (29, aI (List.length a0 : Int)), (30, aI i606), (31, aB (decide (i606 < (List.length a0 : Int))))]) (L' := [(24, .seq .bool x607.1), (62, .seq tI x607.2)]) (obs := []) (by kernel_rfl) (by kernel_rfl) (by kernel_rfl) allP0 ?_
      refine seqQ_norm ?_
      refine W_seq (by kernel_rfl) ?_
      refine W_cond (o := .tmp 31) (b := decide (i606 < (List.length a0 : Int))) (by kernel_rfl) (by kernel_rfl) (fun h611 => ?_) (fun h611 => ?_)
      · replace h := stepL_true h611 h
        obtain ⟨v609, _, h610, h, rfl⟩ := h
        refine W_skip [0, 7, 8, 29, 30] [24, 62] (fr' := [(0, aD (.slice (.slice tI)) a0), (7, .one (.slc 24)), (8, .one (.slc 62)), (29, aI (List.length a0 : Int)), (30, aI i606)]) (L' := [(24, .seq .bool x607.1), (62, .seq tI x607.2)]) (by kernel_rfl) (by kernel_rfl) ?_
        refine seqQ_norm ?_
        refine W_seq (by kernel_rfl) ?_
        refine W_block (id := 1) (by kernel_rfl) ?_
        refine W_seq (by kernel_rfl) ?_
        refine W_run 1 [] [0, 7, 8, 9, 29, 30] [24, 62] (fr' := [(0, aD (.slice (.slice tI)) a0), (7, .one (.slc 24)), (8, .one (.slc 62)), (9, aI (0 : Int)), (29, aI (List.length a0 : Int)), (30, aI i606)]) (L' := [(24, .seq .bool x607.1), (62, .seq tI x607.2)]) (obs := []) (by kernel_rfl) (by kernel_rfl) (by kernel_rfl) allP0 ?_
        refine seqQ_norm ?_
        refine W_seq (by kernel_rfl) ?_
        refine W_region (by kernel_rfl) ?_
        refine WO_run (j := 1) (k := 1) (orcs := []) (kF := [0, 7, 8, 9, 29, 30, 32]) (kL := [24, 62]) (fr' := [(0, aD (.slice (.slice tI)) a0), (7, .one (.slc 24)), (8, .one (.slc 62)), (9, aI (0 : Int)), (29, aI (List.length a0 : Int)), (30, aI i606), (32, .one (.slc 24))]) (L' := [(24, .seq .bool x607.1), (62, .seq tI x607.2)]) (obs := []) rfl (by kernel_rfl) allP0 ?_
        obtain ⟨r612, h613, h⟩ := bind_of h
        refine WO_frz 24 (by kernel_rfl) ?_
        refine WO_call1 (us := [none]) (d := 33) (t := 33) (p := True) (j := 2) rfl ⟨by kernel_rfl, by kernel_rfl, by kernel_rfl⟩ trivial (slices_Clone_Lboolbool_i2_ok h613) (by kernel_rfl) ?_
        refine WO_run (j := 3) (k := 1) (orcs := []) (kF := [0, 7, 8, 9, 10, 29, 30]) (kL := [33, 62]) (fr' := [(0, aD (.slice (.slice tI)) a0), (7, aD (.slice .bool) x607.1), (8, .one (.slc 62)), (9, aI (0 : Int)), (10, .one (.slc 33)), (29, aI (List.length a0 : Int)), (30, aI i606)]) (L' := [(33, .seq .bool r612), (62, .seq tI x607.2)]) (obs := []) rfl (by kernel_rfl) allP0 ?_
        refine WO_fin [0, 7, 8, 9, 10, 29, 30] [62, 33] (fr' := [(0, aD (.slice (.slice tI)) a0), (7, aD (.slice .bool) x607.1), (8, .one (.slc 62)), (9, aI (0 : Int)), (10, .one (.slc 33)), (29, aI (List.length a0 : Int)), (30, aI i606)]) (L' := [(62, .seq tI x607.2), (33, .seq .bool r612)]) (by kernel_rfl) (by kernel_rfl) ?_
        refine seqQ_norm ?_
        refine W_seq (by kernel_rfl) ?_
        refine W_seq (by kernel_rfl) ?_
        refine W_run 3 [] [0, 8, 9, 10, 29, 30, 34, 35, 36] [62, 33] (fr' := [(0, aD (.slice (.slice tI)) a0), (8, .one (.slc 62)), (9, aI (0 : Int)), (10, .one (.slc 33)), (29, aI (List.length a0 : Int)), (30, aI i606), (34, aD (.slice .bool) x607.1), (35, aI (List.length x607.1 : Int)), (36, aI (0 : Int))]) (L' := [(62, .seq tI x607.2), (33, .seq .bool r612)]) (obs := []) (by kernel_rfl) (by kernel_rfl) (by kernel_rfl) allP0 ?_
        refine seqQ_norm ?_
        refine W_block (id := 2) (by kernel_rfl) ?_
        obtain ⟨v904, h905, h⟩ := bind_of h
        refine W_len (t := 34) (u := .bool) (xs := x607.1) (by kernel_rfl) (fun h908 => ?_)
        obtain ⟨h906, h907⟩ := forL_iter h908 h905
        refine W_weaken [0, 8, 9, 10, 29, 30, 34, 35, 36] [62, 33] (fr' := ((half_Counts_s107 a0 i606 x607) ((0 : Int), ((0 : Int), r612))).1) (L' := ((half_Counts_s107 a0 i606 x607) ((0 : Int), ((0 : Int), r612))).2) (by kernel_rfl) ?_
        refine W_cutK (W_loop (S := (half_Counts_s107 a0 i606 x607)) (J := (exQ (.exit 2) (half_Counts_s108 a0 i606 x607))) (by kernel_rfl) ?_ h906 _ v904 h907) ?_
        · rintro ⟨i808, x809⟩ s h
          refine W_seq (by kernel_rfl) ?_
          refine W_run 1 [] [0, 8, 9, 10, 29, 30, 34, 35, 36, 37] [62, 33] (fr' := [(0, aD (.slice (.slice tI)) a0), (8, .one (.slc 62)), (9, aI x809.1), (10, .one (.slc 33)), (29, aI (List.length a0 : Int)), (30, aI i606), (34, aD (.slice .bool) x607.1), (35, aI (List.length x607.1 : Int)), (36, aI i808), (37, aB (decide (i808 < (List.length x607.1 : Int))))]) (L' := [(62, .seq tI x607.2), (33, .seq .bool x809.2)]) (obs := []) (by kernel_rfl) (by kernel_rfl) (by kernel_rfl) allP0 ?_
          refine seqQ_norm ?_
          refine W_seq (by kernel_rfl) ?_
          refine W_cond (o := .tmp 37) (b := decide (i808 < (List.length x607.1 : Int))) (by kernel_rfl) (by kernel_rfl) (fun h813 => ?_) (fun h813 => ?_)
          · replace h := stepL_true h813 h
            obtain ⟨v811, _, h812, h, rfl⟩ := h
            refine W_skip [0, 8, 9, 10, 29, 30, 34, 35, 36] [62, 33] (fr' := [(0, aD (.slice (.slice tI)) a0), (8, .one (.slc 62)), (9, aI x809.1), (10, .one (.slc 33)), (29, aI (List.length a0 : Int)), (30, aI i606), (34, aD (.slice .bool) x607.1), (35, aI (List.length x607.1 : Int)), (36, aI i808)]) (L' := [(62, .seq tI x607.2), (33, .seq .bool x809.2)]) (by kernel_rfl) (by kernel_rfl) ?_
            refine seqQ_norm ?_
            refine W_seq (by kernel_rfl) ?_
            obtain ⟨v901, h902, h⟩ := bind_of h
            refine W_cutK (Q' := (exQ .normal (half_Counts_s105 a0 i606 x607 i808)) v901) ?_ ?_
            · replace h := h902
              refine W_block (id := 3) (by kernel_rfl) ?_
              refine W_seq (by kernel_rfl) ?_
              refine W_run 5 [(3, .val (.dat .bool v811))] [0, 8, 9, 10, 11, 12, 29, 30, 34, 35, 36] [62, 33] (fr' := [(0, aD (.slice (.slice tI)) a0), (8, .one (.slc 62)), (9, aI x809.1), (10, .one (.slc 33)), (11, aI i808), (12, aB v811), (29, aI (List.length a0 : Int)), (30, aI i606), (34, aD (.slice .bool) x607.1), (35, aI (List.length x607.1 : Int)), (36, aI i808)]) (L' := [(62, .seq tI x607.2), (33, .seq .bool x809.2)]) (obs := [Idx x607.1 i808 v811]) (by kernel_rfl) (by kernel_rfl) (by kernel_rfl) (allP1 (Idx.of h812)) ?_
              refine seqQ_norm ?_
              refine W_seq (by kernel_rfl) ?_
              refine W_seq (by kernel_rfl) ?_
              refine W_run 2 [] [0, 8, 9, 10, 11, 29, 30, 34, 35, 36, 42] [62, 33] (fr' := [(0, aD (.slice (.slice tI)) a0), (8, .one (.slc 62)), (9, aI x809.1), (10, .one (.slc 33)), (11, aI i808), (29, aI (List.length a0 : Int)), (30, aI i606), (34, aD (.slice .bool) x607.1), (35, aI (List.length x607.1 : Int)), (36, aI i808), (42, aB (!v811))]) (L' := [(62, .seq tI x607.2), (33, .seq .bool x809.2)]) (obs := []) (by kernel_rfl) (by kernel_rfl) (by kernel_rfl) allP0 ?_
              refine seqQ_norm ?_
              refine W_cond (o := .tmp 42) (b := !v811) (by kernel_rfl) (by kernel_rfl) (fun h872 => ?_) (fun h872 => ?_)
              · replace h := ofT h872 h
                obtain rfl := Option.some.inj h
                refine W_exit (id := 3) [0, 8, 9, 10, 29, 30, 34, 35, 36] [62, 33] (fr' := [(0, aD (.slice (.slice tI)) a0), (8, .one (.slc 62)), (9, aI x809.1), (10, .one (.slc 33)), (29, aI (List.length a0 : Int)), (30, aI i606), (34, aD (.slice .bool) x607.1), (35, aI (List.length x607.1 : Int)), (36, aI i808)]) (L' := [(62, .seq tI x607.2), (33, .seq .bool x809.2)]) (by kernel_rfl) (by kernel_rfl) ?_
                refine seqQ_exit ?_
                refine blockQ_hit ?_
                exact exQ_mk (by kernel_rfl) (by kernel_rfl)
              · replace h := ofF h872 h
                refine W_skip [0, 8, 9, 10, 11, 29, 30, 34, 35, 36] [62, 33] (fr' := [(0, aD (.slice (.slice tI)) a0), (8, .one (.slc 62)), (9, aI x809.1), (10, .one (.slc 33)), (11, aI i808), (29, aI (List.length a0 : Int)), (30, aI i606), (34, aD (.slice .bool) x607.1), (35, aI (List.length x607.1 : Int)), (36, aI i808)]) (L' := [(62, .seq tI x607.2), (33, .seq .bool x809.2)]) (by kernel_rfl) (by kernel_rfl) ?_
                refine seqQ_norm ?_
                refine W_seq (by kernel_rfl) ?_
                refine W_run 3 [] [0, 8, 9, 10, 11, 29, 30, 34, 35, 36] [62, 33] (fr' := [(0, aD (.slice (.slice tI)) a0), (8, .one (.slc 62)), (9, aI (w64 (x809.1 + (1 : Int)))), (10, .one (.slc 33)), (11, aI i808), (29, aI (List.length a0 : Int)), (30, aI i606), (34, aD (.slice .bool) x607.1), (35, aI (List.length x607.1 : Int)), (36, aI i808)]) (L' := [(62, .seq tI x607.2), (33, .seq .bool x809.2)]) (obs := []) (by kernel_rfl) (by kernel_rfl) (by kernel_rfl) allP0 ?_
                refine seqQ_norm ?_
                refine W_seq (by kernel_rfl) ?_
                obtain ⟨v873, h874, h⟩ := bind_of h
                refine W_run 6 [(5, .val (.dat (.slice tI) v873))] [0, 8, 9, 10, 29, 30, 34, 35, 36, 48, 49, 50] [62, 33] (fr' := [(0, aD (.slice (.slice tI)) a0), (8, .one (.slc 62)), (9, aI (w64 (x809.1 + (1 : Int)))), (10, .one (.slc 33)), (29, aI (List.length a0 : Int)), (30, aI i606), (34, aD (.slice .bool) x607.1), (35, aI (List.length x607.1 : Int)), (36, aI i808), (48, aD (.slice tI) v873), (49, aI (List.length v873 : Int)), (50, aI (0 : Int))]) (L' := [(62, .seq tI x607.2), (33, .seq .bool x809.2)]) (obs := [Idx a0 i808 v873]) (by kernel_rfl) (by kernel_rfl) (by kernel_rfl) (allP1 (Idx.of h874)) ?_
                refine seqQ_norm ?_
                refine W_block (id := 4) (by kernel_rfl) ?_
                obtain ⟨v896, h897, h⟩ := bind_of h
                refine W_len (t := 48) (u := tI) (xs := v873) (by kernel_rfl) (fun h900 => ?_)
                obtain ⟨h898, h899⟩ := forL_iter h900 h897
                refine W_weaken [0, 8, 9, 10, 29, 30, 34, 35, 36, 48, 49, 50] [62, 33] (fr' := ((half_Counts_s102 a0 i606 x607 i808 x809 v873) ((0 : Int), x809.2)).1) (L' := ((half_Counts_s102 a0 i606 x607 i808 x809 v873) ((0 : Int), x809.2)).2) (by kernel_rfl) ?_
                refine W_cutK (W_loop (S := (half_Counts_s102 a0 i606 x607 i808 x809 v873)) (J := (exQ (.exit 4) (half_Counts_s103 a0 i606 x607 i808 x809))) (by kernel_rfl) ?_ h898 _ v896 h899) ?_
                · rintro ⟨i887, x888⟩ s h
                  refine W_seq (by kernel_rfl) ?_
                  refine W_run 1 [] [0, 8, 9, 10, 29, 30, 34, 35, 36, 48, 49, 50, 51] [62, 33] (fr' := [(0, aD (.slice (.slice tI)) a0), (8, .one (.slc 62)), (9, aI (w64 (x809.1 + (1 : Int)))), (10, .one (.slc 33)), (29, aI (List.length a0 : Int)), (30, aI i606), (34, aD (.slice .bool) x607.1), (35, aI (List.length x607.1 : Int)), (36, aI i808), (48, aD (.slice tI) v873), (49, aI (List.length v873 : Int)), (50, aI i887), (51, aB (decide (i887 < (List.length v873 : Int))))]) (L' := [(62, .seq tI x607.2), (33, .seq .bool x888)]) (obs := []) (by kernel_rfl) (by kernel_rfl) (by kernel_rfl) allP0 ?_
                  refine seqQ_norm ?_
                  refine W_seq (by kernel_rfl) ?_
                  refine W_cond (o := .tmp 51) (b := decide (i887 < (List.length v873 : Int))) (by kernel_rfl) (by kernel_rfl) (fun h892 => ?_) (fun h892 => ?_)
                  · replace h := stepL_true h892 h
                    obtain ⟨v890, _, h891, h, rfl⟩ := h
                    refine W_skip [0, 8, 9, 10, 29, 30, 34, 35, 36, 48, 49, 50] [62, 33] (fr' := [(0, aD (.slice (.slice tI)) a0), (8, .one (.slc 62)), (9, aI (w64 (x809.1 + (1 : Int)))), (10, .one (.slc 33)), (29, aI (List.length a0 : Int)), (30, aI i606), (34, aD (.slice .bool) x607.1), (35, aI (List.length x607.1 : Int)), (36, aI i808), (48, aD (.slice tI) v873), (49, aI (List.length v873 : Int)), (50, aI i887)]) (L' := [(62, .seq tI x607.2), (33, .seq .bool x888)]) (by kernel_rfl) (by kernel_rfl) ?_
                    refine seqQ_norm ?_
                    refine W_seq (by kernel_rfl) ?_
                    refine W_block (id := 5) (by kernel_rfl) ?_
                    refine W_seq (by kernel_rfl) ?_
                    refine W_run 3 [(1, .val (.dat tI v890))] [0, 8, 9, 10, 14, 29, 30, 34, 35, 36, 48, 49, 50] [62, 33] (fr' := [(0, aD (.slice (.slice tI)) a0), (8, .one (.slc 62)), (9, aI (w64 (x809.1 + (1 : Int)))), (10, .one (.slc 33)), (14, aI v890), (29, aI (List.length a0 : Int)), (30, aI i606), (34, aD (.slice .bool) x607.1), (35, aI (List.length x607.1 : Int)), (36, aI i808), (48, aD (.slice tI) v873), (49, aI (List.length v873 : Int)), (50, aI i887)]) (L' := [(62, .seq tI x607.2), (33, .seq .bool x888)]) (obs := [Idx v873 i887 v890]) (by kernel_rfl) (by kernel_rfl) (by kernel_rfl) (allP1 (Idx.of h891)) ?_
                    refine seqQ_norm ?_
                    obtain ⟨v893, h894, h⟩ := bind_of h
                    refine W_run 4 [] [0, 8, 9, 10, 29, 30, 34, 35, 36, 48, 49, 50] [62, 33] (fr' := [(0, aD (.slice (.slice tI)) a0), (8, .one (.slc 62)), (9, aI (w64 (x809.1 + (1 : Int)))), (10, .one (.slc 33)), (29, aI (List.length a0 : Int)), (30, aI i606), (34, aD (.slice .bool) x607.1), (35, aI (List.length x607.1 : Int)), (36, aI i808), (48, aD (.slice tI) v873), (49, aI (List.length v873 : Int)), (50, aI i887)]) (L' := [(62, .seq tI x607.2), (33, .seq .bool (List.set x888 (Int.toNat v890) true))]) (obs := [InR v890 (List.length x888), InR v890 (List.length x888)]) (by kernel_rfl) (by kernel_rfl) (by kernel_rfl) (allP2 (InR.of h894) (allP1 (InR.of h894))) ?_
                    refine blockQ_norm ?_
                    refine seqQ_norm ?_
                    obtain rfl := Option.some.inj h
                    refine W_run 2 [] [0, 8, 9, 10, 29, 30, 34, 35, 36, 48, 49, 50] [62, 33] (fr' := [(0, aD (.slice (.slice tI)) a0), (8, .one (.slc 62)), (9, aI (w64 (x809.1 + (1 : Int)))), (10, .one (.slc 33)), (29, aI (List.length a0 : Int)), (30, aI i606), (34, aD (.slice .bool) x607.1), (35, aI (List.length x607.1 : Int)), (36, aI i808), (48, aD (.slice tI) v873), (49, aI (List.length v873 : Int)), (50, aI (w64 (i887 + (1 : Int))))]) (L' := [(62, .seq tI x607.2), (33, .seq .bool (List.set x888 (Int.toNat v890) true))]) (obs := []) (by kernel_rfl) (by kernel_rfl) (by kernel_rfl) allP0 ?_
                    exact round_next' (by kernel_rfl) (by kernel_rfl)
                  · obtain rfl := stepL_false h892 h
                    refine W_exit (id := 4) [0, 8, 9, 10, 29, 30, 34, 35, 36] [62, 33] (fr' := [(0, aD (.slice (.slice tI)) a0), (8, .one (.slc 62)), (9, aI (w64 (x809.1 + (1 : Int)))), (10, .one (.slc 33)), (29, aI (List.length a0 : Int)), (30, aI i606), (34, aD (.slice .bool) x607.1), (35, aI (List.length x607.1 : Int)), (36, aI i808)]) (L' := [(62, .seq tI x607.2), (33, .seq .bool x888)]) (by kernel_rfl) (by kernel_rfl) ?_
                    refine seqQ_exit ?_
                    refine round_exit ?_
                    exact exQ_mk (by kernel_rfl) (by kernel_rfl)
                · intro e fr L hJ
                  obtain ⟨rfl, rfl, rfl⟩ := hJ
                  obtain rfl := Option.some.inj h
                  refine LT_keep [0, 8, 9, 10, 29, 30, 34, 35, 36] [62, 33] (fr' := [(0, aD (.slice (.slice tI)) a0), (8, .one (.slc 62)), (9, aI (w64 (x809.1 + (1 : Int)))), (10, .one (.slc 33)), (29, aI (List.length a0 : Int)), (30, aI i606), (34, aD (.slice .bool) x607.1), (35, aI (List.length x607.1 : Int)), (36, aI i808)]) (L' := [(62, .seq tI x607.2), (33, .seq .bool v896)]) (by kernel_rfl) ?_
                  refine blockQ_hit ?_
                  refine blockQ_norm ?_
                  exact exQ_mk (by kernel_rfl) (by kernel_rfl)
            · intro e fr L hJ
              obtain ⟨rfl, rfl, rfl⟩ := hJ
              refine LT_keep [0, 8, 9, 10, 29, 30, 34, 35, 36] [62, 33] (fr' := [(0, aD (.slice (.slice tI)) a0), (8, .one (.slc 62)), (9, aI v901.1), (10, .one (.slc 33)), (29, aI (List.length a0 : Int)), (30, aI i606), (34, aD (.slice .bool) x607.1), (35, aI (List.length x607.1 : Int)), (36, aI i808)]) (L' := [(62, .seq tI x607.2), (33, .seq .bool v901.2)]) (by kernel_rfl) ?_
              refine seqQ_norm ?_
              obtain rfl := Option.some.inj h
              refine W_run 2 [] [0, 8, 9, 10, 29, 30, 34, 35, 36] [62, 33] (fr' := [(0, aD (.slice (.slice tI)) a0), (8, .one (.slc 62)), (9, aI v901.1), (10, .one (.slc 33)), (29, aI (List.length a0 : Int)), (30, aI i606), (34, aD (.slice .bool) x607.1), (35, aI (List.length x607.1 : Int)), (36, aI (w64 (i808 + (1 : Int))))]) (L' := [(62, .seq tI x607.2), (33, .seq .bool v901.2)]) (obs := []) (by kernel_rfl) (by kernel_rfl) (by kernel_rfl) allP0 ?_
              exact round_next' (by kernel_rfl) (by kernel_rfl)
          · obtain rfl := stepL_false h813 h
            refine W_exit (id := 2) [0, 8, 9, 10, 29, 30] [62, 33] (fr' := [(0, aD (.slice (.slice tI)) a0), (8, .one (.slc 62)), (9, aI x809.1), (10, .one (.slc 33)), (29, aI (List.length a0 : Int)), (30, aI i606)]) (L' := [(62, .seq tI x607.2), (33, .seq .bool x809.2)]) (by kernel_rfl) (by kernel_rfl) ?_
            refine seqQ_exit ?_
            refine round_exit ?_
            exact exQ_mk (by kernel_rfl) (by kernel_rfl)
        · intro e fr L hJ
          obtain ⟨rfl, rfl, rfl⟩ := hJ
          refine LT_keep [0, 8, 9, 10, 29, 30] [62, 33] (fr' := [(0, aD (.slice (.slice tI)) a0), (8, .one (.slc 62)), (9, aI v904.1), (10, .one (.slc 33)), (29, aI (List.length a0 : Int)), (30, aI i606)]) (L' := [(62, .seq tI x607.2), (33, .seq .bool v904.2)]) (by kernel_rfl) ?_
          refine blockQ_hit ?_
          refine seqQ_norm ?_
          refine W_seq (by kernel_rfl) ?_
          obtain ⟨_, h909, h⟩ := bind_of h
          replace h909 := ck_some h909
          refine W_run 5 [] [0, 8, 10, 29, 30] [62, 33] (fr' := [(0, aD (.slice (.slice tI)) a0), (8, .one (.slc 62)), (10, .one (.slc 33)), (29, aI (List.length a0 : Int)), (30, aI i606)]) (L' := [(62, .seq tI (x607.2 ++ [v904.1])), (33, .seq .bool v904.2)]) (obs := [SmallLen (List.length x607.2 + List.length [v904.1])]) (by kernel_rfl) (by kernel_rfl) (by kernel_rfl) (allP1 h909) ?_
          refine seqQ_norm ?_
          refine W_run 2 [] [0, 7, 8, 29, 30] [33, 62] (fr' := [(0, aD (.slice (.slice tI)) a0), (7, .one (.slc 33)), (8, .one (.slc 62)), (29, aI (List.length a0 : Int)), (30, aI i606)]) (L' := [(33, .seq .bool v904.2), (62, .seq tI (x607.2 ++ [v904.1]))]) (obs := []) (by kernel_rfl) (by kernel_rfl) (by kernel_rfl) allP0 ?_
          refine blockQ_norm ?_
          refine seqQ_norm ?_
          refine W_region (by kernel_rfl) ?_
          refine WO_run (j := 2) (k := 2) (orcs := []) (kF := [0, 7, 8, 29, 30]) (kL := [33, 62]) (fr' := [(0, aD (.slice (.slice tI)) a0), (7, .one (.slc 33)), (8, .one (.slc 62)), (29, aI (List.length a0 : Int)), (30, aI (w64 (i606 + (1 : Int))))]) (L' := [(33, .seq .bool v904.2), (62, .seq tI (x607.2 ++ [v904.1]))]) (obs := []) rfl (by kernel_rfl) allP0 ?_
          obtain rfl := Option.some.inj h
          refine WO_ren 33 24 (by kernel_rfl) ?_
          refine WO_fin [0, 7, 8, 29, 30] [24, 62] (fr' := [(0, aD (.slice (.slice tI)) a0), (7, .one (.slc 24)), (8, .one (.slc 62)), (29, aI (List.length a0 : Int)), (30, aI (w64 (i606 + (1 : Int))))]) (L' := [(24, .seq .bool v904.2), (62, .seq tI (x607.2 ++ [v904.1]))]) (by kernel_rfl) (by kernel_rfl) ?_
          exact round_next' (by kernel_rfl) (by kernel_rfl)
      · obtain rfl := stepL_false h611 h
        refine W_exit (id := 0) [8] [62] (fr' := [(8, .one (.slc 62))]) (L' := [(62, .seq tI x607.2)]) (by kernel_rfl) (by kernel_rfl) ?_
        refine seqQ_exit ?_
        refine round_exit ?_
        exact exQ_mk (by kernel_rfl) (by kernel_rfl)
    · intro e fr L hJ
      obtain ⟨rfl, rfl, rfl⟩ := hJ
      refine LT_keep [8] [62] (fr' := [(8, .one (.slc 62))]) (L' := [(62, .seq tI v911)]) (by kernel_rfl) ?_
      refine blockQ_hit ?_
      refine seqQ_norm ?_
      refine W_seq (by kernel_rfl) ?_
      refine W_run 3 [] [4, 5] [62] (fr' := [(4, .one (.slc 62)), (5, aI (0 : Int))]) (L' := [(62, .seq tI v911)]) (obs := []) (by kernel_rfl) (by kernel_rfl) (by kernel_rfl) allP0 ?_
      refine seqQ_norm ?_
      obtain rfl := Option.some.inj h
      refine W_frz 62 (by kernel_rfl) ?_
      refine W_ret [4, 5] [] (fr' := [(4, aD (.slice tI) v911), (5, aI (0 : Int))]) (L' := []) (by kernel_rfl) (by kernel_rfl) ?_
      exact retQ_mk (by kernel_rfl) (by kernel_rfl) (by kernel_rfl)

def ref_Within (a0 : Int) (a1 : Int) (a2 : Int) : Option Bool :=
some ((decide (a0 ≤ a1)) && (decide (a1 ≤ a2)))
theorem ref_Within_ok {a0 : Int} {a1 : Int} {a2 : Int} {r : Bool} (h : ref_Within a0 a1 a2 = some r) : FnC Try.prog 20 [aI a0, aI a1, aI a2] [] (aB r) [] := by
  refine fnC_of_W (B := bodyOf Try.f20) (n := 15) Try.func20 (by kernel_rfl) (by kernel_rfl) (by kernel_rfl) (by kernel_rfl) (by kernel_rfl) ?_
  intro K
  refine W_seq (by kernel_rfl) ?_
  refine W_run 1 [] [0, 1, 2] [] (fr' := [(0, aI a0), (1, aI a1), (2, aI a2)]) (L' := []) (obs := []) (by kernel_rfl) (by kernel_rfl) (by kernel_rfl) allP0 ?_
  refine seqQ_norm ?_
  refine W_seq (by kernel_rfl) ?_
  refine W_run 9 [] [6] [] (fr' := [(6, aB ((decide (a0 ≤ a1)) && (decide (a1 ≤ a2))))]) (L' := []) (obs := []) (by kernel_rfl) (by kernel_rfl) (by kernel_rfl) allP0 ?_
  refine seqQ_norm ?_
  obtain rfl := Option.some.inj h
  refine W_ret [6] [] (fr' := [(6, aB ((decide (a0 ≤ a1)) && (decide (a1 ≤ a2))))]) (L' := []) (by kernel_rfl) (by kernel_rfl) ?_
  exact retQ_mk (by kernel_rfl) (by kernel_rfl) (by kernel_rfl)

def ref_Inside_b1 (a0 : Int) (i11 : Int) (v14 : Int) (x12 : Unit) : Option (Flow Unit (Esc Bool Unit)) :=
bif (decide (v14 < (0 : Int))) || (decide (v14 ≥ a0)) then
(some (.done (.ret false)))
else
(some (.next ()))
@[reducible] def ref_Inside_s2 (a0 : Int) (a1 : (List Int)) (v : Int × Unit) : Fr × LL := ([(0, aI a0), (7, aD (.slice tI) a1), (8, aI (List.length a1 : Int)), (9, aI v.1)], [])
@[reducible] def ref_Inside_s3 (v : Bool) : Fr × LL := ([(4, aB v)], [])
@[reducible] def ref_Inside_s4 (v : Unit) : Fr × LL := ([], [])
def ref_Inside (a0 : Int) (a1 : (List Int)) : Option Bool :=
(forL (ref_Inside_b1 a0) (fun x12 => (.brk ())) a1 0 ()).bind fun v19 =>
match v19 with
| .ret v24 =>
(some v24)
| .brk v25 =>
(some true)
theorem ref_Inside_ok {a0 : Int} {a1 : (List Int)} {r : Bool} (h : ref_Inside a0 a1 = some r) : FnC Try.prog 60 [aI a0, aD (.slice tI) a1] [] (aB r) [] := by
  refine fnC_of_W (B := bodyOf Try.f60) (n := 21) Try.func60 (by kernel_rfl) (by kernel_rfl) (by kernel_rfl) (by kernel_rfl) (by kernel_rfl) ?_
  intro K
  refine W_seq (by kernel_rfl) ?_
  refine W_run 1 [] [0, 1] [] (fr' := [(0, aI a0), (1, aD (.slice tI) a1)]) (L' := []) (obs := []) (by kernel_rfl) (by kernel_rfl) (by kernel_rfl) allP0 ?_
  refine seqQ_norm ?_
  refine W_seq (by kernel_rfl) ?_
  refine W_seq (by kernel_rfl) ?_
  refine W_run 3 [] [0, 7, 8, 9] [] (fr' := [(0, aI a0), (7, aD (.slice tI) a1), (8, aI (List.length a1 : Int)), (9, aI (0 : Int))]) (L' := []) (obs := []) (by kernel_rfl) (by kernel_rfl) (by kernel_rfl) allP0 ?_
  refine seqQ_norm ?_
  refine W_block (id := 0) (by kernel_rfl) ?_
  obtain ⟨v19, h20, h⟩ := bind_of h
  refine W_len (t := 7) (u := tI) (xs := a1) (by kernel_rfl) (fun h23 => ?_)
  obtain ⟨h21, h22⟩ := forL_iter h23 h20
  refine W_weaken [0, 7, 8, 9] [] (fr' := ((ref_Inside_s2 a0 a1) ((0 : Int), ())).1) (L' := ((ref_Inside_s2 a0 a1) ((0 : Int), ())).2) (by kernel_rfl) ?_
  refine W_cutK (W_loop (S := (ref_Inside_s2 a0 a1)) (J := (escQ (exQ .ret ref_Inside_s3) (exQ (.exit 0) ref_Inside_s4))) (by kernel_rfl) ?_ h21 _ v19 h22) ?_
  · rintro ⟨i11, x12⟩ s h
    refine W_seq (by kernel_rfl) ?_
    refine W_run 1 [] [0, 7, 8, 9, 10] [] (fr' := [(0, aI a0), (7, aD (.slice tI) a1), (8, aI (List.length a1 : Int)), (9, aI i11), (10, aB (decide (i11 < (List.length a1 : Int))))]) (L' := []) (obs := []) (by kernel_rfl) (by kernel_rfl) (by kernel_rfl) allP0 ?_
    refine seqQ_norm ?_
    refine W_seq (by kernel_rfl) ?_
    refine W_cond (o := .tmp 10) (b := decide (i11 < (List.length a1 : Int))) (by kernel_rfl) (by kernel_rfl) (fun h16 => ?_) (fun h16 => ?_)
    · replace h := stepL_true h16 h
      obtain ⟨v14, _, h15, h, rfl⟩ := h
      refine W_skip [0, 7, 8, 9] [] (fr' := [(0, aI a0), (7, aD (.slice tI) a1), (8, aI (List.length a1 : Int)), (9, aI i11)]) (L' := []) (by kernel_rfl) (by kernel_rfl) ?_
      refine seqQ_norm ?_
      refine W_seq (by kernel_rfl) ?_
      refine W_block (id := 1) (by kernel_rfl) ?_
      refine W_seq (by kernel_rfl) ?_
      refine W_run 3 [(1, .val (.dat tI v14))] [0, 6, 7, 8, 9] [] (fr' := [(0, aI a0), (6, aI v14), (7, aD (.slice tI) a1), (8, aI (List.length a1 : Int)), (9, aI i11)]) (L' := []) (obs := [Idx a1 i11 v14]) (by kernel_rfl) (by kernel_rfl) (by kernel_rfl) (allP1 (Idx.of h15)) ?_
      refine seqQ_norm ?_
      refine W_seq (by kernel_rfl) ?_
      refine W_run 7 [] [0, 7, 8, 9, 19] [] (fr' := [(0, aI a0), (7, aD (.slice tI) a1), (8, aI (List.length a1 : Int)), (9, aI i11), (19, aB ((decide (v14 < (0 : Int))) || (decide (v14 ≥ a0))))]) (L' := []) (obs := []) (by kernel_rfl) (by kernel_rfl) (by kernel_rfl) allP0 ?_
      refine seqQ_norm ?_
      refine W_cond (o := .tmp 19) (b := (decide (v14 < (0 : Int))) || (decide (v14 ≥ a0))) (by kernel_rfl) (by kernel_rfl) (fun h17 => ?_) (fun h17 => ?_)
      · replace h := ofT h17 h
        refine W_seq (by kernel_rfl) ?_
        refine W_run 1 [] [4] [] (fr' := [(4, aB false)]) (L' := []) (obs := []) (by kernel_rfl) (by kernel_rfl) (by kernel_rfl) allP0 ?_
        refine seqQ_norm ?_
        obtain rfl := Option.some.inj h
        refine W_ret [4] [] (fr' := [(4, aB false)]) (L' := []) (by kernel_rfl) (by kernel_rfl) ?_
        refine blockQ_ret ?_
        refine seqQ_ret ?_
        refine round_ret ?_
        refine escQ_ret ?_
        exact exQ_mk (by kernel_rfl) (by kernel_rfl)
      · replace h := ofF h17 h
        refine W_skip [0, 7, 8, 9] [] (fr' := [(0, aI a0), (7, aD (.slice tI) a1), (8, aI (List.length a1 : Int)), (9, aI i11)]) (L' := []) (by kernel_rfl) (by kernel_rfl) ?_
        refine blockQ_norm ?_
        refine seqQ_norm ?_
        obtain rfl := Option.some.inj h
        refine W_run 2 [] [0, 7, 8, 9] [] (fr' := [(0, aI a0), (7, aD (.slice tI) a1), (8, aI (List.length a1 : Int)), (9, aI (w64 (i11 + (1 : Int))))]) (L' := []) (obs := []) (by kernel_rfl) (by kernel_rfl) (by kernel_rfl) allP0 ?_
        exact round_next' (by kernel_rfl) (by kernel_rfl)
    · obtain rfl := stepL_false h16 h
      refine W_exit (id := 0) [] [] (fr' := []) (L' := []) (by kernel_rfl) (by kernel_rfl) ?_
      refine seqQ_exit ?_
      refine round_exit ?_
      refine escQ_brk ?_
      exact exQ_mk (by kernel_rfl) (by kernel_rfl)
  · intro e fr L hJ
    rcases v19 with v24 | v25
    · obtain ⟨rfl, rfl, rfl⟩ := hJ
      obtain rfl := Option.some.inj h
      refine LT_keep [4] [] (fr' := [(4, aB v24)]) (L' := []) (by kernel_rfl) ?_
      refine blockQ_ret ?_
      refine seqQ_ret ?_
      exact retQ_mk (by kernel_rfl) (by kernel_rfl) (by kernel_rfl)
    · obtain ⟨rfl, rfl, rfl⟩ := hJ
      refine LT_keep [] [] (fr' := []) (L' := []) (by kernel_rfl) ?_
      refine blockQ_hit ?_
      refine seqQ_norm ?_
      refine W_seq (by kernel_rfl) ?_
      refine W_run 1 [] [4] [] (fr' := [(4, aB true)]) (L' := []) (obs := []) (by kernel_rfl) (by kernel_rfl) (by kernel_rfl) allP0 ?_
      refine seqQ_norm ?_
      obtain rfl := Option.some.inj h
      refine W_ret [4] [] (fr' := [(4, aB true)]) (L' := []) (by kernel_rfl) (by kernel_rfl) ?_
      exact retQ_mk (by kernel_rfl) (by kernel_rfl) (by kernel_rfl)

def ref_NextsCheck_b1 (i14 : Int) (v17 : (List Int)) (x15 : Unit) : Option (Flow Unit (Esc Int Unit)) :=
bif decide ((List.length v17 : Int) > (4 : Int)) then
(some (.done (.ret (1 : Int))))
else
(some (.next ()))
@[reducible] def ref_NextsCheck_s2 (a0 : (List (List Int))) (a1 : (List Int)) (v : Int × Unit) : Fr × LL := ([(0, aD (.slice (.slice tI)) a0), (1, aD (.slice tI) a1), (13, aD (.slice (.slice tI)) a0), (14, aI (List.length a0 : Int)), (15, aI v.1)], [])
@[reducible] def ref_NextsCheck_s3 (v : Int) : Fr × LL := ([(4, aI v)], [])
@[reducible] def ref_NextsCheck_s4 (a0 : (List (List Int))) (a1 : (List Int)) (v : Unit) : Fr × LL := ([(0, aD (.slice (.slice tI)) a0), (1, aD (.slice tI) a1)], [])
def ref_NextsCheck_b5 (a0 : (List (List Int))) (i43 : Int) (v46 : (List Int)) (x44 : Unit) : Option (Flow Unit (Esc Int Unit)) :=
(ref_Inside (List.length a0 : Int) v46).bind fun r49 =>
bif !r49 then
(some (.done (.ret (2 : Int))))
else
(some (.next ()))
@[reducible] def ref_NextsCheck_s6 (a0 : (List (List Int))) (a1 : (List Int)) (v : Int × Unit) : Fr × LL := ([(0, aD (.slice (.slice tI)) a0), (1, aD (.slice tI) a1), (23, aD (.slice (.slice tI)) a0), (24, aI (List.length a0 : Int)), (25, aI v.1)], [])
@[reducible] def ref_NextsCheck_s7 (v : Int) : Fr × LL := ([(4, aI v)], [])
@[reducible] def ref_NextsCheck_s8 (a0 : (List (List Int))) (a1 : (List Int)) (v : Unit) : Fr × LL := ([(0, aD (.slice (.slice tI)) a0), (1, aD (.slice tI) a1)], [])
def ref_NextsCheck (a0 : (List (List Int))) (a1 : (List Int)) : Option Int :=
(ref_Within (1 : Int) (List.length a0 : Int) (8 : Int)).bind fun r1 =>
bif !r1 then
(some (1 : Int))
else
((forL ref_NextsCheck_b1 (fun x15 => (.brk ())) a0 0 ()).bind fun v22 =>
match v22 with
| .ret v27 =>
(some v27)
| .brk v28 =>
((forL (ref_NextsCheck_b5 a0) (fun x44 => (.brk ())) a0 0 ()).bind fun v53 =>
match v53 with
| .ret v58 =>
(some v58)
| .brk v59 =>
((ref_Inside (List.length a0 : Int) a1).bind fun r60 =>
bif !r60 then
(some (2 : Int))
else
(some (0 : Int)))))
theorem ref_NextsCheck_ok {a0 : (List (List Int))} {a1 : (List Int)} {r : Int} (h : ref_NextsCheck a0 a1 = some r) : FnC Try.prog 38 [aD (.slice (.slice tI)) a0, aD (.slice tI) a1] [] (aI r) [] := by
  refine fnC_of_W (B := bodyOf Try.f38) (n := 40) Try.func38 (by kernel_rfl) (by kernel_rfl) (by kernel_rfl) (by kernel_rfl) (by kernel_rfl) ?_
  intro K
  refine W_seq (by kernel_rfl) ?_
  refine W_run 1 [] [0, 1] [] (fr' := [(0, aD (.slice (.slice tI)) a0), (1, aD (.slice tI) a1)]) (L' := []) (obs := []) (by kernel_rfl) (by kernel_rfl) (by kernel_rfl) allP0 ?_
  refine seqQ_norm ?_
  refine W_seq (by kernel_rfl) ?_
  refine W_seq (by kernel_rfl) ?_
  refine W_region (by kernel_rfl) ?_
  refine WO_run (j := 2) (k := 2) (orcs := []) (kF := [0, 1, 10]) (kL := []) (fr' := [(0, aD (.slice (.slice tI)) a0), (1, aD (.slice tI) a1), (10, aI (List.length a0 : Int))]) (L' := []) (obs := []) rfl (by kernel_rfl) allP0 ?_
  obtain ⟨r1, h2, h⟩ := bind_of h
  refine WO_call0 (us := [none, none, none]) (d := 11) (p := True) (j := 3) rfl ⟨by kernel_rfl, by kernel_rfl, by kernel_rfl⟩ trivial (ref_Within_ok h2) (by kernel_rfl) ?_
  refine WO_run (j := 4) (k := 1) (orcs := []) (kF := [0, 1, 12]) (kL := []) (fr' := [(0, aD (.slice (.slice tI)) a0), (1, aD (.slice tI) a1), (12, aB (!r1))]) (L' := []) (obs := []) rfl (by kernel_rfl) allP0 ?_
  refine WO_fin [0, 1, 12] [] (fr' := [(0, aD (.slice (.slice tI)) a0), (1, aD (.slice tI) a1), (12, aB (!r1))]) (L' := []) (by kernel_rfl) (by kernel_rfl) ?_
  refine seqQ_norm ?_
  refine W_cond (o := .tmp 12) (b := !r1) (by kernel_rfl) (by kernel_rfl) (fun h3 => ?_) (fun h3 => ?_)
  · replace h := ofT h3 h
    refine W_seq (by kernel_rfl) ?_
    refine W_run 1 [] [4] [] (fr' := [(4, aI (1 : Int))]) (L' := []) (obs := []) (by kernel_rfl) (by kernel_rfl) (by kernel_rfl) allP0 ?_
    refine seqQ_norm ?_
    obtain rfl := Option.some.inj h
    refine W_ret [4] [] (fr' := [(4, aI (1 : Int))]) (L' := []) (by kernel_rfl) (by kernel_rfl) ?_
    refine seqQ_ret ?_
    exact retQ_mk (by kernel_rfl) (by kernel_rfl) (by kernel_rfl)
  · replace h := ofF h3 h
    refine W_skip [0, 1] [] (fr' := [(0, aD (.slice (.slice tI)) a0), (1, aD (.slice tI) a1)]) (L' := []) (by kernel_rfl) (by kernel_rfl) ?_
    refine seqQ_norm ?_
    refine W_seq (by kernel_rfl) ?_
    refine W_seq (by kernel_rfl) ?_
    refine W_run 3 [] [0, 1, 13, 14, 15] [] (fr' := [(0, aD (.slice (.slice tI)) a0), (1, aD (.slice tI) a1), (13, aD (.slice (.slice tI)) a0), (14, aI (List.length a0 : Int)), (15, aI (0 : Int))]) (L' := []) (obs := []) (by kernel_rfl) (by kernel_rfl) (by kernel_rfl) allP0 ?_
    refine seqQ_norm ?_
    refine W_block (id := 0) (by kernel_rfl) ?_
    obtain ⟨v22, h23, h⟩ := bind_of h
    refine W_len (t := 13) (u := (.slice tI)) (xs := a0) (by kernel_rfl) (fun h26 => ?_)
    obtain ⟨h24, h25⟩ := forL_iter h26 h23
    refine W_weaken [0, 1, 13, 14, 15] [] (fr' := ((ref_NextsCheck_s2 a0 a1) ((0 : Int), ())).1) (L' := ((ref_NextsCheck_s2 a0 a1) ((0 : Int), ())).2) (by kernel_rfl) ?_
    refine W_cutK (W_loop (S := (ref_NextsCheck_s2 a0 a1)) (J := (escQ (exQ .ret ref_NextsCheck_s3) (exQ (.exit 0) (ref_NextsCheck_s4 a0 a1)))) (by kernel_rfl) ?_ h24 _ v22 h25) ?_
    · rintro ⟨i14, x15⟩ s h
      refine W_seq (by kernel_rfl) ?_
      refine W_run 1 [] [0, 1, 13, 14, 15, 16] [] (fr' := [(0, aD (.slice (.slice tI)) a0), (1, aD (.slice tI) a1), (13, aD (.slice (.slice tI)) a0), (14, aI (List.length a0 : Int)), (15, aI i14), (16, aB (decide (i14 < (List.length a0 : Int))))]) (L' := []) (obs := []) (by kernel_rfl) (by kernel_rfl) (by kernel_rfl) allP0 ?_
      refine seqQ_norm ?_
      refine W_seq (by kernel_rfl) ?_
      refine W_cond (o := .tmp 16) (b := decide (i14 < (List.length a0 : Int))) (by kernel_rfl) (by kernel_rfl) (fun h19 => ?_) (fun h19 => ?_)
      · replace h := stepL_true h19 h
        obtain ⟨v17, _, h18, h, rfl⟩ := h
        refine W_skip [0, 1, 13, 14, 15] [] (fr' := [(0, aD (.slice (.slice tI)) a0), (1, aD (.slice tI) a1), (13, aD (.slice (.slice tI)) a0), (14, aI (List.length a0 : Int)), (15, aI i14)]) (L' := []) (by kernel_rfl) (by kernel_rfl) ?_
        refine seqQ_norm ?_
        refine W_seq (by kernel_rfl) ?_
        refine W_block (id := 1) (by kernel_rfl) ?_
        refine W_seq (by kernel_rfl) ?_
        refine W_run 3 [(1, .val (.dat (.slice tI) v17))] [0, 1, 6, 13, 14, 15] [] (fr' := [(0, aD (.slice (.slice tI)) a0), (1, aD (.slice tI) a1), (6, aD (.slice tI) v17), (13, aD (.slice (.slice tI)) a0), (14, aI (List.length a0 : Int)), (15, aI i14)]) (L' := []) (obs := [Idx a0 i14 v17]) (by kernel_rfl) (by kernel_rfl) (by kernel_rfl) (allP1 (Idx.of h18)) ?_
        refine seqQ_norm ?_
        refine W_seq (by kernel_rfl) ?_
        refine W_run 3 [] [0, 1, 13, 14, 15, 21] [] (fr' := [(0, aD (.slice (.slice tI)) a0), (1, aD (.slice tI) a1), (13, aD (.slice (.slice tI)) a0), (14, aI (List.length a0 : Int)), (15, aI i14), (21, aB (decide ((List.length v17 : Int) > (4 : Int))))]) (L' := []) (obs := []) (by kernel_rfl) (by kernel_rfl) (by kernel_rfl) allP0 ?_
        refine seqQ_norm ?_
        refine W_cond (o := .tmp 21) (b := decide ((List.length v17 : Int) > (4 : Int))) (by kernel_rfl) (by kernel_rfl) (fun h20 => ?_) (fun h20 => ?_)
        · replace h := ofT h20 h
          refine W_seq (by kernel_rfl) ?_
          refine W_run 1 [] [4] [] (fr' := [(4, aI (1 : Int))]) (L' := []) (obs := []) (by kernel_rfl) (by kernel_rfl) (by kernel_rfl) allP0 ?_
          refine seqQ_norm ?_
          obtain rfl := Option.some.inj h
          refine W_ret [4] [] (fr' := [(4, aI (1 : Int))]) (L' := []) (by kernel_rfl) (by kernel_rfl) ?_
          refine blockQ_ret ?_
          refine seqQ_ret ?_
          refine round_ret ?_
          refine escQ_ret ?_
          exact exQ_mk (by kernel_rfl) (by kernel_rfl)
        · replace h := ofF h20 h
          refine W_skip [0, 1, 13, 14, 15] [] (fr' := [(0, aD (.slice (.slice tI)) a0), (1, aD (.slice tI) a1), (13, aD (.slice (.slice tI)) a0), (14, aI (List.length a0 : Int)), (15, aI i14)]) (L' := []) (by kernel_rfl) (by kernel_rfl) ?_
          refine blockQ_norm ?_
          refine seqQ_norm ?_
          obtain rfl := Option.some.inj h
          refine W_run 2 [] [0, 1, 13, 14, 15] [] (fr' := [(0, aD (.slice (.slice tI)) a0), (1, aD (.slice tI) a1), (13, aD (.slice (.slice tI)) a0), (14, aI (List.length a0 : Int)), (15, aI (w64 (i14 + (1 : Int))))]) (L' := []) (obs := []) (by kernel_rfl) (by kernel_rfl) (by kernel_rfl) allP0 ?_
          exact round_next' (by kernel_rfl) (by kernel_rfl)
      · obtain rfl := stepL_false h19 h
        refine W_exit (id := 0) [0, 1] [] (fr' := [(0, aD (.slice (.slice tI)) a0), (1, aD (.slice tI) a1)]) (L' := []) (by kernel_rfl) (by kernel_rfl) ?_
        refine seqQ_exit ?_
        refine round_exit ?_
        refine escQ_brk ?_
        exact exQ_mk (by kernel_rfl) (by kernel_rfl)
    · intro e fr L hJ
      rcases v22 with v27 | v28
      · obtain ⟨rfl, rfl, rfl⟩ := hJ
        obtain rfl := Option.some.inj h
        refine LT_keep [4] [] (fr' := [(4, aI v27)]) (L' := []) (by kernel_rfl) ?_
        refine blockQ_ret ?_
        refine seqQ_ret ?_
        exact retQ_mk (by kernel_rfl) (by kernel_rfl) (by kernel_rfl)
      · obtain ⟨rfl, rfl, rfl⟩ := hJ
        refine LT_keep [0, 1] [] (fr' := [(0, aD (.slice (.slice tI)) a0), (1, aD (.slice tI) a1)]) (L' := []) (by kernel_rfl) ?_
        refine blockQ_hit ?_
        refine seqQ_norm ?_
        refine W_seq (by kernel_rfl) ?_
        refine W_seq (by kernel_rfl) ?_
        refine W_run 3 [] [0, 1, 23, 24, 25] [] (fr' := [(0, aD (.slice (.slice tI)) a0), (1, aD (.slice tI) a1), (23, aD (.slice (.slice tI)) a0), (24, aI (List.length a0 : Int)), (25, aI (0 : Int))]) (L' := []) (obs := []) (by kernel_rfl) (by kernel_rfl) (by kernel_rfl) allP0 ?_
        refine seqQ_norm ?_
        refine W_block (id := 2) (by kernel_rfl) ?_
        obtain ⟨v53, h54, h⟩ := bind_of h
        refine W_len (t := 23) (u := (.slice tI)) (xs := a0) (by kernel_rfl) (fun h57 => ?_)
        obtain ⟨h55, h56⟩ := forL_iter h57 h54
        refine W_weaken [0, 1, 23, 24, 25] [] (fr' := ((ref_NextsCheck_s6 a0 a1) ((0 : Int), ())).1) (L' := ((ref_NextsCheck_s6 a0 a1) ((0 : Int), ())).2) (by kernel_rfl) ?_
        refine W_cutK (W_loop (S := (ref_NextsCheck_s6 a0 a1)) (J := (escQ (exQ .ret ref_NextsCheck_s7) (exQ (.exit 2) (ref_NextsCheck_s8 a0 a1)))) (by kernel_rfl) ?_ h55 _ v53 h56) ?_
        · rintro ⟨i43, x44⟩ s h
          refine W_seq (by kernel_rfl) ?_
          refine W_run 1 [] [0, 1, 23, 24, 25, 26] [] (fr' := [(0, aD (.slice (.slice tI)) a0), (1, aD (.slice tI) a1), (23, aD (.slice (.slice tI)) a0), (24, aI (List.length a0 : Int)), (25, aI i43), (26, aB (decide (i43 < (List.length a0 : Int))))]) (L' := []) (obs := []) (by kernel_rfl) (by kernel_rfl) (by kernel_rfl) allP0 ?_
          refine seqQ_norm ?_
          refine W_seq (by kernel_rfl) ?_
          refine W_cond (o := .tmp 26) (b := decide (i43 < (List.length a0 : Int))) (by kernel_rfl) (by kernel_rfl) (fun h48 => ?_) (fun h48 => ?_)
          · replace h := stepL_true h48 h
            obtain ⟨v46, _, h47, h, rfl⟩ := h
            refine W_skip [0, 1, 23, 24, 25] [] (fr' := [(0, aD (.slice (.slice tI)) a0), (1, aD (.slice tI) a1), (23, aD (.slice (.slice tI)) a0), (24, aI (List.length a0 : Int)), (25, aI i43)]) (L' := []) (by kernel_rfl) (by kernel_rfl) ?_
            refine seqQ_norm ?_
            refine W_seq (by kernel_rfl) ?_
            refine W_block (id := 3) (by kernel_rfl) ?_
            refine W_seq (by kernel_rfl) ?_
            refine W_run 3 [(1, .val (.dat (.slice tI) v46))] [0, 1, 8, 23, 24, 25] [] (fr' := [(0, aD (.slice (.slice tI)) a0), (1, aD (.slice tI) a1), (8, aD (.slice tI) v46), (23, aD (.slice (.slice tI)) a0), (24, aI (List.length a0 : Int)), (25, aI i43)]) (L' := []) (obs := [Idx a0 i43 v46]) (by kernel_rfl) (by kernel_rfl) (by kernel_rfl) (allP1 (Idx.of h47)) ?_
            refine seqQ_norm ?_
            refine W_seq (by kernel_rfl) ?_
            refine W_region (by kernel_rfl) ?_
            refine WO_run (j := 3) (k := 3) (orcs := []) (kF := [0, 1, 23, 24, 25, 30, 31]) (kL := []) (fr' := [(0, aD (.slice (.slice tI)) a0), (1, aD (.slice tI) a1), (23, aD (.slice (.slice tI)) a0), (24, aI (List.length a0 : Int)), (25, aI i43), (30, aI (List.length a0 : Int)), (31, aD (.slice tI) v46)]) (L' := []) (obs := []) rfl (by kernel_rfl) allP0 ?_
            obtain ⟨r49, h50, h⟩ := bind_of h
            refine WO_call0 (us := [none, none]) (d := 32) (p := True) (j := 4) rfl ⟨by kernel_rfl, by kernel_rfl, by kernel_rfl⟩ trivial (ref_Inside_ok h50) (by kernel_rfl) ?_
            refine WO_run (j := 5) (k := 1) (orcs := []) (kF := [0, 1, 23, 24, 25, 33]) (kL := []) (fr' := [(0, aD (.slice (.slice tI)) a0), (1, aD (.slice tI) a1), (23, aD (.slice (.slice tI)) a0), (24, aI (List.length a0 : Int)), (25, aI i43), (33, aB (!r49))]) (L' := []) (obs := []) rfl (by kernel_rfl) allP0 ?_
            refine WO_fin [0, 1, 23, 24, 25, 33] [] (fr' := [(0, aD (.slice (.slice tI)) a0), (1, aD (.slice tI) a1), (23, aD (.slice (.slice tI)) a0), (24, aI (List.length a0 : Int)), (25, aI i43), (33, aB (!r49))]) (L' := []) (by kernel_rfl) (by kernel_rfl) ?_
            refine seqQ_norm ?_
            refine W_cond (o := .tmp 33) (b := !r49) (by kernel_rfl) (by kernel_rfl) (fun h51 => ?_) (fun h51 => ?_)
            · replace h := ofT h51 h
              refine W_seq (by kernel_rfl) ?_
              refine W_run 1 [] [4] [] (fr' := [(4, aI (2 : Int))]) (L' := []) (obs := []) (by kernel_rfl) (by kernel_rfl) (by kernel_rfl) allP0 ?_
              refine seqQ_norm ?_
              obtain rfl := Option.some.inj h
              refine W_ret [4] [] (fr' := [(4, aI (2 : Int))]) (L' := []) (by kernel_rfl) (by kernel_rfl) ?_
              refine blockQ_ret ?_
              refine seqQ_ret ?_
              refine round_ret ?_
              refine escQ_ret ?_
              exact exQ_mk (by kernel_rfl) (by kernel_rfl)
            · replace h := ofF h51 h
              refine W_skip [0, 1, 23, 24, 25] [] (fr' := [(0, aD (.slice (.slice tI)) a0), (1, aD (.slice tI) a1), (23, aD (.slice (.slice tI)) a0), (24, aI (List.length a0 : Int)), (25, aI i43)]) (L' := []) (by kernel_rfl) (by kernel_rfl) ?_
              refine blockQ_norm ?_
              refine seqQ_norm ?_
              obtain rfl := Option.some.inj h
              refine W_run 2 [] [0, 1, 23, 24, 25] [] (fr' := [(0, aD (.slice (.slice tI)) a0), (1, aD (.slice tI) a1), (23, aD (.slice (.slice tI)) a0), (24, aI (List.length a0 : Int)), (25, aI (w64 (i43 + (1 : Int))))]) (L' := []) (obs := []) (by kernel_rfl) (by kernel_rfl) (by kernel_rfl) allP0 ?_
              exact round_next' (by kernel_rfl) (by kernel_rfl)
          · obtain rfl := stepL_false h48 h
            refine W_exit (id := 2) [0, 1] [] (fr' := [(0, aD (.slice (.slice tI)) a0), (1, aD (.slice tI) a1)]) (L' := []) (by kernel_rfl) (by kernel_rfl) ?_
            refine seqQ_exit ?_
            refine round_exit ?_
            refine escQ_brk ?_
            exact exQ_mk (by kernel_rfl) (by kernel_rfl)
        · intro e fr L hJ
          rcases v53 with v58 | v59
          · obtain ⟨rfl, rfl, rfl⟩ := hJ
            obtain rfl := Option.some.inj h
            refine LT_keep [4] [] (fr' := [(4, aI v58)]) (L' := []) (by kernel_rfl) ?_
            refine blockQ_ret ?_
            refine seqQ_ret ?_
            exact retQ_mk (by kernel_rfl) (by kernel_rfl) (by kernel_rfl)
          · obtain ⟨rfl, rfl, rfl⟩ := hJ
            refine LT_keep [0, 1] [] (fr' := [(0, aD (.slice (.slice tI)) a0), (1, aD (.slice tI) a1)]) (L' := []) (by kernel_rfl) ?_
            refine blockQ_hit ?_
            refine seqQ_norm ?_
            refine W_seq (by kernel_rfl) ?_
            refine W_seq (by kernel_rfl) ?_
            refine W_region (by kernel_rfl) ?_
            refine WO_run (j := 3) (k := 3) (orcs := []) (kF := [36, 37]) (kL := []) (fr' := [(36, aI (List.length a0 : Int)), (37, aD (.slice tI) a1)]) (L' := []) (obs := []) rfl (by kernel_rfl) allP0 ?_
            obtain ⟨r60, h61, h⟩ := bind_of h
            refine WO_call0 (us := [none, none]) (d := 38) (p := True) (j := 4) rfl ⟨by kernel_rfl, by kernel_rfl, by kernel_rfl⟩ trivial (ref_Inside_ok h61) (by kernel_rfl) ?_
            refine WO_run (j := 5) (k := 1) (orcs := []) (kF := [39]) (kL := []) (fr' := [(39, aB (!r60))]) (L' := []) (obs := []) rfl (by kernel_rfl) allP0 ?_
            refine WO_fin [39] [] (fr' := [(39, aB (!r60))]) (L' := []) (by kernel_rfl) (by kernel_rfl) ?_
            refine seqQ_norm ?_
            refine W_cond (o := .tmp 39) (b := !r60) (by kernel_rfl) (by kernel_rfl) (fun h62 => ?_) (fun h62 => ?_)
            · replace h := ofT h62 h
              refine W_seq (by kernel_rfl) ?_
              refine W_run 1 [] [4] [] (fr' := [(4, aI (2 : Int))]) (L' := []) (obs := []) (by kernel_rfl) (by kernel_rfl) (by kernel_rfl) allP0 ?_
              refine seqQ_norm ?_
              obtain rfl := Option.some.inj h
              refine W_ret [4] [] (fr' := [(4, aI (2 : Int))]) (L' := []) (by kernel_rfl) (by kernel_rfl) ?_
              refine seqQ_ret ?_
              exact retQ_mk (by kernel_rfl) (by kernel_rfl) (by kernel_rfl)
            · replace h := ofF h62 h
              refine W_skip [] [] (fr' := []) (L' := []) (by kernel_rfl) (by kernel_rfl) ?_
              refine seqQ_norm ?_
              refine W_seq (by kernel_rfl) ?_
              refine W_run 1 [] [4] [] (fr' := [(4, aI (0 : Int))]) (L' := []) (obs := []) (by kernel_rfl) (by kernel_rfl) (by kernel_rfl) allP0 ?_
              refine seqQ_norm ?_
              obtain rfl := Option.some.inj h
              refine W_ret [4] [] (fr' := [(4, aI (0 : Int))]) (L' := []) (by kernel_rfl) (by kernel_rfl) ?_
              exact retQ_mk (by kernel_rfl) (by kernel_rfl) (by kernel_rfl)

def ref_Has_b1 (a1 : Int) (i11 : Int) (v14 : Int) (x12 : Unit) : Option (Flow Unit (Esc Bool Unit)) :=
bif a1 == v14 then
(some (.done (.ret true)))
else
(some (.next ()))
@[reducible] def ref_Has_s2 (a1 : Int) (c0 : (List Int)) (v : Int × Unit) : Fr × LL := ([(1, aI a1), (7, .one (.slc 1000)), (8, aI (List.length c0 : Int)), (9, aI v.1)], [(1000, .seq tI c0)])
@[reducible] def ref_Has_s3 (c0 : (List Int)) (v : Bool) : Fr × LL := ([(4, aB v)], [(1000, .seq tI c0)])
@[reducible] def ref_Has_s4 (c0 : (List Int)) (v : Unit) : Fr × LL := ([], [(1000, .seq tI c0)])
def ref_Has (a1 : Int) (c0 : (List Int)) : Option Bool :=
(forL (ref_Has_b1 a1) (fun x12 => (.brk ())) c0 0 ()).bind fun v19 =>
match v19 with
| .ret v24 =>
(some v24)
| .brk v25 =>
(some false)
theorem ref_Has_ok {a1 : Int} {c0 : (List Int)} {r : Bool} (h : ref_Has a1 c0 = some r) : FnC Try.prog 47 [.one (.slc 1000), aI a1] [(1000, .seq tI c0)] (aB r) [(1000, .seq tI c0)] := by
  refine fnC_of_W (B := bodyOf Try.f47) (n := 17) Try.func47 (by kernel_rfl) (by kernel_rfl) (by kernel_rfl) (by kernel_rfl) (by kernel_rfl) ?_
  intro K
  refine W_seq (by kernel_rfl) ?_
  refine W_run 1 [] [0, 1] [1000] (fr' := [(0, .one (.slc 1000)), (1, aI a1)]) (L' := [(1000, .seq tI c0)]) (obs := []) (by kernel_rfl) (by kernel_rfl) (by kernel_rfl) allP0 ?_
  refine seqQ_norm ?_
  refine W_seq (by kernel_rfl) ?_
  refine W_seq (by kernel_rfl) ?_
  refine W_run 3 [] [1, 7, 8, 9] [1000] (fr' := [(1, aI a1), (7, .one (.slc 1000)), (8, aI (List.length c0 : Int)), (9, aI (0 : Int))]) (L' := [(1000, .seq tI c0)]) (obs := []) (by kernel_rfl) (by kernel_rfl) (by kernel_rfl) allP0 ?_
  refine seqQ_norm ?_
  refine W_block (id := 0) (by kernel_rfl) ?_
  obtain ⟨v19, h20, h⟩ := bind_of h
  refine W_lenS (s := 1000) (u := tI) (xs := c0) (by kernel_rfl) (fun h23 => ?_)
  obtain ⟨h21, h22⟩ := forL_iter h23 h20
  refine W_weaken [1, 7, 8, 9] [1000] (fr' := ((ref_Has_s2 a1 c0) ((0 : Int), ())).1) (L' := ((ref_Has_s2 a1 c0) ((0 : Int), ())).2) (by kernel_rfl) ?_
  refine W_cutK (W_loop (S := (ref_Has_s2 a1 c0)) (J := (escQ (exQ .ret (ref_Has_s3 c0)) (exQ (.exit 0) (ref_Has_s4 c0)))) (by kernel_rfl) ?_ h21 _ v19 h22) ?_
  · rintro ⟨i11, x12⟩ s h
    refine W_seq (by kernel_rfl) ?_
    refine W_run 1 [] [1, 7, 8, 9, 10] [1000] (fr' := [(1, aI a1), (7, .one (.slc 1000)), (8, aI (List.length c0 : Int)), (9, aI i11), (10, aB (decide (i11 < (List.length c0 : Int))))]) (L' := [(1000, .seq tI c0)]) (obs := []) (by kernel_rfl) (by kernel_rfl) (by kernel_rfl) allP0 ?_
    refine seqQ_norm ?_
    refine W_seq (by kernel_rfl) ?_
    refine W_cond (o := .tmp 10) (b := decide (i11 < (List.length c0 : Int))) (by kernel_rfl) (by kernel_rfl) (fun h16 => ?_) (fun h16 => ?_)
    · replace h := stepL_true h16 h
      obtain ⟨v14, _, h15, h, rfl⟩ := h
      refine W_skip [1, 7, 8, 9] [1000] (fr' := [(1, aI a1), (7, .one (.slc 1000)), (8, aI (List.length c0 : Int)), (9, aI i11)]) (L' := [(1000, .seq tI c0)]) (by kernel_rfl) (by kernel_rfl) ?_
      refine seqQ_norm ?_
      refine W_seq (by kernel_rfl) ?_
      refine W_block (id := 1) (by kernel_rfl) ?_
      refine W_seq (by kernel_rfl) ?_
      refine W_run 3 [(3, .val (.dat tI v14))] [1, 6, 7, 8, 9] [1000] (fr' := [(1, aI a1), (6, aI v14), (7, .one (.slc 1000)), (8, aI (List.length c0 : Int)), (9, aI i11)]) (L' := [(1000, .seq tI c0)]) (obs := [InR i11 (List.length c0), Idx c0 i11 v14]) (by kernel_rfl) (by kernel_rfl) (by kernel_rfl) (allP2 (InR.of h15) (allP1 (Idx.of h15))) ?_
      refine seqQ_norm ?_
      refine W_seq (by kernel_rfl) ?_
      refine W_run 3 [] [1, 7, 8, 9, 15] [1000] (fr' := [(1, aI a1), (7, .one (.slc 1000)), (8, aI (List.length c0 : Int)), (9, aI i11), (15, aB (a1 == v14))]) (L' := [(1000, .seq tI c0)]) (obs := []) (by kernel_rfl) (by kernel_rfl) (by kernel_rfl) allP0 ?_
      refine seqQ_norm ?_
      refine W_cond (o := .tmp 15) (b := a1 == v14) (by kernel_rfl) (by kernel_rfl) (fun h17 => ?_) (fun h17 => ?_)
      · replace h := ofT h17 h
        refine W_seq (by kernel_rfl) ?_
        refine W_run 1 [] [4] [1000] (fr' := [(4, aB true)]) (L' := [(1000, .seq tI c0)]) (obs := []) (by kernel_rfl) (by kernel_rfl) (by kernel_rfl) allP0 ?_
        refine seqQ_norm ?_
        obtain rfl := Option.some.inj h
        refine W_ret [4] [1000] (fr' := [(4, aB true)]) (L' := [(1000, .seq tI c0)]) (by kernel_rfl) (by kernel_rfl) ?_
        refine blockQ_ret ?_
        refine seqQ_ret ?_
        refine round_ret ?_
        refine escQ_ret ?_
        exact exQ_mk (by kernel_rfl) (by kernel_rfl)
      · replace h := ofF h17 h
        refine W_skip [1, 7, 8, 9] [1000] (fr' := [(1, aI a1), (7, .one (.slc 1000)), (8, aI (List.length c0 : Int)), (9, aI i11)]) (L' := [(1000, .seq tI c0)]) (by kernel_rfl) (by kernel_rfl) ?_
        refine blockQ_norm ?_
        refine seqQ_norm ?_
        obtain rfl := Option.some.inj h
        refine W_run 2 [] [1, 7, 8, 9] [1000] (fr' := [(1, aI a1), (7, .one (.slc 1000)), (8, aI (List.length c0 : Int)), (9, aI (w64 (i11 + (1 : Int))))]) (L' := [(1000, .seq tI c0)]) (obs := []) (by kernel_rfl) (by kernel_rfl) (by kernel_rfl) allP0 ?_
        exact round_next' (by kernel_rfl) (by kernel_rfl)
    · obtain rfl := stepL_false h16 h
      refine W_exit (id := 0) [] [1000] (fr' := []) (L' := [(1000, .seq tI c0)]) (by kernel_rfl) (by kernel_rfl) ?_
      refine seqQ_exit ?_
      refine round_exit ?_
      refine escQ_brk ?_
      exact exQ_mk (by kernel_rfl) (by kernel_rfl)
  · intro e fr L hJ
    rcases v19 with v24 | v25
    · obtain ⟨rfl, rfl, rfl⟩ := hJ
      obtain rfl := Option.some.inj h
      refine LT_keep [4] [1000] (fr' := [(4, aB v24)]) (L' := [(1000, .seq tI c0)]) (by kernel_rfl) ?_
      refine blockQ_ret ?_
      refine seqQ_ret ?_
      exact retQ_mk (by kernel_rfl) (by kernel_rfl) (by kernel_rfl)
    · obtain ⟨rfl, rfl, rfl⟩ := hJ
      refine LT_keep [] [1000] (fr' := []) (L' := [(1000, .seq tI c0)]) (by kernel_rfl) ?_
      refine blockQ_hit ?_
      refine seqQ_norm ?_
      refine W_seq (by kernel_rfl) ?_
      refine W_run 1 [] [4] [1000] (fr' := [(4, aB false)]) (L' := [(1000, .seq tI c0)]) (obs := []) (by kernel_rfl) (by kernel_rfl) (by kernel_rfl) allP0 ?_
      refine seqQ_norm ?_
      obtain rfl := Option.some.inj h
      refine W_ret [4] [1000] (fr' := [(4, aB false)]) (L' := [(1000, .seq tI c0)]) (by kernel_rfl) (by kernel_rfl) ?_
      exact retQ_mk (by kernel_rfl) (by kernel_rfl) (by kernel_rfl)

def ref_Has_i2_b1 (a1 : Int) (i11 : Int) (v14 : Int) (x12 : Unit) : Option (Flow Unit (Esc Bool Unit)) :=
bif a1 == v14 then
(some (.done (.ret true)))
else
(some (.next ()))
@[reducible] def ref_Has_i2_s2 (a0 : (List Int)) (a1 : Int) (v : Int × Unit) : Fr × LL := ([(1, aI a1), (7, aD (.slice tI) a0), (8, aI (List.length a0 : Int)), (9, aI v.1)], [])
@[reducible] def ref_Has_i2_s3 (v : Bool) : Fr × LL := ([(4, aB v)], [])
@[reducible] def ref_Has_i2_s4 (v : Unit) : Fr × LL := ([], [])
def ref_Has_i2 (a0 : (List Int)) (a1 : Int) : Option Bool :=
(forL (ref_Has_i2_b1 a1) (fun x12 => (.brk ())) a0 0 ()).bind fun v19 =>
match v19 with
| .ret v24 =>
(some v24)
| .brk v25 =>
(some false)
theorem ref_Has_i2_ok {a0 : (List Int)} {a1 : Int} {r : Bool} (h : ref_Has_i2 a0 a1 = some r) : FnC Try.prog 47 [aD (.slice tI) a0, aI a1] [] (aB r) [] := by
  refine fnC_of_W (B := bodyOf Try.f47) (n := 17) Try.func47 (by kernel_rfl) (by kernel_rfl) (by kernel_rfl) (by kernel_rfl) (by kernel_rfl) ?_
  intro K
  refine W_seq (by kernel_rfl) ?_
  refine W_run 1 [] [0, 1] [] (fr' := [(0, aD (.slice tI) a0), (1, aI a1)]) (L' := []) (obs := []) (by kernel_rfl) (by kernel_rfl) (by kernel_rfl) allP0 ?_
  refine seqQ_norm ?_
  refine W_seq (by kernel_rfl) ?_
  refine W_seq (by kernel_rfl) ?_
  refine W_run 3 [] [1, 7, 8, 9] [] (fr' := [(1, aI a1), (7, aD (.slice tI) a0), (8, aI (List.length a0 : Int)), (9, aI (0 : Int))]) (L' := []) (obs := []) (by kernel_rfl) (by kernel_rfl) (by kernel_rfl) allP0 ?_
  refine seqQ_norm ?_
  refine W_block (id := 0) (by kernel_rfl) ?_
  obtain ⟨v19, h20, h⟩ := bind_of h
  refine W_len (t := 7) (u := tI) (xs := a0) (by kernel_rfl) (fun h23 => ?_)
  obtain ⟨h21, h22⟩ := forL_iter h23 h20
  refine W_weaken [1, 7, 8, 9] [] (fr' := ((ref_Has_i2_s2 a0 a1) ((0 : Int), ())).1) (L' := ((ref_Has_i2_s2 a0 a1) ((0 : Int), ())).2) (by kernel_rfl) ?_
  refine W_cutK (W_loop (S := (ref_Has_i2_s2 a0 a1)) (J := (escQ (exQ .ret ref_Has_i2_s3) (exQ (.exit 0) ref_Has_i2_s4))) (by kernel_rfl) ?_ h21 _ v19 h22) ?_
  · rintro ⟨i11, x12⟩ s h
    refine W_seq (by kernel_rfl) ?_
    refine W_run 1 [] [1, 7, 8, 9, 10] [] (fr' := [(1, aI a1), (7, aD (.slice tI) a0), (8, aI (List.length a0 : Int)), (9, aI i11), (10, aB (decide (i11 < (List.length a0 : Int))))]) (L' := []) (obs := []) (by kernel_rfl) (by kernel_rfl) (by kernel_rfl) allP0 ?_
    refine seqQ_norm ?_
    refine W_seq (by kernel_rfl) ?_
    refine W_cond (o := .tmp 10) (b := decide (i11 < (List.length a0 : Int))) (by kernel_rfl) (by kernel_rfl) (fun h16 => ?_) (fun h16 => ?_)
    · replace h := stepL_true h16 h
      obtain ⟨v14, _, h15, h, rfl⟩ := h
      refine W_skip [1, 7, 8, 9] [] (fr' := [(1, aI a1), (7, aD (.slice tI) a0), (8, aI (List.length a0 : Int)), (9, aI i11)]) (L' := []) (by kernel_rfl) (by kernel_rfl) ?_
      refine seqQ_norm ?_
      refine W_seq (by kernel_rfl) ?_
      refine W_block (id := 1) (by kernel_rfl) ?_
      refine W_seq (by kernel_rfl) ?_
      refine W_run 3 [(1, .val (.dat tI v14))] [1, 6, 7, 8, 9] [] (fr' := [(1, aI a1), (6, aI v14), (7, aD (.slice tI) a0), (8, aI (List.length a0 : Int)), (9, aI i11)]) (L' := []) (obs := [Idx a0 i11 v14]) (by kernel_rfl) (by kernel_rfl) (by kernel_rfl) (allP1 (Idx.of h15)) ?_
      refine seqQ_norm ?_
      refine W_seq (by kernel_rfl) ?_
      refine W_run 3 [] [1, 7, 8, 9, 15] [] (fr' := [(1, aI a1), (7, aD (.slice tI) a0), (8, aI (List.length a0 : Int)), (9, aI i11), (15, aB (a1 == v14))]) (L' := []) (obs := []) (by kernel_rfl) (by kernel_rfl) (by kernel_rfl) allP0 ?_
      refine seqQ_norm ?_
      refine W_cond (o := .tmp 15) (b := a1 == v14) (by kernel_rfl) (by kernel_rfl) (fun h17 => ?_) (fun h17 => ?_)
      · replace h := ofT h17 h
        refine W_seq (by kernel_rfl) ?_
        refine W_run 1 [] [4] [] (fr' := [(4, aB true)]) (L' := []) (obs := []) (by kernel_rfl) (by kernel_rfl) (by kernel_rfl) allP0 ?_
        refine seqQ_norm ?_
        obtain rfl := Option.some.inj h
        refine W_ret [4] [] (fr' := [(4, aB true)]) (L' := []) (by kernel_rfl) (by kernel_rfl) ?_
        refine blockQ_ret ?_
        refine seqQ_ret ?_
        refine round_ret ?_
        refine escQ_ret ?_
        exact exQ_mk (by kernel_rfl) (by kernel_rfl)
      · replace h := ofF h17 h
        refine W_skip [1, 7, 8, 9] [] (fr' := [(1, aI a1), (7, aD (.slice tI) a0), (8, aI (List.length a0 : Int)), (9, aI i11)]) (L' := []) (by kernel_rfl) (by kernel_rfl) ?_
        refine blockQ_norm ?_
        refine seqQ_norm ?_
        obtain rfl := Option.some.inj h
        refine W_run 2 [] [1, 7, 8, 9] [] (fr' := [(1, aI a1), (7, aD (.slice tI) a0), (8, aI (List.length a0 : Int)), (9, aI (w64 (i11 + (1 : Int))))]) (L' := []) (obs := []) (by kernel_rfl) (by kernel_rfl) (by kernel_rfl) allP0 ?_
        exact round_next' (by kernel_rfl) (by kernel_rfl)
    · obtain rfl := stepL_false h16 h
      refine W_exit (id := 0) [] [] (fr' := []) (L' := []) (by kernel_rfl) (by kernel_rfl) ?_
      refine seqQ_exit ?_
      refine round_exit ?_
      refine escQ_brk ?_
      exact exQ_mk (by kernel_rfl) (by kernel_rfl)
  · intro e fr L hJ
    rcases v19 with v24 | v25
    · obtain ⟨rfl, rfl, rfl⟩ := hJ
      obtain rfl := Option.some.inj h
      refine LT_keep [4] [] (fr' := [(4, aB v24)]) (L' := []) (by kernel_rfl) ?_
      refine blockQ_ret ?_
      refine seqQ_ret ?_
      exact retQ_mk (by kernel_rfl) (by kernel_rfl) (by kernel_rfl)
    · obtain ⟨rfl, rfl, rfl⟩ := hJ
      refine LT_keep [] [] (fr' := []) (L' := []) (by kernel_rfl) ?_
      refine blockQ_hit ?_
      refine seqQ_norm ?_
      refine W_seq (by kernel_rfl) ?_
      refine W_run 1 [] [4] [] (fr' := [(4, aB false)]) (L' := []) (obs := []) (by kernel_rfl) (by kernel_rfl) (by kernel_rfl) allP0 ?_
      refine seqQ_norm ?_
      obtain rfl := Option.some.inj h
      refine W_ret [4] [] (fr' := [(4, aB false)]) (L' := []) (by kernel_rfl) (by kernel_rfl) ?_
      exact retQ_mk (by kernel_rfl) (by kernel_rfl) (by kernel_rfl)

@[reducible] def ref_once_s4 (c0 : (List Int)) (i42 : Int) (v : (List Int)) : Fr × LL := ([(3, .one (.slc 19)), (6, .one (.slc 1000)), (7, aI (List.length c0 : Int)), (8, aI i42)], [(19, .seq tI v), (1000, .seq tI c0)])
def ref_once_b5 (i42 : Int) (v45 : Int) (x43 : (List Int)) : Option (Flow (List Int) (List Int)) :=
((ref_Has v45 x43).bind fun r56 =>
bif !r56 then
((ck ((List.length x43 : Int) + 1 ≤ 4294967296)).bind fun _ =>
some (x43 ++ [v45]))
else
(some x43)).bind fun v60 =>
some (.next v60)
@[reducible] def ref_once_s6 (c0 : (List Int)) (v : Int × (List Int)) : Fr × LL := ([(3, .one (.slc 19)), (6, .one (.slc 1000)), (7, aI (List.length c0 : Int)), (8, aI v.1)], [(19, .seq tI v.2), (1000, .seq tI c0)])
@[reducible] def ref_once_s7 (c0 : (List Int)) (v : (List Int)) : Fr × LL := ([(3, .one (.slc 19))], [(19, .seq tI v), (1000, .seq tI c0)])
def ref_once (c0 : (List Int)) : Option (List Int) :=
(forL ref_once_b5 (fun x43 => x43) c0 0 []).bind fun v63 =>
some v63
theorem ref_once_ok {c0 : (List Int)} {r : (List Int)} (h : ref_once c0 = some r) : FnC Try.prog 72 [.one (.slc 1000)] [(1000, .seq tI c0)] (aD (.slice tI) r) [(1000, .seq tI c0)] := by
  refine fnC_of_W (B := bodyOf Try.f72) (n := 22) Try.func72 (by kernel_rfl) (by kernel_rfl) (by kernel_rfl) (by kernel_rfl) (by kernel_rfl) ?_
  intro K
  refine W_seq (by kernel_rfl) ?_
  refine W_run 1 [] [0] [1000] (fr' := [(0, .one (.slc 1000))]) (L' := [(1000, .seq tI c0)]) (obs := []) (by kernel_rfl) (by kernel_rfl) (by kernel_rfl) allP0 ?_
  refine seqQ_norm ?_
  refine W_seq (by kernel_rfl) ?_
  refine W_run 1 [] [0, 3] [1000] (fr' := [(0, .one (.slc 1000)), (3, .one (.nilS))]) (L' := [(1000, .seq tI c0)]) (obs := []) (by kernel_rfl) (by kernel_rfl) (by kernel_rfl) allP0 ?_
  refine seqQ_norm ?_
  refine W_seq (by kernel_rfl) ?_
  refine W_seq (by kernel_rfl) ?_
  refine W_run 3 [] [3, 6, 7, 8] [1000] (fr' := [(3, .one (.nilS)), (6, .one (.slc 1000)), (7, aI (List.length c0 : Int)), (8, aI (0 : Int))]) (L' := [(1000, .seq tI c0)]) (obs := []) (by kernel_rfl) (by kernel_rfl) (by kernel_rfl) allP0 ?_
  refine seqQ_norm ?_
  refine W_block (id := 0) (by kernel_rfl) ?_
  obtain ⟨v63, h64, h⟩ := bind_of h
  refine W_lenS (s := 1000) (u := tI) (xs := c0) (by kernel_rfl) (fun h67 => ?_)
  obtain ⟨h65, h66⟩ := forL_iter h67 h64
  refine W_mine 3 19 tI (by kernel_rfl) ?_
  refine W_weaken [3, 6, 7, 8] [19, 1000] (fr' := ((ref_once_s6 c0) ((0 : Int), [])).1) (L' := ((ref_once_s6 c0) ((0 : Int), [])).2) (by kernel_rfl) ?_
  refine W_cutK (W_loop (S := (ref_once_s6 c0)) (J := (exQ (.exit 0) (ref_once_s7 c0))) (by kernel_rfl) ?_ h65 _ v63 h66) ?_
  · rintro ⟨i42, x43⟩ s h
    refine W_seq (by kernel_rfl) ?_
    refine W_run 1 [] [3, 6, 7, 8, 9] [19, 1000] (fr' := [(3, .one (.slc 19)), (6, .one (.slc 1000)), (7, aI (List.length c0 : Int)), (8, aI i42), (9, aB (decide (i42 < (List.length c0 : Int))))]) (L' := [(19, .seq tI x43), (1000, .seq tI c0)]) (obs := []) (by kernel_rfl) (by kernel_rfl) (by kernel_rfl) allP0 ?_
    refine seqQ_norm ?_
    refine W_seq (by kernel_rfl) ?_
    refine W_cond (o := .tmp 9) (b := decide (i42 < (List.length c0 : Int))) (by kernel_rfl) (by kernel_rfl) (fun h47 => ?_) (fun h47 => ?_)
    · replace h := stepL_true h47 h
      obtain ⟨v45, _, h46, h, rfl⟩ := h
      refine W_skip [3, 6, 7, 8] [19, 1000] (fr' := [(3, .one (.slc 19)), (6, .one (.slc 1000)), (7, aI (List.length c0 : Int)), (8, aI i42)]) (L' := [(19, .seq tI x43), (1000, .seq tI c0)]) (by kernel_rfl) (by kernel_rfl) ?_
      refine seqQ_norm ?_
      refine W_seq (by kernel_rfl) ?_
      obtain ⟨v60, h61, h⟩ := bind_of h
      refine W_cutK (Q' := (exQ .normal (ref_once_s4 c0 i42)) v60) ?_ ?_
      · replace h := h61
        refine W_block (id := 1) (by kernel_rfl) ?_
        refine W_seq (by kernel_rfl) ?_
        refine W_run 3 [(3, .val (.dat tI v45))] [3, 5, 6, 7, 8] [19, 1000] (fr' := [(3, .one (.slc 19)), (5, aI v45), (6, .one (.slc 1000)), (7, aI (List.length c0 : Int)), (8, aI i42)]) (L' := [(19, .seq tI x43), (1000, .seq tI c0)]) (obs := [InR i42 (List.length c0), Idx c0 i42 v45]) (by kernel_rfl) (by kernel_rfl) (by kernel_rfl) (allP2 (InR.of h46) (allP1 (Idx.of h46))) ?_
        refine seqQ_norm ?_
        refine W_seq (by kernel_rfl) ?_
        refine W_region (by kernel_rfl) ?_
        refine WO_run (j := 2) (k := 2) (orcs := []) (kF := [3, 5, 6, 7, 8, 12, 13]) (kL := [19, 1000]) (fr' := [(3, .one (.slc 19)), (5, aI v45), (6, .one (.slc 1000)), (7, aI (List.length c0 : Int)), (8, aI i42), (12, .one (.slc 19)), (13, aI v45)]) (L' := [(19, .seq tI x43), (1000, .seq tI c0)]) (obs := []) rfl (by kernel_rfl) allP0 ?_
        obtain ⟨r56, h57, h⟩ := bind_of h
        refine WO_lend [(1000, 19)] (us := [none, none]) (d := 14) (p := True) (j := 3) rfl ⟨by kernel_rfl, by kernel_rfl, by kernel_rfl⟩ trivial (ref_Has_ok h57) (by kernel_rfl) (by kernel_rfl) ?_
        refine WO_run (j := 4) (k := 1) (orcs := []) (kF := [3, 5, 6, 7, 8, 15]) (kL := [19, 1000]) (fr' := [(3, .one (.slc 19)), (5, aI v45), (6, .one (.slc 1000)), (7, aI (List.length c0 : Int)), (8, aI i42), (15, aB (!r56))]) (L' := [(19, .seq tI x43), (1000, .seq tI c0)]) (obs := []) rfl (by kernel_rfl) allP0 ?_
        refine WO_fin [3, 5, 6, 7, 8, 15] [19, 1000] (fr' := [(3, .one (.slc 19)), (5, aI v45), (6, .one (.slc 1000)), (7, aI (List.length c0 : Int)), (8, aI i42), (15, aB (!r56))]) (L' := [(19, .seq tI x43), (1000, .seq tI c0)]) (by kernel_rfl) (by kernel_rfl) ?_
        refine seqQ_norm ?_
        refine W_cond (o := .tmp 15) (b := !r56) (by kernel_rfl) (by kernel_rfl) (fun h58 => ?_) (fun h58 => ?_)
        · replace h := ofT h58 h
          obtain ⟨_, h59, h⟩ := bind_of h
          replace h59 := ck_some h59
          obtain rfl := Option.some.inj h
          refine W_run 5 [] [3, 6, 7, 8] [19, 1000] (fr' := [(3, .one (.slc 19)), (6, .one (.slc 1000)), (7, aI (List.length c0 : Int)), (8, aI i42)]) (L' := [(19, .seq tI (x43 ++ [v45])), (1000, .seq tI c0)]) (obs := [SmallLen (List.length x43 + List.length [v45])]) (by kernel_rfl) (by kernel_rfl) (by kernel_rfl) (allP1 h59) ?_
          refine blockQ_norm ?_
          exact exQ_mk (by kernel_rfl) (by kernel_rfl)
        · replace h := ofF h58 h
          obtain rfl := Option.some.inj h
          refine W_skip [3, 6, 7, 8] [19, 1000] (fr' := [(3, .one (.slc 19)), (6, .one (.slc 1000)), (7, aI (List.length c0 : Int)), (8, aI i42)]) (L' := [(19, .seq tI x43), (1000, .seq tI c0)]) (by kernel_rfl) (by kernel_rfl) ?_
          refine blockQ_norm ?_
          exact exQ_mk (by kernel_rfl) (by kernel_rfl)
      · intro e fr L hJ
        obtain ⟨rfl, rfl, rfl⟩ := hJ
        refine LT_keep [3, 6, 7, 8] [19, 1000] (fr' := [(3, .one (.slc 19)), (6, .one (.slc 1000)), (7, aI (List.length c0 : Int)), (8, aI i42)]) (L' := [(19, .seq tI v60), (1000, .seq tI c0)]) (by kernel_rfl) ?_
        refine seqQ_norm ?_
        obtain rfl := Option.some.inj h
        refine W_run 2 [] [3, 6, 7, 8] [19, 1000] (fr' := [(3, .one (.slc 19)), (6, .one (.slc 1000)), (7, aI (List.length c0 : Int)), (8, aI (w64 (i42 + (1 : Int))))]) (L' := [(19, .seq tI v60), (1000, .seq tI c0)]) (obs := []) (by kernel_rfl) (by kernel_rfl) (by kernel_rfl) allP0 ?_
        exact round_next' (by kernel_rfl) (by kernel_rfl)
    · obtain rfl := stepL_false h47 h
      refine W_exit (id := 0) [3] [19, 1000] (fr' := [(3, .one (.slc 19))]) (L' := [(19, .seq tI x43), (1000, .seq tI c0)]) (by kernel_rfl) (by kernel_rfl) ?_
      refine seqQ_exit ?_
      refine round_exit ?_
      exact exQ_mk (by kernel_rfl) (by kernel_rfl)
  · intro e fr L hJ
    obtain ⟨rfl, rfl, rfl⟩ := hJ
    refine LT_keep [3] [19, 1000] (fr' := [(3, .one (.slc 19))]) (L' := [(19, .seq tI v63), (1000, .seq tI c0)]) (by kernel_rfl) ?_
    refine blockQ_hit ?_
    refine seqQ_norm ?_
    refine W_seq (by kernel_rfl) ?_
    refine W_run 2 [] [2] [19, 1000] (fr' := [(2, .one (.slc 19))]) (L' := [(19, .seq tI v63), (1000, .seq tI c0)]) (obs := []) (by kernel_rfl) (by kernel_rfl) (by kernel_rfl) allP0 ?_
    refine seqQ_norm ?_
    obtain rfl := Option.some.inj h
    refine W_frz 19 (by kernel_rfl) ?_
    refine W_ret [2] [1000] (fr' := [(2, aD (.slice tI) v63)]) (L' := [(1000, .seq tI c0)]) (by kernel_rfl) (by kernel_rfl) ?_
    exact retQ_mk (by kernel_rfl) (by kernel_rfl) (by kernel_rfl)

def ref_Far_b7 (a0 : (List (List Int))) (i93 : Int) (v96 : Int) (x94 : (List Int)) : Option (Flow (List Int) (List Int)) :=
(idx a0 v96).bind fun v99 =>
(ck ((List.length x94 : Int) + (List.length v99 : Int) ≤ 4294967296)).bind fun _ =>
some (.next (x94 ++ v99))
@[reducible] def ref_Far_s8 (a0 : (List (List Int))) (a2 : Int) (x38 : ((List Int) × Int)) (v : Int × (List Int)) : Fr × LL := ([(0, aD (.slice (.slice tI)) a0), (2, aI a2), (8, aI x38.2), (9, .one (.slc 35)), (24, aD (.slice tI) x38.1), (25, aI (List.length x38.1 : Int)), (26, aI v.1)], [(35, .seq tI v.2)])
@[reducible] def ref_Far_s9 (a0 : (List (List Int))) (a2 : Int) (x38 : ((List Int) × Int)) (v : (List Int)) : Fr × LL := ([(0, aD (.slice (.slice tI)) a0), (2, aI a2), (8, aI x38.2), (9, .one (.slc 35))], [(35, .seq tI v)])
def ref_Far_b10 (a0 : (List (List Int))) (a2 : Int) (x38 : ((List Int) × Int)) : Option (Flow ((List Int) × Int) (Esc Int Unit)) :=
bif decide (x38.2 ≤ (List.length a0 : Int)) then
((ref_Has_i2 x38.1 a2).bind fun r76 =>
bif r76 then
(some (.done (.ret x38.2)))
else
((forL (ref_Far_b7 a0) (fun x94 => x94) x38.1 0 []).bind fun v103 =>
(ck ((0 : Int) + (List.length v103 : Int) ≤ 4294967296)).bind fun _ =>
(ref_once ([] ++ v103)).bind fun r109 =>
some (.next (r109, w64 (x38.2 + (1 : Int))))))
else
(some (.done (.brk ())))
@[reducible] def ref_Far_s11 (a0 : (List (List Int))) (a2 : Int) (v : ((List Int) × Int)) : Fr × LL := ([(0, aD (.slice (.slice tI)) a0), (2, aI a2), (7, aD (.slice tI) v.1), (8, aI v.2)], [])
@[reducible] def ref_Far_s12 (v : Int) : Fr × LL := ([(6, aI v)], [])
@[reducible] def ref_Far_s13 (v : Unit) : Fr × LL := ([], [])
def ref_Far (fuel : Nat) (a0 : (List (List Int))) (a1 : Int) (a2 : Int) : Option Int :=
(iter (ref_Far_b10 a0 a2) fuel ([a1], (0 : Int))).bind fun v111 =>
match v111 with
| .ret v115 =>
(some v115)
| .brk v116 =>
(some (-1 : Int))
theorem ref_Far_ok {fuel : Nat} {a0 : (List (List Int))} {a1 : Int} {a2 : Int} {r : Int} (h : ref_Far fuel a0 a1 a2 = some r) : FnC Try.prog 39 [aD (.slice (.slice tI)) a0, aI a1, aI a2] [] (aI r) [] := by
  refine fnC_of_W (B := bodyOf Try.f39) (n := 42) Try.func39 (by kernel_rfl) (by kernel_rfl) (by kernel_rfl) (by kernel_rfl) (by kernel_rfl) ?_
  intro K
  refine W_seq (by kernel_rfl) ?_
  refine W_run 1 [] [0, 1, 2] [] (fr' := [(0, aD (.slice (.slice tI)) a0), (1, aI a1), (2, aI a2)]) (L' := []) (obs := []) (by kernel_rfl) (by kernel_rfl) (by kernel_rfl) allP0 ?_
  refine seqQ_norm ?_
  refine W_seq (by kernel_rfl) ?_
  refine W_run 3 [] [0, 2, 7] [13] (fr' := [(0, aD (.slice (.slice tI)) a0), (2, aI a2), (7, .one (.slc 13))]) (L' := [(13, .seq tI [a1])]) (obs := []) (by kernel_rfl) (by kernel_rfl) (by kernel_rfl) allP0 ?_
  refine seqQ_norm ?_
  refine W_seq (by kernel_rfl) ?_
  refine W_seq (by kernel_rfl) ?_
  refine W_run 1 [] [0, 2, 7, 8] [13] (fr' := [(0, aD (.slice (.slice tI)) a0), (2, aI a2), (7, .one (.slc 13)), (8, aI (0 : Int))]) (L' := [(13, .seq tI [a1])]) (obs := []) (by kernel_rfl) (by kernel_rfl) (by kernel_rfl) allP0 ?_
  refine seqQ_norm ?_
  refine W_block (id := 0) (by kernel_rfl) ?_
  obtain ⟨v111, h112, h⟩ := bind_of h
  refine W_frz 13 (by kernel_rfl) ?_
  refine W_weaken [0, 2, 7, 8] [] (fr' := ((ref_Far_s11 a0 a2) ([a1], (0 : Int))).1) (L' := ((ref_Far_s11 a0 a2) ([a1], (0 : Int))).2) (by kernel_rfl) ?_
  refine W_cutK (W_loop (S := (ref_Far_s11 a0 a2)) (J := (escQ (exQ .ret ref_Far_s12) (exQ (.exit 0) ref_Far_s13))) (by kernel_rfl) ?_ fuel _ v111 h112) ?_
  · rintro x38 s h
    refine W_seq (by kernel_rfl) ?_
    refine W_seq (by kernel_rfl) ?_
    refine W_run 4 [] [0, 2, 7, 8, 17] [] (fr' := [(0, aD (.slice (.slice tI)) a0), (2, aI a2), (7, aD (.slice tI) x38.1), (8, aI x38.2), (17, aB (decide (x38.2 ≤ (List.length a0 : Int))))]) (L' := []) (obs := []) (by kernel_rfl) (by kernel_rfl) (by kernel_rfl) allP0 ?_
    refine seqQ_norm ?_
    refine W_cond (o := .tmp 17) (b := decide (x38.2 ≤ (List.length a0 : Int))) (by kernel_rfl) (by kernel_rfl) (fun h75 => ?_) (fun h75 => ?_)
    · replace h := ofT h75 h
      refine W_skip [0, 2, 7, 8] [] (fr' := [(0, aD (.slice (.slice tI)) a0), (2, aI a2), (7, aD (.slice tI) x38.1), (8, aI x38.2)]) (L' := []) (by kernel_rfl) (by kernel_rfl) ?_
      refine seqQ_norm ?_
      refine W_seq (by kernel_rfl) ?_
      refine W_block (id := 1) (by kernel_rfl) ?_
      refine W_seq (by kernel_rfl) ?_
      refine W_seq (by kernel_rfl) ?_
      refine W_region (by kernel_rfl) ?_
      refine WO_run (j := 2) (k := 2) (orcs := []) (kF := [0, 2, 7, 8, 20, 21]) (kL := []) (fr' := [(0, aD (.slice (.slice tI)) a0), (2, aI a2), (7, aD (.slice tI) x38.1), (8, aI x38.2), (20, aD (.slice tI) x38.1), (21, aI a2)]) (L' := []) (obs := []) rfl (by kernel_rfl) allP0 ?_
      obtain ⟨r76, h77, h⟩ := bind_of h
      refine WO_call0 (us := [none, none]) (d := 22) (p := True) (j := 3) rfl ⟨by kernel_rfl, by kernel_rfl, by kernel_rfl⟩ trivial (ref_Has_i2_ok h77) (by kernel_rfl) ?_
      refine WO_fin [0, 2, 7, 8, 22] [] (fr' := [(0, aD (.slice (.slice tI)) a0), (2, aI a2), (7, aD (.slice tI) x38.1), (8, aI x38.2), (22, aB r76)]) (L' := []) (by kernel_rfl) (by kernel_rfl) ?_
      refine seqQ_norm ?_
      refine W_cond (o := .tmp 22) (b := r76) (by kernel_rfl) (by kernel_rfl) (fun h78 => ?_) (fun h78 => ?_)
      · replace h := ofT h78 h
        refine W_seq (by kernel_rfl) ?_
        refine W_run 2 [] [6] [] (fr' := [(6, aI x38.2)]) (L' := []) (obs := []) (by kernel_rfl) (by kernel_rfl) (by kernel_rfl) allP0 ?_
        refine seqQ_norm ?_
        obtain rfl := Option.some.inj h
        refine W_ret [6] [] (fr' := [(6, aI x38.2)]) (L' := []) (by kernel_rfl) (by kernel_rfl) ?_
        refine seqQ_ret ?_
        refine blockQ_ret ?_
        refine seqQ_ret ?_
        refine round_ret ?_
        refine escQ_ret ?_
        exact exQ_mk (by kernel_rfl) (by kernel_rfl)
      · replace h := ofF h78 h
        refine W_skip [0, 2, 7, 8] [] (fr' := [(0, aD (.slice (.slice tI)) a0), (2, aI a2), (7, aD (.slice tI) x38.1), (8, aI x38.2)]) (L' := []) (by kernel_rfl) (by kernel_rfl) ?_
        refine seqQ_norm ?_
        refine W_seq (by kernel_rfl) ?_
        refine W_run 1 [] [0, 2, 7, 8, 9] [] (fr' := [(0, aD (.slice (.slice tI)) a0), (2, aI a2), (7, aD (.slice tI) x38.1), (8, aI x38.2), (9, .one (.nilS))]) (L' := []) (obs := []) (by kernel_rfl) (by kernel_rfl) (by kernel_rfl) allP0 ?_
        refine seqQ_norm ?_
        refine W_seq (by kernel_rfl) ?_
        refine W_seq (by kernel_rfl) ?_
        refine W_run 3 [] [0, 2, 8, 9, 24, 25, 26] [] (fr' := [(0, aD (.slice (.slice tI)) a0), (2, aI a2), (8, aI x38.2), (9, .one (.nilS)), (24, aD (.slice tI) x38.1), (25, aI (List.length x38.1 : Int)), (26, aI (0 : Int))]) (L' := []) (obs := []) (by kernel_rfl) (by kernel_rfl) (by kernel_rfl) allP0 ?_
        refine seqQ_norm ?_
        refine W_block (id := 2) (by kernel_rfl) ?_
        obtain ⟨v103, h104, h⟩ := bind_of h
        refine W_len (t := 24) (u := tI) (xs := x38.1) (by kernel_rfl) (fun h107 => ?_)
        obtain ⟨h105, h106⟩ := forL_iter h107 h104
        refine W_mine 9 35 tI (by kernel_rfl) ?_
        refine W_weaken [0, 2, 8, 9, 24, 25, 26] [35] (fr' := ((ref_Far_s8 a0 a2 x38) ((0 : Int), [])).1) (L' := ((ref_Far_s8 a0 a2 x38) ((0 : Int), [])).2) (by kernel_rfl) ?_
        refine W_cutK (W_loop (S := (ref_Far_s8 a0 a2 x38)) (J := (exQ (.exit 2) (ref_Far_s9 a0 a2 x38))) (by kernel_rfl) ?_ h105 _ v103 h106) ?_
        · rintro ⟨i93, x94⟩ s h
          refine W_seq (by kernel_rfl) ?_
          refine W_run 1 [] [0, 2, 8, 9, 24, 25, 26, 27] [35] (fr' := [(0, aD (.slice (.slice tI)) a0), (2, aI a2), (8, aI x38.2), (9, .one (.slc 35)), (24, aD (.slice tI) x38.1), (25, aI (List.length x38.1 : Int)), (26, aI i93), (27, aB (decide (i93 < (List.length x38.1 : Int))))]) (L' := [(35, .seq tI x94)]) (obs := []) (by kernel_rfl) (by kernel_rfl) (by kernel_rfl) allP0 ?_
          refine seqQ_norm ?_
          refine W_seq (by kernel_rfl) ?_
          refine W_cond (o := .tmp 27) (b := decide (i93 < (List.length x38.1 : Int))) (by kernel_rfl) (by kernel_rfl) (fun h98 => ?_) (fun h98 => ?_)
          · replace h := stepL_true h98 h
            obtain ⟨v96, _, h97, h, rfl⟩ := h
            refine W_skip [0, 2, 8, 9, 24, 25, 26] [35] (fr' := [(0, aD (.slice (.slice tI)) a0), (2, aI a2), (8, aI x38.2), (9, .one (.slc 35)), (24, aD (.slice tI) x38.1), (25, aI (List.length x38.1 : Int)), (26, aI i93)]) (L' := [(35, .seq tI x94)]) (by kernel_rfl) (by kernel_rfl) ?_
            refine seqQ_norm ?_
            refine W_seq (by kernel_rfl) ?_
            refine W_block (id := 3) (by kernel_rfl) ?_
            refine W_seq (by kernel_rfl) ?_
            refine W_run 3 [(1, .val (.dat tI v96))] [0, 2, 8, 9, 11, 24, 25, 26] [35] (fr' := [(0, aD (.slice (.slice tI)) a0), (2, aI a2), (8, aI x38.2), (9, .one (.slc 35)), (11, aI v96), (24, aD (.slice tI) x38.1), (25, aI (List.length x38.1 : Int)), (26, aI i93)]) (L' := [(35, .seq tI x94)]) (obs := [Idx x38.1 i93 v96]) (by kernel_rfl) (by kernel_rfl) (by kernel_rfl) (allP1 (Idx.of h97)) ?_
            refine seqQ_norm ?_
            obtain ⟨v99, h100, h⟩ := bind_of h
            obtain ⟨_, h101, h⟩ := bind_of h
            replace h101 := ck_some h101
            refine W_run 7 [(7, .val (.dat (.slice tI) v99))] [0, 2, 8, 9, 24, 25, 26] [35] (fr' := [(0, aD (.slice (.slice tI)) a0), (2, aI a2), (8, aI x38.2), (9, .one (.slc 35)), (24, aD (.slice tI) x38.1), (25, aI (List.length x38.1 : Int)), (26, aI i93)]) (L' := [(35, .seq tI (x94 ++ v99))]) (obs := [Idx a0 v96 v99, SmallLen (List.length x94 + List.length v99)]) (by kernel_rfl) (by kernel_rfl) (by kernel_rfl) (allP2 (Idx.of h100) (allP1 h101)) ?_
            refine blockQ_norm ?_
            refine seqQ_norm ?_
            obtain rfl := Option.some.inj h
            refine W_run 2 [] [0, 2, 8, 9, 24, 25, 26] [35] (fr' := [(0, aD (.slice (.slice tI)) a0), (2, aI a2), (8, aI x38.2), (9, .one (.slc 35)), (24, aD (.slice tI) x38.1), (25, aI (List.length x38.1 : Int)), (26, aI (w64 (i93 + (1 : Int))))]) (L' := [(35, .seq tI (x94 ++ v99))]) (obs := []) (by kernel_rfl) (by kernel_rfl) (by kernel_rfl) allP0 ?_
            exact round_next' (by kernel_rfl) (by kernel_rfl)
          · obtain rfl := stepL_false h98 h
            refine W_exit (id := 2) [0, 2, 8, 9] [35] (fr' := [(0, aD (.slice (.slice tI)) a0), (2, aI a2), (8, aI x38.2), (9, .one (.slc 35))]) (L' := [(35, .seq tI x94)]) (by kernel_rfl) (by kernel_rfl) ?_
            refine seqQ_exit ?_
            refine round_exit ?_
            exact exQ_mk (by kernel_rfl) (by kernel_rfl)
        · intro e fr L hJ
          obtain ⟨rfl, rfl, rfl⟩ := hJ
          refine LT_keep [0, 2, 8, 9] [35] (fr' := [(0, aD (.slice (.slice tI)) a0), (2, aI a2), (8, aI x38.2), (9, .one (.slc 35))]) (L' := [(35, .seq tI v103)]) (by kernel_rfl) ?_
          refine blockQ_hit ?_
          refine seqQ_norm ?_
          refine W_seq (by kernel_rfl) ?_
          obtain ⟨_, h108, h⟩ := bind_of h
          replace h108 := ck_some h108
          refine W_run 4 [] [0, 2, 7, 8] [37] (fr' := [(0, aD (.slice (.slice tI)) a0), (2, aI a2), (7, .one (.slc 37)), (8, aI x38.2)]) (L' := [(37, .seq tI ([] ++ v103))]) (obs := [SmallLen (List.length ([] : (List Int)) + List.length v103)]) (by kernel_rfl) (by kernel_rfl) (by kernel_rfl) (allP1 h108) ?_
          refine seqQ_norm ?_
          refine W_region (by kernel_rfl) ?_
          refine WO_run (j := 1) (k := 1) (orcs := []) (kF := [0, 2, 7, 8, 40]) (kL := [37]) (fr' := [(0, aD (.slice (.slice tI)) a0), (2, aI a2), (7, .one (.slc 37)), (8, aI x38.2), (40, .one (.slc 37))]) (L' := [(37, .seq tI ([] ++ v103))]) (obs := []) rfl (by kernel_rfl) allP0 ?_
          obtain ⟨r109, h110, h⟩ := bind_of h
          refine WO_lend [(1000, 37)] (us := [none]) (d := 41) (p := True) (j := 2) rfl ⟨by kernel_rfl, by kernel_rfl, by kernel_rfl⟩ trivial (ref_once_ok h110) (by kernel_rfl) (by kernel_rfl) ?_
          refine WO_run (j := 3) (k := 1) (orcs := []) (kF := [0, 2, 7, 8]) (kL := [37]) (fr' := [(0, aD (.slice (.slice tI)) a0), (2, aI a2), (7, aD (.slice tI) r109), (8, aI x38.2)]) (L' := [(37, .seq tI ([] ++ v103))]) (obs := []) rfl (by kernel_rfl) allP0 ?_
          refine WO_fin [0, 2, 7, 8] [] (fr' := [(0, aD (.slice (.slice tI)) a0), (2, aI a2), (7, aD (.slice tI) r109), (8, aI x38.2)]) (L' := []) (by kernel_rfl) (by kernel_rfl) ?_
          refine blockQ_norm ?_
          refine seqQ_norm ?_
          obtain rfl := Option.some.inj h
          refine W_run 3 [] [0, 2, 7, 8] [] (fr' := [(0, aD (.slice (.slice tI)) a0), (2, aI a2), (7, aD (.slice tI) r109), (8, aI (w64 (x38.2 + (1 : Int))))]) (L' := []) (obs := []) (by kernel_rfl) (by kernel_rfl) (by kernel_rfl) allP0 ?_
          exact round_next' (by kernel_rfl) (by kernel_rfl)
    · replace h := ofF h75 h
      obtain rfl := Option.some.inj h
      refine W_exit (id := 0) [] [] (fr' := []) (L' := []) (by kernel_rfl) (by kernel_rfl) ?_
      refine seqQ_exit ?_
      refine round_exit ?_
      refine escQ_brk ?_
      exact exQ_mk (by kernel_rfl) (by kernel_rfl)
  · intro e fr L hJ
    rcases v111 with v115 | v116
    · obtain ⟨rfl, rfl, rfl⟩ := hJ
      obtain rfl := Option.some.inj h
      refine LT_keep [6] [] (fr' := [(6, aI v115)]) (L' := []) (by kernel_rfl) ?_
      refine blockQ_ret ?_
      refine seqQ_ret ?_
      exact retQ_mk (by kernel_rfl) (by kernel_rfl) (by kernel_rfl)
    · obtain ⟨rfl, rfl, rfl⟩ := hJ
      refine LT_keep [] [] (fr' := []) (L' := []) (by kernel_rfl) ?_
      refine blockQ_hit ?_
      refine seqQ_norm ?_
      refine W_seq (by kernel_rfl) ?_
      refine W_run 1 [] [6] [] (fr' := [(6, aI (-1 : Int))]) (L' := []) (obs := []) (by kernel_rfl) (by kernel_rfl) (by kernel_rfl) allP0 ?_
      refine seqQ_norm ?_
      obtain rfl := Option.some.inj h
      refine W_ret [6] [] (fr' := [(6, aI (-1 : Int))]) (L' := []) (by kernel_rfl) (by kernel_rfl) ?_
      exact retQ_mk (by kernel_rfl) (by kernel_rfl) (by kernel_rfl)

@[reducible] def law_HalfCounts_s15 (a0 : (List (List Int))) (a1 : Int) (r1 : ((List Int) × Int)) (x78 : Int) (i189 : Int) (v : Int) : Fr × LL := ([(0, aD (.slice (.slice tI)) a0), (1, aI a1), (5, aD (.slice tI) r1.1), (6, aI r1.2), (8, aI x78), (9, aI v), (10, aI i189)], [])
def law_HalfCounts_b16 (a0 : (List (List Int))) (a1 : Int) (fuel : Nat) (x78 : Int) (i189 : Int) (v192 : (List Int)) (x190 : Int) : Option (Flow Int Int) :=
((ref_Far fuel a0 a1 i189).bind fun r205 =>
(ref_Within (0 : Int) r205 x78).bind fun r207 =>
bif r207 then
(some (w64 (x190 + (1 : Int))))
else
(some x190)).bind fun v210 =>
some (.next v210)
@[reducible] def law_HalfCounts_s17 (a0 : (List (List Int))) (a1 : Int) (r1 : ((List Int) × Int)) (x78 : Int) (v : Int × Int) : Fr × LL := ([(0, aD (.slice (.slice tI)) a0), (1, aI a1), (5, aD (.slice tI) r1.1), (6, aI r1.2), (8, aI x78), (9, aI v.2), (10, aI v.1)], [])
@[reducible] def law_HalfCounts_s18 (a0 : (List (List Int))) (a1 : Int) (r1 : ((List Int) × Int)) (x78 : Int) (v : Int) : Fr × LL := ([(0, aD (.slice (.slice tI)) a0), (1, aI a1), (5, aD (.slice tI) r1.1), (6, aI r1.2), (8, aI x78), (9, aI v)], [])
def law_HalfCounts_b19 (a0 : (List (List Int))) (a1 : Int) (r1 : ((List Int) × Int)) (fuel : Nat) (x78 : Int) : Option (Flow Int (Esc Bool Unit)) :=
bif (decide (x78 < (List.length r1.1 : Int))) && (decide (x78 < (List.length a0 : Int))) then
((forL (law_HalfCounts_b16 a0 a1 fuel x78) (fun x190 => x190) a0 0 (0 : Int)).bind fun v213 =>
(idx r1.1 x78).bind fun v218 =>
bif v218 != v213 then
(some (.done (.ret false)))
else
(some (.next (w64 (x78 + (1 : Int))))))
else
(some (.done (.brk ())))
@[reducible] def law_HalfCounts_s20 (a0 : (List (List Int))) (a1 : Int) (r1 : ((List Int) × Int)) (v : Int) : Fr × LL := ([(0, aD (.slice (.slice tI)) a0), (1, aI a1), (5, aD (.slice tI) r1.1), (6, aI r1.2), (8, aI v)], [])
@[reducible] def law_HalfCounts_s21 (v : Bool) : Fr × LL := ([(4, aB v)], [])
@[reducible] def law_HalfCounts_s22 (a0 : (List (List Int))) (r1 : ((List Int) × Int)) (v : Unit) : Fr × LL := ([(0, aD (.slice (.slice tI)) a0), (5, aD (.slice tI) r1.1), (6, aI r1.2)], [])
def law_HalfCounts (fuel : Nat) (a0 : (List (List Int))) (a1 : Int) : Option Bool :=
(half_Counts a0 a1).bind fun r1 =>
(ref_NextsCheck a0 [a1]).bind fun r3 =>
bif r3 != (0 : Int) then
(some ((r1.2 == r3) && ((List.length r1.1 : Int) == (0 : Int))))
else
((iter (law_HalfCounts_b19 a0 a1 r1 fuel) fuel (0 : Int)).bind fun v221 =>
match v221 with
| .ret v225 =>
(some v225)
| .brk v226 =>
(some ((r1.2 == (0 : Int)) && ((List.length r1.1 : Int) == (List.length a0 : Int)))))
theorem law_HalfCounts_ok {fuel : Nat} {a0 : (List (List Int))} {a1 : Int} {r : Bool} (h : law_HalfCounts fuel a0 a1 = some r) : FnC Try.prog 11 [aD (.slice (.slice tI)) a0, aI a1] [] (aB r) [] := by
  refine fnC_of_W (B := bodyOf Try.f11) (n := 72) Try.func11 (by kernel_rfl) (by kernel_rfl) (by kernel_rfl) (by kernel_rfl) (by kernel_rfl) ?_
  intro K
  refine W_seq (by kernel_rfl) ?_
  refine W_run 1 [] [0, 1] [] (fr' := [(0, aD (.slice (.slice tI)) a0), (1, aI a1)]) (L' := []) (obs := []) (by kernel_rfl) (by kernel_rfl) (by kernel_rfl) allP0 ?_
  refine seqQ_norm ?_
  refine W_seq (by kernel_rfl) ?_
  refine W_region (by kernel_rfl) ?_
  refine WO_run (j := 2) (k := 2) (orcs := []) (kF := [0, 1, 12, 13]) (kL := []) (fr' := [(0, aD (.slice (.slice tI)) a0), (1, aI a1), (12, aD (.slice (.slice tI)) a0), (13, aI a1)]) (L' := []) (obs := []) rfl (by kernel_rfl) allP0 ?_
  obtain ⟨r1, h2, h⟩ := bind_of h
  refine WO_call0 (us := [none, none]) (d := 14) (p := True) (j := 3) rfl ⟨by kernel_rfl, by kernel_rfl, by kernel_rfl⟩ trivial (half_Counts_ok h2) (by kernel_rfl) ?_
  refine WO_run (j := 8) (k := 5) (orcs := []) (kF := [0, 1, 5, 6]) (kL := []) (fr' := [(0, aD (.slice (.slice tI)) a0), (1, aI a1), (5, aD (.slice tI) r1.1), (6, aI r1.2)]) (L' := []) (obs := []) rfl (by kernel_rfl) allP0 ?_
  refine WO_fin [0, 1, 5, 6] [] (fr' := [(0, aD (.slice (.slice tI)) a0), (1, aI a1), (5, aD (.slice tI) r1.1), (6, aI r1.2)]) (L' := []) (by kernel_rfl) (by kernel_rfl) ?_
  refine seqQ_norm ?_
  refine W_seq (by kernel_rfl) ?_
  refine W_region (by kernel_rfl) ?_
  refine WO_run (j := 3) (k := 3) (orcs := []) (kF := [0, 1, 5, 6, 17, 19]) (kL := [19]) (fr' := [(0, aD (.slice (.slice tI)) a0), (1, aI a1), (5, aD (.slice tI) r1.1), (6, aI r1.2), (17, aD (.slice (.slice tI)) a0), (19, .one (.slc 19))]) (L' := [(19, .seq tI [a1])]) (obs := []) rfl (by kernel_rfl) allP0 ?_
  obtain ⟨r3, h4, h⟩ := bind_of h
  refine WO_frz 19 (by kernel_rfl) ?_
  refine WO_call0 (us := [none, none]) (d := 20) (p := True) (j := 4) rfl ⟨by kernel_rfl, by kernel_rfl, by kernel_rfl⟩ trivial (ref_NextsCheck_ok h4) (by kernel_rfl) ?_
  refine WO_run (j := 5) (k := 1) (orcs := []) (kF := [0, 1, 5, 6, 7]) (kL := []) (fr' := [(0, aD (.slice (.slice tI)) a0), (1, aI a1), (5, aD (.slice tI) r1.1), (6, aI r1.2), (7, aI r3)]) (L' := []) (obs := []) rfl (by kernel_rfl) allP0 ?_
  refine WO_fin [0, 1, 5, 6, 7] [] (fr' := [(0, aD (.slice (.slice tI)) a0), (1, aI a1), (5, aD (.slice tI) r1.1), (6, aI r1.2), (7, aI r3)]) (L' := []) (by kernel_rfl) (by kernel_rfl) ?_
  refine seqQ_norm ?_
  refine W_seq (by kernel_rfl) ?_
  refine W_seq (by kernel_rfl) ?_
  refine W_run 2 [] [0, 1, 5, 6, 7, 22] [] (fr' := [(0, aD (.slice (.slice tI)) a0), (1, aI a1), (5, aD (.slice tI) r1.1), (6, aI r1.2), (7, aI r3), (22, aB (r3 != (0 : Int)))]) (L' := []) (obs := []) (by kernel_rfl) (by kernel_rfl) (by kernel_rfl) allP0 ?_
  refine seqQ_norm ?_
  refine W_cond (o := .tmp 22) (b := r3 != (0 : Int)) (by kernel_rfl) (by kernel_rfl) (fun h5 => ?_) (fun h5 => ?_)
  · replace h := ofT h5 h
    refine W_seq (by kernel_rfl) ?_
    refine W_run 9 [] [4] [] (fr' := [(4, aB ((r1.2 == r3) && ((List.length r1.1 : Int) == (0 : Int))))]) (L' := []) (obs := []) (by kernel_rfl) (by kernel_rfl) (by kernel_rfl) allP0 ?_
    refine seqQ_norm ?_
    obtain rfl := Option.some.inj h
    refine W_ret [4] [] (fr' := [(4, aB ((r1.2 == r3) && ((List.length r1.1 : Int) == (0 : Int))))]) (L' := []) (by kernel_rfl) (by kernel_rfl) ?_
    refine seqQ_ret ?_
    exact retQ_mk (by kernel_rfl) (by kernel_rfl) (by kernel_rfl)
  · replace h := ofF h5 h
    refine W_skip [0, 1, 5, 6] [] (fr' := [(0, aD (.slice (.slice tI)) a0), (1, aI a1), (5, aD (.slice tI) r1.1), (6, aI r1.2)]) (L' := []) (by kernel_rfl) (by kernel_rfl) ?_
    refine seqQ_norm ?_
    refine W_seq (by kernel_rfl) ?_
    refine W_seq (by kernel_rfl) ?_
    refine W_run 1 [] [0, 1, 5, 6, 8] [] (fr' := [(0, aD (.slice (.slice tI)) a0), (1, aI a1), (5, aD (.slice tI) r1.1), (6, aI r1.2), (8, aI (0 : Int))]) (L' := []) (obs := []) (by kernel_rfl) (by kernel_rfl) (by kernel_rfl) allP0 ?_
    refine seqQ_norm ?_
    refine W_block (id := 0) (by kernel_rfl) ?_
    obtain ⟨v221, h222, h⟩ := bind_of h
    refine W_weaken [0, 1, 5, 6, 8] [] (fr' := ((law_HalfCounts_s20 a0 a1 r1) (0 : Int)).1) (L' := ((law_HalfCounts_s20 a0 a1 r1) (0 : Int)).2) (by kernel_rfl) ?_
    refine W_cutK (W_loop (S := (law_HalfCounts_s20 a0 a1 r1)) (J := (escQ (exQ .ret law_HalfCounts_s21) (exQ (.exit 0) (law_HalfCounts_s22 a0 r1)))) (by kernel_rfl) ?_ fuel _ v221 h222) ?_
    · rintro x78 s h
      refine W_seq (by kernel_rfl) ?_
      refine W_seq (by kernel_rfl) ?_
      refine W_run 10 [] [0, 1, 5, 6, 8, 40] [] (fr' := [(0, aD (.slice (.slice tI)) a0), (1, aI a1), (5, aD (.slice tI) r1.1), (6, aI r1.2), (8, aI x78), (40, aB ((decide (x78 < (List.length r1.1 : Int))) && (decide (x78 < (List.length a0 : Int)))))]) (L' := []) (obs := []) (by kernel_rfl) (by kernel_rfl) (by kernel_rfl) allP0 ?_
      refine seqQ_norm ?_
      refine W_cond (o := .tmp 40) (b := (decide (x78 < (List.length r1.1 : Int))) && (decide (x78 < (List.length a0 : Int)))) (by kernel_rfl) (by kernel_rfl) (fun h150 => ?_) (fun h150 => ?_)
      · replace h := ofT h150 h
        refine W_skip [0, 1, 5, 6, 8] [] (fr' := [(0, aD (.slice (.slice tI)) a0), (1, aI a1), (5, aD (.slice tI) r1.1), (6, aI r1.2), (8, aI x78)]) (L' := []) (by kernel_rfl) (by kernel_rfl) ?_
        refine seqQ_norm ?_
        refine W_seq (by kernel_rfl) ?_
        refine W_block (id := 1) (by kernel_rfl) ?_
        refine W_seq (by kernel_rfl) ?_
        refine W_run 1 [] [0, 1, 5, 6, 8, 9] [] (fr' := [(0, aD (.slice (.slice tI)) a0), (1, aI a1), (5, aD (.slice tI) r1.1), (6, aI r1.2), (8, aI x78), (9, aI (0 : Int))]) (L' := []) (obs := []) (by kernel_rfl) (by kernel_rfl) (by kernel_rfl) allP0 ?_
        refine seqQ_norm ?_
        refine W_seq (by kernel_rfl) ?_
        refine W_seq (by kernel_rfl) ?_
        refine W_run 1 [] [0, 1, 5, 6, 8, 9, 10] [] (fr' := [(0, aD (.slice (.slice tI)) a0), (1, aI a1), (5, aD (.slice tI) r1.1), (6, aI r1.2), (8, aI x78), (9, aI (0 : Int)), (10, aI (0 : Int))]) (L' := []) (obs := []) (by kernel_rfl) (by kernel_rfl) (by kernel_rfl) allP0 ?_
        refine seqQ_norm ?_
        refine W_block (id := 2) (by kernel_rfl) ?_
        obtain ⟨v213, h214, h⟩ := bind_of h
        refine W_len (t := 0) (u := (.slice tI)) (xs := a0) (by kernel_rfl) (fun h217 => ?_)
        obtain ⟨h215, h216⟩ := forL_iter h217 h214
        refine W_weaken [0, 1, 5, 6, 8, 9, 10] [] (fr' := ((law_HalfCounts_s17 a0 a1 r1 x78) ((0 : Int), (0 : Int))).1) (L' := ((law_HalfCounts_s17 a0 a1 r1 x78) ((0 : Int), (0 : Int))).2) (by kernel_rfl) ?_
        refine W_cutK (W_loop (S := (law_HalfCounts_s17 a0 a1 r1 x78)) (J := (exQ (.exit 2) (law_HalfCounts_s18 a0 a1 r1 x78))) (by kernel_rfl) ?_ h215 _ v213 h216) ?_
        · rintro ⟨i189, x190⟩ s h
          refine W_seq (by kernel_rfl) ?_
          refine W_seq (by kernel_rfl) ?_
          refine W_run 4 [] [0, 1, 5, 6, 8, 9, 10, 46] [] (fr' := [(0, aD (.slice (.slice tI)) a0), (1, aI a1), (5, aD (.slice tI) r1.1), (6, aI r1.2), (8, aI x78), (9, aI x190), (10, aI i189), (46, aB (decide (i189 < (List.length a0 : Int))))]) (L' := []) (obs := []) (by kernel_rfl) (by kernel_rfl) (by kernel_rfl) allP0 ?_
          refine seqQ_norm ?_
          refine W_cond (o := .tmp 46) (b := decide (i189 < (List.length a0 : Int))) (by kernel_rfl) (by kernel_rfl) (fun h194 => ?_) (fun h194 => ?_)
          · replace h := stepL_true h194 h
            obtain ⟨v192, _, h193, h, rfl⟩ := h
            refine W_skip [0, 1, 5, 6, 8, 9, 10] [] (fr' := [(0, aD (.slice (.slice tI)) a0), (1, aI a1), (5, aD (.slice tI) r1.1), (6, aI r1.2), (8, aI x78), (9, aI x190), (10, aI i189)]) (L' := []) (by kernel_rfl) (by kernel_rfl) ?_
            refine seqQ_norm ?_
            refine W_seq (by kernel_rfl) ?_
            obtain ⟨v210, h211, h⟩ := bind_of h
            refine W_cutK (Q' := (exQ .normal (law_HalfCounts_s15 a0 a1 r1 x78 i189)) v210) ?_ ?_
            · replace h := h211
              refine W_block (id := 3) (by kernel_rfl) ?_
              refine W_seq (by kernel_rfl) ?_
              refine W_region (by kernel_rfl) ?_
              refine WO_run (j := 3) (k := 3) (orcs := []) (kF := [0, 1, 5, 6, 8, 9, 10, 49, 50, 51]) (kL := []) (fr' := [(0, aD (.slice (.slice tI)) a0), (1, aI a1), (5, aD (.slice tI) r1.1), (6, aI r1.2), (8, aI x78), (9, aI x190), (10, aI i189), (49, aD (.slice (.slice tI)) a0), (50, aI a1), (51, aI i189)]) (L' := []) (obs := []) rfl (by kernel_rfl) allP0 ?_
              obtain ⟨r205, h206, h⟩ := bind_of h
              refine WO_call0 (us := [none, none, none]) (d := 52) (p := True) (j := 4) rfl ⟨by kernel_rfl, by kernel_rfl, by kernel_rfl⟩ trivial (ref_Far_ok h206) (by kernel_rfl) ?_
              refine WO_run (j := 5) (k := 1) (orcs := []) (kF := [0, 1, 5, 6, 8, 9, 10, 52, 53]) (kL := []) (fr' := [(0, aD (.slice (.slice tI)) a0), (1, aI a1), (5, aD (.slice tI) r1.1), (6, aI r1.2), (8, aI x78), (9, aI x190), (10, aI i189), (52, aI r205), (53, aI x78)]) (L' := []) (obs := []) rfl (by kernel_rfl) allP0 ?_
              obtain ⟨r207, h208, h⟩ := bind_of h
              refine WO_call0 (us := [none, none, none]) (d := 54) (p := True) (j := 6) rfl ⟨by kernel_rfl, by kernel_rfl, by kernel_rfl⟩ trivial (ref_Within_ok h208) (by kernel_rfl) ?_
              refine WO_fin [0, 1, 5, 6, 8, 9, 10, 54] [] (fr' := [(0, aD (.slice (.slice tI)) a0), (1, aI a1), (5, aD (.slice tI) r1.1), (6, aI r1.2), (8, aI x78), (9, aI x190), (10, aI i189), (54, aB r207)]) (L' := []) (by kernel_rfl) (by kernel_rfl) ?_
              refine seqQ_norm ?_
              refine W_cond (o := .tmp 54) (b := r207) (by kernel_rfl) (by kernel_rfl) (fun h209 => ?_) (fun h209 => ?_)
              · replace h := ofT h209 h
                obtain rfl := Option.some.inj h
                refine W_run 3 [] [0, 1, 5, 6, 8, 9, 10] [] (fr' := [(0, aD (.slice (.slice tI)) a0), (1, aI a1), (5, aD (.slice tI) r1.1), (6, aI r1.2), (8, aI x78), (9, aI (w64 (x190 + (1 : Int)))), (10, aI i189)]) (L' := []) (obs := []) (by kernel_rfl) (by kernel_rfl) (by kernel_rfl) allP0 ?_
                refine blockQ_norm ?_
                exact exQ_mk (by kernel_rfl) (by kernel_rfl)
              · replace h := ofF h209 h
                obtain rfl := Option.some.inj h
                refine W_skip [0, 1, 5, 6, 8, 9, 10] [] (fr' := [(0, aD (.slice (.slice tI)) a0), (1, aI a1), (5, aD (.slice tI) r1.1), (6, aI r1.2), (8, aI x78), (9, aI x190), (10, aI i189)]) (L' := []) (by kernel_rfl) (by kernel_rfl) ?_
                refine blockQ_norm ?_
                exact exQ_mk (by kernel_rfl) (by kernel_rfl)
            · intro e fr L hJ
              obtain ⟨rfl, rfl, rfl⟩ := hJ
              refine LT_keep [0, 1, 5, 6, 8, 9, 10] [] (fr' := [(0, aD (.slice (.slice tI)) a0), (1, aI a1), (5, aD (.slice tI) r1.1), (6, aI r1.2), (8, aI x78), (9, aI v210), (10, aI i189)]) (L' := []) (by kernel_rfl) ?_
              refine seqQ_norm ?_
              obtain rfl := Option.some.inj h
              refine W_run 3 [] [0, 1, 5, 6, 8, 9, 10] [] (fr' := [(0, aD (.slice (.slice tI)) a0), (1, aI a1), (5, aD (.slice tI) r1.1), (6, aI r1.2), (8, aI x78), (9, aI v210), (10, aI (w64 (i189 + (1 : Int))))]) (L' := []) (obs := []) (by kernel_rfl) (by kernel_rfl) (by kernel_rfl) allP0 ?_
              exact round_next' (by kernel_rfl) (by kernel_rfl)
          · obtain rfl := stepL_false h194 h
            refine W_exit (id := 2) [0, 1, 5, 6, 8, 9] [] (fr' := [(0, aD (.slice (.slice tI)) a0), (1, aI a1), (5, aD (.slice tI) r1.1), (6, aI r1.2), (8, aI x78), (9, aI x190)]) (L' := []) (by kernel_rfl) (by kernel_rfl) ?_
            refine seqQ_exit ?_
            refine round_exit ?_
            exact exQ_mk (by kernel_rfl) (by kernel_rfl)
        · intro e fr L hJ
          obtain ⟨rfl, rfl, rfl⟩ := hJ
          refine LT_keep [0, 1, 5, 6, 8, 9] [] (fr' := [(0, aD (.slice (.slice tI)) a0), (1, aI a1), (5, aD (.slice tI) r1.1), (6, aI r1.2), (8, aI x78), (9, aI v213)]) (L' := []) (by kernel_rfl) ?_
          refine blockQ_hit ?_
          refine seqQ_norm ?_
          refine W_seq (by kernel_rfl) ?_
          obtain ⟨v218, h219, h⟩ := bind_of h
          refine W_run 6 [(5, .val (.dat tI v218))] [0, 1, 5, 6, 8, 62] [] (fr' := [(0, aD (.slice (.slice tI)) a0), (1, aI a1), (5, aD (.slice tI) r1.1), (6, aI r1.2), (8, aI x78), (62, aB (v218 != v213))]) (L' := []) (obs := [Idx r1.1 x78 v218]) (by kernel_rfl) (by kernel_rfl) (by kernel_rfl) (allP1 (Idx.of h219)) ?_
          refine seqQ_norm ?_
          refine W_cond (o := .tmp 62) (b := v218 != v213) (by kernel_rfl) (by kernel_rfl) (fun h220 => ?_) (fun h220 => ?_)
          · replace h := ofT h220 h
            refine W_seq (by kernel_rfl) ?_
            refine W_run 1 [] [4] [] (fr' := [(4, aB false)]) (L' := []) (obs := []) (by kernel_rfl) (by kernel_rfl) (by kernel_rfl) allP0 ?_
            refine seqQ_norm ?_
            obtain rfl := Option.some.inj h
            refine W_ret [4] [] (fr' := [(4, aB false)]) (L' := []) (by kernel_rfl) (by kernel_rfl) ?_
            refine blockQ_ret ?_
            refine seqQ_ret ?_
            refine round_ret ?_
            refine escQ_ret ?_
            exact exQ_mk (by kernel_rfl) (by kernel_rfl)
          · replace h := ofF h220 h
            refine W_skip [0, 1, 5, 6, 8] [] (fr' := [(0, aD (.slice (.slice tI)) a0), (1, aI a1), (5, aD (.slice tI) r1.1), (6, aI r1.2), (8, aI x78)]) (L' := []) (by kernel_rfl) (by kernel_rfl) ?_
            refine blockQ_norm ?_
            refine seqQ_norm ?_
            obtain rfl := Option.some.inj h
            refine W_run 3 [] [0, 1, 5, 6, 8] [] (fr' := [(0, aD (.slice (.slice tI)) a0), (1, aI a1), (5, aD (.slice tI) r1.1), (6, aI r1.2), (8, aI (w64 (x78 + (1 : Int))))]) (L' := []) (obs := []) (by kernel_rfl) (by kernel_rfl) (by kernel_rfl) allP0 ?_
            exact round_next' (by kernel_rfl) (by kernel_rfl)
      · replace h := ofF h150 h
        obtain rfl := Option.some.inj h
        refine W_exit (id := 0) [0, 5, 6] [] (fr' := [(0, aD (.slice (.slice tI)) a0), (5, aD (.slice tI) r1.1), (6, aI r1.2)]) (L' := []) (by kernel_rfl) (by kernel_rfl) ?_
        refine seqQ_exit ?_
        refine round_exit ?_
        refine escQ_brk ?_
        exact exQ_mk (by kernel_rfl) (by kernel_rfl)
    · intro e fr L hJ
      rcases v221 with v225 | v226
      · obtain ⟨rfl, rfl, rfl⟩ := hJ
        obtain rfl := Option.some.inj h
        refine LT_keep [4] [] (fr' := [(4, aB v225)]) (L' := []) (by kernel_rfl) ?_
        refine blockQ_ret ?_
        refine seqQ_ret ?_
        exact retQ_mk (by kernel_rfl) (by kernel_rfl) (by kernel_rfl)
      · obtain ⟨rfl, rfl, rfl⟩ := hJ
        refine LT_keep [0, 5, 6] [] (fr' := [(0, aD (.slice (.slice tI)) a0), (5, aD (.slice tI) r1.1), (6, aI r1.2)]) (L' := []) (by kernel_rfl) ?_
        refine blockQ_hit ?_
        refine seqQ_norm ?_
        refine W_seq (by kernel_rfl) ?_
        refine W_run 10 [] [4] [] (fr' := [(4, aB ((r1.2 == (0 : Int)) && ((List.length r1.1 : Int) == (List.length a0 : Int))))]) (L' := []) (obs := []) (by kernel_rfl) (by kernel_rfl) (by kernel_rfl) allP0 ?_
        refine seqQ_norm ?_
        obtain rfl := Option.some.inj h
        refine W_ret [4] [] (fr' := [(4, aB ((r1.2 == (0 : Int)) && ((List.length r1.1 : Int) == (List.length a0 : Int))))]) (L' := []) (by kernel_rfl) (by kernel_rfl) ?_
        exact retQ_mk (by kernel_rfl) (by kernel_rfl) (by kernel_rfl)
end Go.Proofs.Ytkkmiclmbhbmjaa.halfCounts
